/- Part 4 of the proof: 31 texts, one behind the other. -/
import Derived.Deep.RegionLaw
import Derived.BigQuiet
import Derived.Test.YtgmbfohkpfineaaGreatDoorM3
set_option maxRecDepth 100000
set_option maxHeartbeats 8000000
set_option linter.all false
set_option linter.unusedVariables false
set_option linter.unusedSimpArgs false
namespace Go.Proofs.YtgmbfohkpfineaaGreatDoor
open Go.RowKit
theorem fm_succ {α β:Type} {f:α→Option β} {l:List α} {k:Nat} (h:k < l.length):(l.take (k+1)).filterMap f=(l.take k).filterMap f++(f l[k]).toList:=by
 rw [List.take_add_one,List.getElem?_eq_getElem h,List.filterMap_append]
 cases hf:f l[k] <;> simp [hf]
theorem fm_len {α β:Type} (f:α→Option β) (l:List α) (k:Nat):((l.take k).filterMap f).length≤k:=by
 have:=List.length_filterMap_le f (l.take k)
 rw [List.length_take] at this;omega
structure TkS where
 k:Nat
 a:Option Addr
 c:Nat
 F:List Nat
 a2:Option Addr
 c2:Nat
 F2:List Nat
 a3:Option Addr
 c3:Nat
 F3:List Nat
theorem tickRequests_f (l:List Request) (c d:Int) (a0:Option Addr) (c0:Nat) (F:List Nat) (hl:l.length≤1000000) (ht:∀r∈l,0≤r.tries∧r.tries≤3) (c0_:0≤c) (c1_:c≤1000000) (d0_:-1000000≤d) (d1_:d≤1000000) :
  Fn Tryz.prog 207 [.slice a0 l.length c0,.int .i64 c,.int .i64 d] [.sl ERequest (.slice a0 l.length c0) l F] [] (fun (_:TkS)=>True) (fun s=>.tuple #[.slice s.a (l.filterMap (tkO c d)).length s.c,.slice s.a2 (l.filterMap (tkS c)).length s.c2,.slice s.a3 (l.filterMap (tkL c)).length s.c3]) (fun s=>[.ow ERequest 235 (.slice s.a (l.filterMap (tkO c d)).length s.c) (l.filterMap (tkO c d)) s.F,.ow EInt 3 (.slice s.a2 (l.filterMap (tkS c)).length s.c2) (l.filterMap (tkS c)) s.F2,.ow EInt 3 (.slice s.a3 (l.filterMap (tkL c)).length s.c3) (l.filterMap (tkL c)) s.F3]):=by
 refine enter Tryz.func207 rfl Tryz.ntmps207 fun w0=>?_
 refine go ?_;intros
 refine t_nilow ERequest 235 ?_
 refine t_nilow EInt 3 ?_
 refine t_nilow EInt 3 ?_
 refine c_loopS [1,2,6,7,8,14,15] (fun s:TkS=>[(16,.int .i64 (s.k:Nat)),(9,.slice s.a ((l.take s.k).filterMap (tkO c d)).length s.c),(10,.slice s.a2 ((l.take s.k).filterMap (tkS c)).length s.c2),(11,.slice s.a3 ((l.take s.k).filterMap (tkL c)).length s.c3)]) (fun s=>[.ow ERequest 235 (.slice s.a ((l.take s.k).filterMap (tkO c d)).length s.c) ((l.take s.k).filterMap (tkO c d)) s.F,.ow EInt 3 (.slice s.a2 ((l.take s.k).filterMap (tkS c)).length s.c2) ((l.take s.k).filterMap (tkS c)) s.F2,.ow EInt 3 (.slice s.a3 ((l.take s.k).filterMap (tkL c)).length s.c3) ((l.take s.k).filterMap (tkL c)) s.F3]) (fun s=>s.k≤l.length) (fun s=>l.length - s.k) ⟨0,_,_,_,_,_,_,_,_,_⟩ (Nat.zero_le _) fun s hs=>?_
 obtain ⟨k,a4,c4,F4,a5,c5,F5,a6,c6,F6⟩:=s
 dsimp only at hs ⊢
 have h1:=fm_len (tkO c d) l k
 have h2:=fm_len (tkS c) l k
 have h3:=fm_len (tkL c) l k
 refine go ?_;intros
 refine c_if rfl (fun h4=>?_) (fun h4=>?_)
 ·have hk:k < l.length:=by omega
  obtain ⟨t0,t1⟩:=ht _ (List.getElem_mem hk)
  refine atRequest (xs:=l) k ?_
  rintro hi b o e
  rw [e]
  refine go ?_;intros
  refine c_if rfl (fun h5=>?_) (fun h5=>?_)
  ·have h5':c < l[k].untl:=by omega
   refine go ?_;intros
   have eo:((l.take (k+1)).filterMap (tkO c d))=((l.take k).filterMap (tkO c d))++[l[k]]:=by rw [fm_succ hk];simp [tkO,h5']
   have es:((l.take (k+1)).filterMap (tkS c))=((l.take k).filterMap (tkS c)):=by rw [fm_succ hk];simp [tkS,h5']
   have el:((l.take (k+1)).filterMap (tkL c))=((l.take k).filterMap (tkL c)):=by rw [fm_succ hk];simp [tkL,h5']
   apply wO
   refine ap1 (ys:=[l[k]]) (flatRequest l[k]) one_ERequest fun a7 c7 F7=>?_
   refine go ?_;intros
   rw [←eo,←es,←el]
   refine n_lp (⟨k+1,_,_,_,_,_,_,_,_,_⟩:TkS) (by show k+1≤l.length;omega) (by show l.length - (k+1) < l.length - k;omega)
  refine go ?_;intros
  refine c_if rfl (fun h6=>?_) (fun h6=>?_)
  ·refine go ?_;intros
   have eo:((l.take (k+1)).filterMap (tkO c d))=((l.take k).filterMap (tkO c d)):=by rw [fm_succ hk];simp [tkO,h5,h6]
   have es:((l.take (k+1)).filterMap (tkS c))=((l.take k).filterMap (tkS c)):=by rw [fm_succ hk];simp [tkS,h5,h6]
   have el:((l.take (k+1)).filterMap (tkL c))=((l.take k).filterMap (tkL c))++[l[k].number]:=by rw [fm_succ hk];simp [tkL,h5,h6]
   apply wO
   refine ap1 (ys:=[l[k].number]) (rep_int _) one_EInt fun a8 c8 F8=>?_
   refine go ?_;intros
   rw [←eo,←es,←el]
   refine n_lp (⟨k+1,_,_,_,_,_,_,_,_,_⟩:TkS) (by show k+1≤l.length;omega) (by show l.length - (k+1) < l.length - k;omega)
  refine go ?_;intros
  refine c_if rfl (fun h7=>?_) (fun h7=>?_)
  ·refine go ?_;intros
   have eo:((l.take (k+1)).filterMap (tkO c d))=((l.take k).filterMap (tkO c d))++[(⟨l[k].number,2,c+3,l[k].tries+1⟩:Request)]:=by rw [fm_succ hk];simp [tkO,h5,h6,h7]
   have es:((l.take (k+1)).filterMap (tkS c))=((l.take k).filterMap (tkS c))++[l[k].number]:=by rw [fm_succ hk];simp [tkS,h5,h6,h7]
   have el:((l.take (k+1)).filterMap (tkL c))=((l.take k).filterMap (tkL c)):=by rw [fm_succ hk];simp [tkL,h5,h6,h7]
   apply wO
   refine ap1 (ys:=[l[k].number]) (rep_int _) one_EInt fun a8 c8 F8=>?_
   refine go ?_;intros
   apply wO
   refine ap1 (ys:=[(⟨l[k].number,2,c+3,l[k].tries+1⟩:Request)]) (flatRequest (⟨l[k].number,2,c+3,l[k].tries+1⟩:Request)) one_ERequest fun a7 c7 F7=>?_
   refine go ?_;intros
   rw [←eo,←es,←el]
   refine n_lp (⟨k+1,_,_,_,_,_,_,_,_,_⟩:TkS) (by show k+1≤l.length;omega) (by show l.length - (k+1) < l.length - k;omega)
  ·refine go ?_;intros
   have eo:((l.take (k+1)).filterMap (tkO c d))=((l.take k).filterMap (tkO c d))++[(⟨l[k].number,1,c+d,l[k].tries⟩:Request)]:=by rw [fm_succ hk];simp [tkO,h5,h6,h7]
   have es:((l.take (k+1)).filterMap (tkS c))=((l.take k).filterMap (tkS c)):=by rw [fm_succ hk];simp [tkS,h5,h6,h7]
   have el:((l.take (k+1)).filterMap (tkL c))=((l.take k).filterMap (tkL c)):=by rw [fm_succ hk];simp [tkL,h5,h6,h7]
   apply wO
   refine ap1 (ys:=[(⟨l[k].number,1,c+d,l[k].tries⟩:Request)]) (flatRequest (⟨l[k].number,1,c+d,l[k].tries⟩:Request)) one_ERequest fun a7 c7 F7=>?_
   refine go ?_;intros
   rw [←eo,←es,←el]
   refine n_lp (⟨k+1,_,_,_,_,_,_,_,_,_⟩:TkS) (by show k+1≤l.length;omega) (by show l.length - (k+1) < l.length - k;omega)
 ·obtain rfl:k=l.length:=by omega
  rw [List.take_length]
  refine go ?_;intros
  refine ret ⟨0,_,_,_,_,_,_,_,_,_⟩ trivial rfl
theorem l12Tick_f (l:List Request) (c d:Int) (a0:Option Addr) (c0:Nat) (F:List Nat) (hl:l.length≤1000000) (ht:∀r∈l,0≤r.tries∧r.tries≤3) (c0_:0≤c) (c1_:c≤1000000) (d0_:-1000000≤d) (d1_:d≤1000000) :
  Fn Tryz.prog 224 [.slice a0 l.length c0,.int .i64 c,.int .i64 d] [.sl ERequest (.slice a0 l.length c0) l F] [] (fun (_:TkS)=>True) (fun s=>.tuple #[.slice s.a (l.filterMap (tkO c d)).length s.c,.slice s.a2 (l.filterMap (tkS c)).length s.c2,.slice s.a3 (l.filterMap (tkL c)).length s.c3]) (fun s=>[.ow ERequest 235 (.slice s.a (l.filterMap (tkO c d)).length s.c) (l.filterMap (tkO c d)) s.F,.ow EInt 3 (.slice s.a2 (l.filterMap (tkS c)).length s.c2) (l.filterMap (tkS c)) s.F2,.ow EInt 3 (.slice s.a3 (l.filterMap (tkL c)).length s.c3) (l.filterMap (tkL c)) s.F3]):=by
 refine enter Tryz.func224 rfl Tryz.ntmps224 fun w0=>?_
 refine go ?_;intros
 refine t_emp EInt ?_
 refine t_emp EInt ?_
 refine t_emp ERequest ?_
 refine c_loopS [0,1,2,6,7,8] (fun s:TkS=>[(12,.int .i64 (s.k:Nat)),(9,.slice s.a ((l.take s.k).filterMap (tkO c d)).length s.c),(10,.slice s.a2 ((l.take s.k).filterMap (tkS c)).length s.c2),(11,.slice s.a3 ((l.take s.k).filterMap (tkL c)).length s.c3)]) (fun s=>[.ow ERequest 235 (.slice s.a ((l.take s.k).filterMap (tkO c d)).length s.c) ((l.take s.k).filterMap (tkO c d)) s.F,.ow EInt 3 (.slice s.a2 ((l.take s.k).filterMap (tkS c)).length s.c2) ((l.take s.k).filterMap (tkS c)) s.F2,.ow EInt 3 (.slice s.a3 ((l.take s.k).filterMap (tkL c)).length s.c3) ((l.take s.k).filterMap (tkL c)) s.F3]) (fun s=>s.k≤l.length) (fun s=>l.length - s.k) ⟨0,_,_,_,_,_,_,_,_,_⟩ (Nat.zero_le _) fun s hs=>?_
 obtain ⟨k,a4,c4,F4,a5,c5,F5,a6,c6,F6⟩:=s
 dsimp only at hs ⊢
 have h1:=fm_len (tkO c d) l k
 have h2:=fm_len (tkS c) l k
 have h3:=fm_len (tkL c) l k
 refine go ?_;intros
 refine c_if rfl (fun h4=>?_) (fun h4=>?_)
 ·have hk:k < l.length:=by omega
  obtain ⟨t0,t1⟩:=ht _ (List.getElem_mem hk)
  refine atRequest (xs:=l) k ?_
  rintro hi b o e
  rw [e]
  refine go ?_;intros
  refine c_if rfl (fun h5=>?_) (fun h5=>?_)
  ·have h5':c < l[k].untl:=by omega
   refine go ?_;intros
   have eo:((l.take (k+1)).filterMap (tkO c d))=((l.take k).filterMap (tkO c d))++[l[k]]:=by rw [fm_succ hk];simp [tkO,h5']
   have es:((l.take (k+1)).filterMap (tkS c))=((l.take k).filterMap (tkS c)):=by rw [fm_succ hk];simp [tkS,h5']
   have el:((l.take (k+1)).filterMap (tkL c))=((l.take k).filterMap (tkL c)):=by rw [fm_succ hk];simp [tkL,h5']
   apply wO
   refine ap1 (ys:=[l[k]]) (flatRequest l[k]) one_ERequest fun a7 c7 F7=>?_
   refine go ?_;intros
   rw [←eo,←es,←el]
   refine n_lp (⟨k+1,_,_,_,_,_,_,_,_,_⟩:TkS) (by show k+1≤l.length;omega) (by show l.length - (k+1) < l.length - k;omega)
  refine go ?_;intros
  refine c_if rfl (fun h6=>?_) (fun h6=>?_)
  ·refine go ?_;intros
   have eo:((l.take (k+1)).filterMap (tkO c d))=((l.take k).filterMap (tkO c d)):=by rw [fm_succ hk];simp [tkO,h5,h6]
   have es:((l.take (k+1)).filterMap (tkS c))=((l.take k).filterMap (tkS c)):=by rw [fm_succ hk];simp [tkS,h5,h6]
   have el:((l.take (k+1)).filterMap (tkL c))=((l.take k).filterMap (tkL c))++[l[k].number]:=by rw [fm_succ hk];simp [tkL,h5,h6]
   apply wO
   refine ap1 (ys:=[l[k].number]) (rep_int _) one_EInt fun a8 c8 F8=>?_
   refine go ?_;intros
   rw [←eo,←es,←el]
   refine n_lp (⟨k+1,_,_,_,_,_,_,_,_,_⟩:TkS) (by show k+1≤l.length;omega) (by show l.length - (k+1) < l.length - k;omega)
  refine go ?_;intros
  refine c_if rfl (fun h7=>?_) (fun h7=>?_)
  ·refine go ?_;intros
   have eo:((l.take (k+1)).filterMap (tkO c d))=((l.take k).filterMap (tkO c d))++[(⟨l[k].number,2,c+3,l[k].tries+1⟩:Request)]:=by rw [fm_succ hk];simp [tkO,h5,h6,h7]
   have es:((l.take (k+1)).filterMap (tkS c))=((l.take k).filterMap (tkS c))++[l[k].number]:=by rw [fm_succ hk];simp [tkS,h5,h6,h7]
   have el:((l.take (k+1)).filterMap (tkL c))=((l.take k).filterMap (tkL c)):=by rw [fm_succ hk];simp [tkL,h5,h6,h7]
   apply wO
   refine ap1 (ys:=[l[k].number]) (rep_int _) one_EInt fun a8 c8 F8=>?_
   refine go ?_;intros
   apply wO
   refine ap1 (ys:=[(⟨l[k].number,2,c+3,l[k].tries+1⟩:Request)]) (flatRequest (⟨l[k].number,2,c+3,l[k].tries+1⟩:Request)) one_ERequest fun a7 c7 F7=>?_
   refine go ?_;intros
   rw [←eo,←es,←el]
   refine n_lp (⟨k+1,_,_,_,_,_,_,_,_,_⟩:TkS) (by show k+1≤l.length;omega) (by show l.length - (k+1) < l.length - k;omega)
  ·refine go ?_;intros
   have eo:((l.take (k+1)).filterMap (tkO c d))=((l.take k).filterMap (tkO c d))++[(⟨l[k].number,1,c+d,l[k].tries⟩:Request)]:=by rw [fm_succ hk];simp [tkO,h5,h6,h7]
   have es:((l.take (k+1)).filterMap (tkS c))=((l.take k).filterMap (tkS c)):=by rw [fm_succ hk];simp [tkS,h5,h6,h7]
   have el:((l.take (k+1)).filterMap (tkL c))=((l.take k).filterMap (tkL c)):=by rw [fm_succ hk];simp [tkL,h5,h6,h7]
   apply wO
   refine ap1 (ys:=[(⟨l[k].number,1,c+d,l[k].tries⟩:Request)]) (flatRequest (⟨l[k].number,1,c+d,l[k].tries⟩:Request)) one_ERequest fun a7 c7 F7=>?_
   refine go ?_;intros
   rw [←eo,←es,←el]
   refine n_lp (⟨k+1,_,_,_,_,_,_,_,_,_⟩:TkS) (by show k+1≤l.length;omega) (by show l.length - (k+1) < l.length - k;omega)
 ·obtain rfl:k=l.length:=by omega
  rw [List.take_length]
  refine go ?_;intros
  refine ret ⟨0,_,_,_,_,_,_,_,_,_⟩ trivial rfl
theorem Rclone_f (x:Receiver) (v:Value) (F:List Nat) (hl:x.window.slots.length≤1000000000) (hl2:x.requests.length≤1000000000):Fn Tryz.prog 101 [v] [.isv EReceiver v x F] [] (fun (_:Value × List Nat)=>True) (fun s=>s.1) (fun s=>[.own OReceiver s.1 x s.2]):=by
 refine enter Tryz.func101 rfl Tryz.ntmps101 fun w0=>?_
 refine openReceiver ?_
 rintro a1 c1 F1 a2 c2 F2 rfl l1 l2
 refine closeReceiveWindow x.window ?_
 generalize F1=F3
 refine go ?_;intros
 refine cf (RWclone_f x.window _ F3 (by omega)) fun z _=>?_
 refine t_app ?_
 refine go ?_;intros
 refine cf (ClRequest_f x.requests a2 c2 F2 hl2) fun q _=>?_
 refine t_app ?_
 refine go ?_;intros
 refine closeOReceiver x ?_
 refine ret (_,_) trivial rfl
theorem wb1_f (r:Request) (n:Int) (gb:Nat) (h0:isSer r.number=true) (h1:0≤n) (h2:n≤65535):Fn Tryz.prog 277 [.agg #[.int .i64 r.number,.int .i64 r.state,.int .i64 r.untl,.int .i64 r.tries],ptr gb 0 0] [.cel gb 0 [.int .i64 n]] [] (fun (_:Unit)=>True) (fun _=>.bool (bef r.number n)) (fun _=>[]):=by
 obtain ⟨n0,n1⟩:=isSer_iff.1 h0
 refine enter Tryz.func277 rfl Tryz.ntmps277 fun w0=>?_
 refine go ?_;intros
 refine ce (fun w s=>isBefore_c _ _ _ (by omega) (by omega) (by omega) (by omega)) ?_
 refine go ?_;intros
 refine ret () trivial rfl
theorem withoutBefore_f (l:List Request) (n:Int) (a:Option Addr) (c:Nat) (F:List Nat) (hl:l.length≤1000000000) (hs:∀q∈l,isSer q.number=true) (h1:0≤n) (h2:n≤65535):Fn Tryz.prog 210 [.slice a l.length c,.int .i64 n] [.sl ERequest (.slice a l.length c) l F] [] (fun (_:Option Addr × Nat × List Nat)=>True) (fun z=>.slice z.1 (noBef l n).length z.2.1) (fun z=>[.ow ERequest 235 (.slice z.1 (noBef l n).length z.2.1) (noBef l n) z.2.2]):=by
 refine enter Tryz.func210 rfl Tryz.ntmps210 fun w0=>?_
 refine go ?_;intros
 rename_i gb
 refine cf (ClRequest_f l a c F hl) fun q _=>?_
 refine t_app ?_
 refine t_rocel (cs:=[.int .i64 n]) ?_ (by simp)
 refine go ?_;intros
 refine cf (DelReq_f 277 [] [ptr gb 0 0] [.cel gb 0 [.int .i64 n]] rfl l q.1 q.2.1 q.2.2 (fun z=>bef z.number n) (by kernel_rfl) hl (fun z hz w hA=>(wb1_f z n gb (hs z hz) h1 h2).val w hA)) fun z _=>?_
 refine t_app ?_
 refine go ?_;intros
 refine ret (z.1,z.2.1,z.2.2) trivial rfl
theorem tkReq_len (r:Receiver) (d:Int):(tkReq r d).length≤r.requests.length:=List.length_filterMap_le _ _
theorem tkLost_len (r:Receiver):(tkLost r).length≤r.requests.length:=List.length_filterMap_le _ _
theorem tickR_no {r:Receiver} {d:Int} (h:tkLost r=[]):tickRec r d=⟨r.started,r.clock+1,r.window,tkReq r d⟩:=if_pos h
theorem tickR_yes {r:Receiver} {d:Int} (h:tkLost r≠[]):tickRec r d=⟨r.started,r.clock+1,movedW r.window (lostTrail (tkLost r)),noBef (tkReq r d) (movedW r.window (lostTrail (tkLost r))).next⟩:=if_neg h
theorem tickE_no {r:Receiver} (h:tkLost r=[]):tickEv r=[]:=if_pos h
theorem tickE_yes {r:Receiver} (h:tkLost r≠[]):tickEv r=movedE r.window (lostTrail (tkLost r)):=if_neg h
theorem lost_last {l:List Int} (h:l≠[]):lostTrail l=aft (l[l.length - 1]'(by have:=List.length_pos_iff.2 h;omega)) 1:=by
 unfold lostTrail
 rw [List.getLastD_eq_getLast?,List.getLast?_eq_getElem?,List.getElem?_eq_getElem (by have:=List.length_pos_iff.2 h;omega)]
 rfl
theorem good_items {x:ReceiveWindow} (hg:goodRW x=true):x.slots.length≤8∧∀s∈x.slots,s.item.size≤8:=by
 have hg0:=hg
 unfold goodRW at hg
 simp only [Bool.and_eq_true,decide_eq_true_eq] at hg
 refine ⟨by have:=hg.1.1.2;omega,fun s hs=>?_⟩
 have:=List.all_eq_true.1 hg.1.2 s hs
 unfold okSlot at this
 simp only [Bool.and_eq_true] at this
 exact itm_size this.1
structure PkS where
 k:Nat
 a:Option Addr
 c:Nat
 F:List Nat
structure TkR where
 a1:Option Addr
 c1:Nat
 F1:List Nat
 a2:Option Addr
 c2:Nat
 F2:List Nat
 a3:Option Addr
 c3:Nat
 F3:List Nat
 a4:Option Addr
 c4:Nat
 F4:List Nat
theorem Rtick_f (r:Receiver) (d:Int) (g t o:Nat) (A B:List Value) (a1:Option Addr) (c1:Nat) (F1:List Nat) (a2:Option Addr) (c2:Nat) (F2:List Nat) (hg:GoodR r) (d0:0≤d) (d1:d≤100) :
  Fn Tryz.prog 130 [ptr g o 0,.int .i64 d] [] [.row g t o A [.bool r.started,.int .i64 r.clock,.int .i64 r.window.next,.slice a1 r.window.slots.length c1,.slice a2 r.requests.length c2] B,.ow ESlot 247 (.slice a1 r.window.slots.length c1) r.window.slots F1,.ow ERequest 235 (.slice a2 r.requests.length c2) r.requests F2] (fun (_:TkR)=>True)
   (fun s=>.tuple #[.slice s.a3 (tickPk r).length s.c3,.slice s.a4 (tickEv r).length s.c4]) (fun s=>[.row g t o A [.bool (tickRec r d).started,.int .i64 (tickRec r d).clock,.int .i64 (tickRec r d).window.next,.slice s.a1 (tickRec r d).window.slots.length s.c1,.slice s.a2 (tickRec r d).requests.length s.c2] B,.ow ESlot 247 (.slice s.a1 (tickRec r d).window.slots.length s.c1) (tickRec r d).window.slots s.F1,.ow ERequest 235 (.slice s.a2 (tickRec r d).requests.length s.c2) (tickRec r d).requests s.F2,.ow EPacket 127 (.slice s.a3 (tickPk r).length s.c3) (tickPk r) s.F3,.ow EStr 9 (.slice s.a4 (tickEv r).length s.c4) (tickEv r) s.F4]):=by
 have k0:=hg.k0
 have k1:=hg.k1
 obtain ⟨-,q1,q2, -⟩:=areQ_iff.1 hg.q
 obtain ⟨w0_,w1_⟩:=next_ser hg.w
 obtain ⟨hw8,hit⟩:=good_items hg.w
 have hpl:(r.requests.filterMap (tkS (r.clock+1))).length≤8:=Nat.le_trans (List.length_filterMap_le _ _) q1
 refine enter Tryz.func130 rfl Tryz.ntmps130 fun w0=>?_
 refine go ?_;intros
 refine t_read (E:=ERequest) fun F9=>?_
 refine d_start [1] [] ?_
 refine dt4 0 1 2 3 ?_
 refine dt4 4 5 6 7 ?_
 refine dt 8 ?_
 refine dN 9 ?_
 refine oC ?_
 refine cf (tickRequests_f r.requests (r.clock+1) d a2 c2 F9 (by omega) (fun q hq=>⟨(okReq_iff.1 (q2 q hq)).t0,(okReq_iff.1 (q2 q hq)).t1⟩) (by omega) (by omega) (by omega) (by omega)) fun z _=>?_
 refine t_app ?_
 rw [show r.requests.filterMap (tkL (r.clock+1))=tkLost r from rfl,show r.requests.filterMap (tkO (r.clock+1) d)=tkReq r d from rfl]
 refine dk ?_
 refine dt4 10 11 12 13 ?_
 refine dt2 14 15 ?_
 refine dt 16 ?_
 refine dd ?_
 refine t_read (E:=EInt) (xs:=r.requests.filterMap (tkS (r.clock+1))) fun G2=>?_
 refine t_read (E:=EInt) (xs:=tkLost r) fun G3=>?_
 refine t_nilow EPacket 127 ?_
 refine go ?_;intros
 refine c_loopS [0,4,5,6,9,44,45] (fun s:PkS=>[(46,.int .i64 (s.k:Nat)),(10,.slice s.a (((r.requests.filterMap (tkS (r.clock+1))).take s.k).map (pkR r.window.next)).length s.c)]) (fun s=>[.ow EPacket 127 (.slice s.a (((r.requests.filterMap (tkS (r.clock+1))).take s.k).map (pkR r.window.next)).length s.c) (((r.requests.filterMap (tkS (r.clock+1))).take s.k).map (pkR r.window.next)) s.F]) (fun s=>s.k≤(r.requests.filterMap (tkS (r.clock+1))).length) (fun s=>(r.requests.filterMap (tkS (r.clock+1))).length - s.k) ⟨0,_,_,_⟩ (Nat.zero_le _) fun s hs=>?_
 obtain ⟨k,a4,c4,F4⟩:=s
 dsimp only at hs ⊢
 generalize hsn:r.requests.filterMap (tkS (r.clock+1))=sn at *
 refine go ?_;intros
 refine c_if rfl (fun h4=>?_) (fun h4=>?_)
 ·have hk:k < sn.length:=by omega
  have hkl:((sn.take k).map (pkR r.window.next)).length≤k:=by simp;omega
  refine at_int (xs:=sn) k ?_
  rintro hi b o2 e
  rw [e]
  refine go ?_;intros
  have eo:(sn.take (k+1)).map (pkR r.window.next)=(sn.take k).map (pkR r.window.next)++[pkR r.window.next sn[k]]:=by rw [List.take_add_one,List.getElem?_eq_getElem hk,List.map_append];rfl
  apply wO
  refine ap1 (ys:=[pkR r.window.next sn[k]]) (flatPacket (pkR r.window.next sn[k]) (by show (0:Nat)≤maxLen;exact Nat.zero_le _)) one_EPacket fun a7 c7 F7=>?_
  refine go ?_;intros
  rw [←eo]
  refine n_lp (⟨k+1,_,_,_⟩:PkS) (by show k+1≤sn.length;omega) (by show sn.length - (k+1) < sn.length - k;omega)
 have hk:k=sn.length:=by omega
 subst hk
 rw [List.take_length]
 have ep:tickPk r=sn.map (pkR r.window.next):=by unfold tickPk;rw [hsn]
 rw [ep]
 refine go ?_;intros
 by_cases hL:tkLost r=[]
 ·refine c_if rfl (fun _=>?_) (fun h=>absurd (show ((tkLost r).length:Int)=0 by rw [hL];rfl) h)
  rw [tickR_no hL,tickE_no hL]
  refine t_nilow EStr 9 ?_
  refine go ?_;intros
  refine ret ⟨_,_,_,_,_,_,_,_,_,_,_,_⟩ trivial rfl
 ·have hl0:=List.length_pos_iff.2 hL
  refine c_if rfl (fun h=>absurd h (by omega)) (fun _=>?_)
  rw [tickR_yes hL,tickE_yes hL]
  obtain ⟨hs8,hsr⟩:=lost_gp hg hL
  have hll8:=tkLost_len r
  obtain ⟨hs0,hs1⟩:=isSer_iff.1 hsr
  have hll:=lost_last hL
  obtain ⟨l0,l1⟩:=isSer_iff.1 (tkLost_at hg (List.getElem_mem (show (tkLost r).length - 1 < (tkLost r).length by omega))).1
  have hi1:((tkLost r).length:Int) - 1=(((tkLost r).length - 1:Nat):Int):=by omega
  refine at_int (xs:=tkLost r) ((tkLost r).length - 1) ?_
  rintro hi b o2 e
  rw [e]
  refine t_rin [.bool r.started,.int .i64 (r.clock+1)] [.int .i64 r.window.next,.slice a1 r.window.slots.length c1] [.slice z.a (tkReq r d).length z.c] ?_
  refine go ?_;intros
  refine d_start [1] [] ?_
  refine dt4 0 1 2 3 ?_
  refine dt2 4 5 ?_
  refine dt 6 ?_
  rw [hi1]
  refine dt2 7 8 ?_
  refine dN 9 ?_
  refine oC ?_
  refine ce (fun w s=>after_c _ _ _ (by omega) (by omega)) ?_
  rw [←hll]
  refine dk ?_
  refine dN 10 ?_
  refine oC ?_
  refine cf (RWgive_f r.window (lostTrail (tkLost r)) g t (o+2) (A++[.bool r.started,.int .i64 (r.clock+1)]) _ a1 c1 F1 w0_ w1_ hs0 hs1 hw8 hit) fun y hy=>?_
  refine t_app ?_
  refine dk ?_
  refine dt 11 ?_
  refine dd ?_
  obtain ⟨hy1,hy2⟩:=hy
  have hmv:=moved_at (t:=lostTrail (tkLost r)) hg.w
  have hm0:0≤y.y.next:=by rw [hy1];show 0≤(movedW r.window (lostTrail (tkLost r))).next;rw [hmv.1];exact (aft_bd _ _).1
  have hm1:y.y.next≤65535:=by rw [hy1];show (movedW r.window (lostTrail (tkLost r))).next≤65535;rw [hmv.1];exact (aft_bd _ _).2
  refine t_rout [.bool r.started,.int .i64 (r.clock+1)] [.int .i64 y.y.next,.slice y.a y.y.slots.length y.c] [.slice z.a (tkReq r d).length z.c] ?_
  refine t_read (E:=ERequest) (xs:=tkReq r d) fun F8=>?_
  refine go ?_;intros
  refine d_start [1] [13] ?_
  refine dt4 0 1 2 3 ?_
  refine dt4 4 5 6 7 ?_
  refine dt2 8 9 ?_
  refine dN 10 ?_
  refine oC ?_
  refine cf (withoutBefore_f (tkReq r d) y.y.next z.a z.c F8 (by have:=tkReq_len r d;omega) (fun q hq=>(tkReq_at hg hq).1) hm0 hm1) fun u _=>?_
  refine t_app ?_
  refine dk ?_
  refine dt2 11 12 ?_
  refine dN 13 ?_
  refine oS ?_
  refine dkx ?_
  refine dd ?_
  refine go ?_;intros
  rw [show movedW r.window (lostTrail (tkLost r))=y.y from hy1.symm,show movedE r.window (lostTrail (tkLost r))=y.es from hy2.symm]
  refine ret ⟨_,_,_,_,_,_,_,_,_,_,_,_⟩ trivial rfl
theorem Clone_Int (v:Value) (xs:List Int) (F:List Nat) (w:World) (h:Sl EInt w v xs F) (hm:xs.length≤4294967296) :
  Calls Tryz.prog 97 #[v] w (RetNew EInt 3 xs w):=by
 obtain ⟨ao,c,news,Fy,rfl,hl,hfy,hFy,hsrc⟩:=h.src
 have hFl:=hfy.lt
 have he:=fun w (a:Option Addr) (n c:Nat)=>Lib.run_eql_slice_nil (P:=Tryz.prog) w 22 _ a n c 0 0 Tryz.underlying22
 go_enter Tryz.func97,Tryz.ntmps97
 rcases hsrc with ⟨rfl,rfl,rfl⟩|⟨ad,rfl,hn⟩
 ·go_wp2
  go_ret
  exact ⟨.slice none 0 0,[],rfl,.inl ⟨rfl,rfl,rfl⟩,by simp,by simp,Below.refl _ _⟩
 ·go_wp2_with (at_builtin;refine wpList_apd one_EInt (by decide) (by rfl) _ _ _ (by rfl) 3 (.int .i64 0) 8 Tryz.underlying22 info_int rfl (.slice (some ⟨w.heap.size,0,none⟩) 0 0) [] [w.heap.size] (by rfl) (Ow.empty (Row.made _ _ _)) (Hd.one _) (some ad) xs c (by rfl) news Fy (hfy.frame fun b hb=>Below.heap_alloc _ _ _ (hFl b hb)) (.inr ⟨ad,rfl,fun j u hu=>kc ((Below.refl _ _).alloc (Nat.le_refl _) _) (hn j u hu)⟩) (fun b hb e=>by have:=hFl b hb;simp [Value.ownBlock] at e;omega) (by simpa using hl) (by unfold maxLen at hl;simp;omega) ?_)
  intro v2 w2 F2 hA
  go_wp2_with fail
  go_ret
  have hB:Below w.heap.size w w2:=((Below.refl _ _).alloc (Nat.le_refl _) _).trans (hA.keep.below (by simp) (by simp))
  have hs:∀b,v2.ownBlock=some b→w.heap.size≤b:=fun b hb=>by rcases hA.same with e|e <;> rw [e] at hb <;> simp [Value.ownBlock] at hb <;> omega
  refine ⟨v2,F2,rfl,by simpa using hA.ow,hA.ow.scal scal_EInt▸?_,fun b hb=>?_,hB⟩
  ·cases v2.ownBlock <;> simp
  ·rw [hA.ow.scal scal_EInt] at hb;exact hs b (by simpa using hb)
theorem l1Own_c (v:Value) (xs:List Int) (F:List Nat) (w:World) (h:Sl EInt w v xs F) (hm:xs.length≤4294967296) :
  Calls Tryz.prog 134 #[v] w (RetNew EInt 3 xs w):=by
 obtain ⟨ao,c,news,Fy,rfl,hl,hfy,hFy,hsrc⟩:=h.src
 have hFl:=hfy.lt
 have hsrc2:(ao=none∧c=0∧xs=[])∨∃ad,ao=some ad∧∀j u,news[j]?=some u→(w.alloc (.cells #[] 3)).cell? (ad.add j)=some u:=by
  rcases hsrc with h|⟨ad,h1,h2⟩
  ·exact .inl h
  ·exact .inr ⟨ad,h1,fun j u hu=>kc ((Below.refl _ _).alloc (Nat.le_refl _) _) (h2 j u hu)⟩
 go_enter Tryz.func134,Tryz.ntmps134
 go_wp2_with (at_builtin;refine wpList_apd one_EInt (by decide) (by rfl) _ _ _ (by rfl) 3 (.int .i64 0) 8 Tryz.underlying22 info_int rfl (.slice (some ⟨w.heap.size,0,none⟩) 0 0) [] [w.heap.size] (by rfl) (Ow.empty (Row.made _ _ _)) (Hd.one _) ao xs c (by rfl) news Fy (hfy.frame fun b hb=>Below.heap_alloc _ _ _ (hFl b hb)) hsrc2 (fun b hb e=>by have:=hFl b hb;simp [Value.ownBlock] at e;omega) (by simpa using hl) (by unfold maxLen at hl;simp;omega) ?_)
 intro v2 w2 F2 hA
 go_wp2_with fail
 go_ret
 have hB:Below w.heap.size w w2:=((Below.refl _ _).alloc (Nat.le_refl _) _).trans (hA.keep.below (by simp) (by simp))
 have hs:∀b,v2.ownBlock=some b→w.heap.size≤b:=fun b hb=>by rcases hA.same with e|e <;> rw [e] at hb <;> simp [Value.ownBlock] at hb <;> omega
 refine ⟨v2,F2,rfl,by simpa using hA.ow,hA.ow.scal scal_EInt▸?_,fun b hb=>?_,hB⟩
 ·cases v2.ownBlock <;> simp
 ·rw [hA.ow.scal scal_EInt] at hb;exact hs b (by simpa using hb)
theorem Element_clone_c (v:Value) (e:Element) (F:List Nat) (w:World) (h:IsV EElement w v e F) (hm:e.entries.length≤4294967296) (hm2:∀x∈e.entries,x.faces.length≤4294967296) :
  Calls Tryz.prog 100 #[v] w (RetV OElement e w):=by
 obtain ⟨_,rfl,v1,rfl,h1⟩:=h
 obtain ⟨a,cap,rfl⟩:=h1.slice
 have hl:=h1.len
 unfold maxLen at hl
 have hB0:∀A B:Obj,Below w.heap.size w ((w.alloc A).alloc B):=fun A B=>((Below.refl _ _).alloc (Nat.le_refl _) _).alloc (by simp) _
 have hFl:=h1.lt (by decide)
 go_enter Tryz.func100,Tryz.ntmps100
 go_wp2_with fail
 refine (Clone_Entry _ e.entries F _ (h1.below (by decide) (hB0 _ _)) hm).mono ?_
 rintro e' w1 ⟨v2,F2,rfl,ho,hd,hs,hF2,hb1⟩
 obtain ⟨a2,cap2,rfl⟩:=ho.slice
 have r0:=Row.below (g:=w.heap.size) (t:=142) (cs:=[.int .i64 e.clock,.slice a e.entries.length cap]) (by simp [row_alloc] <;> omega) hb1
 have r1:=Row.below (g:=w.heap.size+1) (t:=142) (cs:=[.int .i64 0,.slice none 0 0]) (by simp [row_alloc] <;> omega) hb1
 have hB:=tr (hB0 _ _) hb1 (Nat.le_refl _)
 have hm1:=Lib.hid (Mix.start (O:=OEntry) (R:=EEntry) (B1:=w.heap.size) (B0:=w.heap.size+2) rfl ho (by simpa using hs) (fun b hb=>(hF2 b hb).imp id fun hb=>hFl b hb) hd)
 have c0:=r0.cells;have f0:=r0.frozens
 have f1:=r1.frozens;have c1:=r1.cells
 clear hb1 ho hs hd hF2
 go_wp2_with fail
 have R0:=r0.set 1 (.slice a2 e.entries.length cap2)
 have R1:=r1.setOther (p:=⟨w.heap.size,1,none⟩) (by simp) (.slice a2 e.entries.length cap2)
 have M1:=Lib.hid (hm1.out.setFar (p:=⟨w.heap.size,1,none⟩) (Nat.le_refl _) (by simp) (.slice a2 e.entries.length cap2))
 clear hm1
 go_loopw [3,11] (fun _ i wr=>∃k:Nat,k≤e.entries.length∧i=.int .i64 k∧Hid (Mix OEntry EEntry 231 w.heap.size (w.heap.size+2) wr (.slice a2 e.entries.length cap2) e.entries k)∧Row wr w.heap.size 142 [.int .i64 e.clock,.slice a2 e.entries.length cap2]∧Row wr (w.heap.size+1) 142 [.int .i64 0,.slice none 0 0]∧Below w.heap.size w wr) (fun _ i _=>e.entries.length - (intOf i).toNat)
 case atStart=>exact ⟨0,Nat.zero_le _,rfl,M1,by simpa using R0,R1,hB.setCell (Nat.le_refl _) _⟩
 case round =>
  obtain ⟨k,hk,rfl,hM,hr,hr1,hB⟩:=hrel
  have c0:=hr.cells;have f0:=hr.frozens
  have hsz:=hr1.lt
  by_cases hlt:k < e.entries.length
  ·obtain ⟨g,cap3,A,c,B,Fk,hv,hg,hrow,hA,hcl,hx, -,back⟩:=hM.out.at rfl hlt (by omega) (by omega)
   cases hv
   obtain ⟨u1,rfl,hf⟩:=id hx
   obtain ⟨fa,fc,rfl⟩:=hf.slice
   have a1:=hrow.cellMid (p:=k * 3+1) (j:=1) (by rw [hA];rfl) (by simp)
   simp only [List.getElem?_cons_zero,List.getElem?_cons_succ] at a1
   have hne:¬g=w.heap.size:=by omega
   have hne2:¬w.heap.size=g:=by omega
   have hbk:=Lib.hid back
   clear back
   have hfl:=hm2 e.entries[k] (List.getElem_mem _)
   go_wp2_with fail
   go_region_law (first|(go_simp;go_at_call 97;refine (Clone_Int _ e.entries[k].faces Fk wr.drew (hf.frame fun _ _=>rfl) hfl).mono ?_;rintro e' w2 ⟨v3,F3,rfl,o3,n3,g3,hb2⟩;obtain ⟨d3,p3,rfl⟩:=o3.slice;have z3:=kc hb2 (show wr.drew.cell? ⟨w.heap.size,1,none⟩=some (.slice (some ⟨g,0,none⟩) e.entries.length cap2) by simpa using c0 1);have z1:=kc hb2 (by simpa using a1);have zf:=((show Row wr.drew g 231 _ from hrow).below hb2).frozens (k * 3+1)))
   all_goals
    have hr2:=((show Row wr.drew w.heap.size 142 _ from hr).below hb2).setOther (p:=⟨g,k * 3+1,none⟩) hne (.slice d3 e.entries[k].faces.length p3)
    have hr3:=((show Row wr.drew (w.heap.size+1) 142 _ from hr1).below hb2).setOther (p:=⟨g,k * 3+1,none⟩) (by simp;omega) (.slice d3 e.entries[k].faces.length p3)
    have hro:=((show Row wr.drew g 231 _ from hrow).below hb2).setMid (p:=k * 3+1) (j:=1) (by rw [hA];rfl) (by simp) (.slice d3 e.entries[k].faces.length p3)
    have hg3:∀b∈F3,wr.heap.size≤b:=g3
    have hgs:=hrow.lt
    have hMk:=Lib.hid (hbk.out _ _ F3 hro ⟨_,rfl,o3.setFar (fun hm=>by have:=hg3 _ hm;simp at this;omega) _⟩ n3 hg3 (fun b hb hbg=>(Below.heap_setCell _ _ _ _ hbg).trans (hb2.block b hb)))
    have hB3:Below w.heap.size w (w2.setCell ⟨g,k * 3+1,none⟩ (.slice d3 e.entries[k].faces.length p3)):=(tr (belowDrewN hB 1) hb2 (Nat.le_refl _)).setCell (by simp;omega) _
    go_wp2_with fail
    exact ⟨⟨k+1,by omega,by go_num,hMk,hr2,hr3,hB3⟩,by simp [intOf];omega⟩
  ·have hk:k=e.entries.length:=by omega
   subst hk
   obtain ⟨F4,o4,n4,g4⟩:=hM.out.done
   have O4:=Lib.hid o4
   clear hM o4
   have d1:=hr1.cells;have fd:=hr1.frozens
   go_wp2_with fail
   refine bodyPost_ret (v:=.agg #[.int .i64 e.clock,.slice a2 e.entries.length cap2]) ?_ rfl ?_
   ·simp [results,Tryz.results100,go_sem,c0,d1,fd]
   ·refine ⟨_,F4,rfl,⟨_,rfl,_,rfl,?_⟩,n4,fun b hb=>by have:=g4 b hb;omega,?_⟩
    ·repeat refine Ow.setFar ?_ (fun hm=>by have:=g4 _ hm;simp at this <;> omega) _
     exact O4.out
    ·repeat refine Below.setCell ?_ (by simp <;> omega) _
     exact hB
section
variable {c:Cx} {fr:Fr} {H:List Pc} {Φ:Gl}
theorem openNet {v:Value} {x:Net} {F:List Nat} (h:∀(a1:Option Addr) (c1:Nat) (F1:List Nat) (a2:Option Addr) (c2:Nat) (F2:List Nat) (a3:Option Addr) (c3:Nat) (F3:List Nat) (a4:Option Addr) (c4:Nat) (F4:List Nat) (a5:Option Addr) (c5:Nat) (F5:List Nat) (a6:Option Addr) (c6:Nat) (F6:List Nat) (a7:Option Addr) (c7:Nat) (F7:List Nat),v=.agg #[.slice a1 x.tree.parent.length c1,.int .i64 x.source.window.trail,.int .i64 x.source.window.size,.slice a2 x.source.window.items.length c2,.int .i64 x.source.clock,.int .i64 x.source.quiet,.slice a3 x.source.holds.length c3,.slice a4 x.elements.length c4,.slice a5 x.receivers.length c5,.slice a6 x.down.length c6,.slice a7 x.up.length c7]→x.tree.parent.length≤maxLen→x.source.window.items.length≤maxLen→x.source.holds.length≤maxLen→x.elements.length≤maxLen→x.receivers.length≤maxLen→x.down.length≤maxLen→x.up.length≤maxLen→T c fr (.sl EInt (.slice a1 x.tree.parent.length c1) x.tree.parent F1::.sl EStr (.slice a2 x.source.window.items.length c2) x.source.window.items F2::.sl EHold (.slice a3 x.source.holds.length c3) x.source.holds F3::.sl EElement (.slice a4 x.elements.length c4) x.elements F4::.sl EReceiver (.slice a5 x.receivers.length c5) x.receivers F5::.sl (ESl EPacket (by decide)) (.slice a6 x.down.length c6) x.down F6::.sl (ESl EPacket (by decide)) (.slice a7 x.up.length c7) x.up F7::H) Φ) (hm:.isv ENet v x F∈H:=by (repeat (first|exact .head _|apply List.Mem.tail));first|done|fail):T c fr H Φ:=.mk fun a w s g=>by
 obtain ⟨cs,rfl,v1,v2,v3,v4,v5,v6,v7,G1,G2,G3,G4,G5,G6,G7,rfl,h1,h2,h3,h4,h5,h6,h7,rfl⟩:=s.get hm
 obtain ⟨a1,c1,rfl⟩:=h1.slice;have l1:=h1.len
 obtain ⟨a2,c2,rfl⟩:=h2.slice;have l2:=h2.len
 obtain ⟨a3,c3,rfl⟩:=h3.slice;have l3:=h3.len
 obtain ⟨a4,c4,rfl⟩:=h4.slice;have l4:=h4.len
 obtain ⟨a5,c5,rfl⟩:=h5.slice;have l5:=h5.len
 obtain ⟨a6,c6,rfl⟩:=h6.slice;have l6:=h6.len
 obtain ⟨a7,c7,rfl⟩:=h7.slice;have l7:=h7.len
 have t7:=s.ro (p:=.sl (ESl EPacket (by decide)) (.slice a7 x.up.length c7) x.up G7) hm rfl rfl ⟨by decide,h7⟩ (by intro b hb;simp only [Pc.F] at hb ⊢;simp [hb])
 have t6:=t7.ro (p:=.sl (ESl EPacket (by decide)) (.slice a6 x.down.length c6) x.down G6) (List.mem_cons_of_mem _ hm) rfl rfl ⟨by decide,h6⟩ (by intro b hb;simp only [Pc.F] at hb ⊢;simp [hb])
 have t5:=t6.ro (p:=.sl EReceiver (.slice a5 x.receivers.length c5) x.receivers G5) (List.mem_cons_of_mem _ (List.mem_cons_of_mem _ hm)) rfl rfl ⟨by decide,h5⟩ (by intro b hb;simp only [Pc.F] at hb ⊢;simp [hb])
 have t4:=t5.ro (p:=.sl EElement (.slice a4 x.elements.length c4) x.elements G4) (List.mem_cons_of_mem _ (List.mem_cons_of_mem _ (List.mem_cons_of_mem _ hm))) rfl rfl ⟨by decide,h4⟩ (by intro b hb;simp only [Pc.F] at hb ⊢;simp [hb])
 have t3:=t4.ro (p:=.sl EHold (.slice a3 x.source.holds.length c3) x.source.holds G3) (List.mem_cons_of_mem _ (List.mem_cons_of_mem _ (List.mem_cons_of_mem _ (List.mem_cons_of_mem _ hm)))) rfl rfl ⟨by decide,h3⟩ (by intro b hb;simp only [Pc.F] at hb ⊢;simp [hb])
 have t2:=t3.ro (p:=.sl EStr (.slice a2 x.source.window.items.length c2) x.source.window.items G2) (List.mem_cons_of_mem _ (List.mem_cons_of_mem _ (List.mem_cons_of_mem _ (List.mem_cons_of_mem _ (List.mem_cons_of_mem _ hm))))) rfl rfl ⟨by decide,h2⟩ (by intro b hb;simp only [Pc.F] at hb ⊢;simp [hb])
 have t1:=t2.ro (p:=.sl EInt (.slice a1 x.tree.parent.length c1) x.tree.parent G1) (List.mem_cons_of_mem _ (List.mem_cons_of_mem _ (List.mem_cons_of_mem _ (List.mem_cons_of_mem _ (List.mem_cons_of_mem _ (List.mem_cons_of_mem _ hm)))))) rfl rfl ⟨by decide,h1⟩ (by intro b hb;simp only [Pc.F] at hb ⊢;simp [hb])
 exact (h a1 c1 G1 a2 c2 G2 a3 c3 G3 a4 c4 G4 a5 c5 G5 a6 c6 G6 a7 c7 G7 rfl  l1 l2 l3 l4 l5 l6 l7).h a w t1 g
theorem closeNet (x:Net) {a1:Option Addr} {c1:Nat} {F1:List Nat} {a2:Option Addr} {c2:Nat} {F2:List Nat} {a3:Option Addr} {c3:Nat} {F3:List Nat} {a4:Option Addr} {c4:Nat} {F4:List Nat} {a5:Option Addr} {c5:Nat} {F5:List Nat} {a6:Option Addr} {c6:Nat} {F6:List Nat} {a7:Option Addr} {c7:Nat} {F7:List Nat}  (h:T c fr (.isv ENet (.agg #[.slice a1 x.tree.parent.length c1,.int .i64 x.source.window.trail,.int .i64 x.source.window.size,.slice a2 x.source.window.items.length c2,.int .i64 x.source.clock,.int .i64 x.source.quiet,.slice a3 x.source.holds.length c3,.slice a4 x.elements.length c4,.slice a5 x.receivers.length c5,.slice a6 x.down.length c6,.slice a7 x.up.length c7]) x (F1++F2++F3++F4++F5++F6++F7)::H) Φ) (m1:.sl EInt (.slice a1 x.tree.parent.length c1) x.tree.parent F1∈H:=by (repeat (first|exact .head _|apply List.Mem.tail));first|done|fail) (m2:.sl EStr (.slice a2 x.source.window.items.length c2) x.source.window.items F2∈H:=by (repeat (first|exact .head _|apply List.Mem.tail));first|done|fail) (m3:.sl EHold (.slice a3 x.source.holds.length c3) x.source.holds F3∈H:=by (repeat (first|exact .head _|apply List.Mem.tail));first|done|fail) (m4:.sl EElement (.slice a4 x.elements.length c4) x.elements F4∈H:=by (repeat (first|exact .head _|apply List.Mem.tail));first|done|fail) (m5:.sl EReceiver (.slice a5 x.receivers.length c5) x.receivers F5∈H:=by (repeat (first|exact .head _|apply List.Mem.tail));first|done|fail) (m6:.sl (ESl EPacket (by decide)) (.slice a6 x.down.length c6) x.down F6∈H:=by (repeat (first|exact .head _|apply List.Mem.tail));first|done|fail) (m7:.sl (ESl EPacket (by decide)) (.slice a7 x.up.length c7) x.up F7∈H:=by (repeat (first|exact .head _|apply List.Mem.tail));first|done|fail):T c fr H Φ:=.mk fun a w s g=>by
 have hP:IsV ENet w (.agg #[.slice a1 x.tree.parent.length c1,.int .i64 x.source.window.trail,.int .i64 x.source.window.size,.slice a2 x.source.window.items.length c2,.int .i64 x.source.clock,.int .i64 x.source.quiet,.slice a3 x.source.holds.length c3,.slice a4 x.elements.length c4,.slice a5 x.receivers.length c5,.slice a6 x.down.length c6,.slice a7 x.up.length c7]) x (F1++F2++F3++F4++F5++F6++F7):=⟨_,rfl,_,_,_,_,_,_,_,_,_,_,_,_,_,_,rfl,(s.get m1).2,(s.get m2).2,(s.get m3).2,(s.get m4).2,(s.get m5).2,(s.get m6).2,(s.get m7).2,rfl⟩
 refine h.h a w (s.add (N:=[.isv ENet (.agg #[.slice a1 x.tree.parent.length c1,.int .i64 x.source.window.trail,.int .i64 x.source.window.size,.slice a2 x.source.window.items.length c2,.int .i64 x.source.clock,.int .i64 x.source.quiet,.slice a3 x.source.holds.length c3,.slice a4 x.elements.length c4,.slice a5 x.receivers.length c5,.slice a6 x.down.length c6,.slice a7 x.up.length c7]) x (F1++F2++F3++F4++F5++F6++F7)]) (Below.refl _ _) (by intro q hq;obtain rfl:=List.mem_singleton.1 hq;exact hP) ⟨by simp,trivial⟩ fun q hq b hb=>?_) g
 obtain rfl:=List.mem_singleton.1 hq
 simp only [Pc.F,List.mem_append] at hb
 rcases hb with (((((hb|hb)|hb)|hb)|hb)|hb)|hb
 ·exact .inr ⟨rfl,_,m1,rfl,hb⟩
 ·exact .inr ⟨rfl,_,m2,rfl,hb⟩
 ·exact .inr ⟨rfl,_,m3,rfl,hb⟩
 ·exact .inr ⟨rfl,_,m4,rfl,hb⟩
 ·exact .inr ⟨rfl,_,m5,rfl,hb⟩
 ·exact .inr ⟨rfl,_,m6,rfl,hb⟩
 ·exact .inr ⟨rfl,_,m7,rfl,hb⟩
theorem openONet {v:Value} {x:Net} {F:List Nat} {S:List Pc} (h:∀(a1:Option Addr) (c1:Nat) (F1:List Nat) (a2:Option Addr) (c2:Nat) (F2:List Nat) (a3:Option Addr) (c3:Nat) (F3:List Nat) (a4:Option Addr) (c4:Nat) (F4:List Nat) (a5:Option Addr) (c5:Nat) (F5:List Nat) (a6:Option Addr) (c6:Nat) (F6:List Nat) (a7:Option Addr) (c7:Nat) (F7:List Nat),v=.agg #[.slice a1 x.tree.parent.length c1,.int .i64 x.source.window.trail,.int .i64 x.source.window.size,.slice a2 x.source.window.items.length c2,.int .i64 x.source.clock,.int .i64 x.source.quiet,.slice a3 x.source.holds.length c3,.slice a4 x.elements.length c4,.slice a5 x.receivers.length c5,.slice a6 x.down.length c6,.slice a7 x.up.length c7]→x.tree.parent.length≤maxLen→x.source.window.items.length≤maxLen→x.source.holds.length≤maxLen→x.elements.length≤maxLen→x.receivers.length≤maxLen→x.down.length≤maxLen→x.up.length≤maxLen→T c fr (.ow EInt 3 (.slice a1 x.tree.parent.length c1) x.tree.parent F1::.ow EStr 9 (.slice a2 x.source.window.items.length c2) x.source.window.items F2::.ow EHold 194 (.slice a3 x.source.holds.length c3) x.source.holds F3::.ow OElement 142 (.slice a4 x.elements.length c4) x.elements F4::.ow OReceiver 149 (.slice a5 x.receivers.length c5) x.receivers F5::.ow (OSl EPacket 127) 132 (.slice a6 x.down.length c6) x.down F6::.ow (OSl EPacket 127) 132 (.slice a7 x.up.length c7) x.up F7::S) Φ) (hp:Pick H (.own ONet v x F) S:=by (repeat (first|exact .here|apply Pick.there));first|done|fail):T c fr H Φ:=.mk fun a w s g=>by
 have z1:=s.pick hp
 obtain ⟨hn,cs,rfl,v1,v2,v3,v4,v5,v6,v7,G1,G2,G3,G4,G5,G6,G7,rfl,h1,h2,h3,h4,h5,h6,h7,rfl⟩:=z1.on (.own ONet v x F) (by simp)
 obtain ⟨a1,c1,rfl⟩:=h1.slice;have l1:=h1.len
 obtain ⟨a2,c2,rfl⟩:=h2.slice;have l2:=h2.len
 obtain ⟨a3,c3,rfl⟩:=h3.slice;have l3:=h3.len
 obtain ⟨a4,c4,rfl⟩:=h4.slice;have l4:=h4.len
 obtain ⟨a5,c5,rfl⟩:=h5.slice;have l5:=h5.len
 obtain ⟨a6,c6,rfl⟩:=h6.slice;have l6:=h6.len
 obtain ⟨a7,c7,rfl⟩:=h7.slice;have l7:=h7.len
 have hn2:=hn;simp only [List.nodup_append,List.mem_append] at hn2
 refine (h a1 c1 G1 a2 c2 G2 a3 c3 G3 a4 c4 G4 a5 c5 G5 a6 c6 G6 a7 c7 G7 rfl  l1 l2 l3 l4 l5 l6 l7).h a w (St.turn (M:=[.own ONet (.agg #[.slice a1 x.tree.parent.length c1,.int .i64 x.source.window.trail,.int .i64 x.source.window.size,.slice a2 x.source.window.items.length c2,.int .i64 x.source.clock,.int .i64 x.source.quiet,.slice a3 x.source.holds.length c3,.slice a4 x.elements.length c4,.slice a5 x.receivers.length c5,.slice a6 x.down.length c6,.slice a7 x.up.length c7]) x _]) (N:=[.ow EInt 3 (.slice a1 x.tree.parent.length c1) x.tree.parent G1,.ow EStr 9 (.slice a2 x.source.window.items.length c2) x.source.window.items G2,.ow EHold 194 (.slice a3 x.source.holds.length c3) x.source.holds G3,.ow OElement 142 (.slice a4 x.elements.length c4) x.elements G4,.ow OReceiver 149 (.slice a5 x.receivers.length c5) x.receivers G5,.ow (OSl EPacket 127) 132 (.slice a6 x.down.length c6) x.down G6,.ow (OSl EPacket 127) 132 (.slice a7 x.up.length c7) x.up G7]) z1 (Keep.refl _ w) ?_ ?_ ?_) g
 ·intro q hq;simp only [List.mem_cons,List.not_mem_nil,or_false] at hq
  rcases hq with rfl|rfl|rfl|rfl|rfl|rfl|rfl
  ·exact ⟨(List.nodup_append.1 (List.nodup_append.1 (List.nodup_append.1 (List.nodup_append.1 (List.nodup_append.1 (List.nodup_append.1 hn).1).1).1).1).1).1,h1⟩
  ·exact ⟨(List.nodup_append.1 (List.nodup_append.1 (List.nodup_append.1 (List.nodup_append.1 (List.nodup_append.1 (List.nodup_append.1 hn).1).1).1).1).1).2.1,h2⟩
  ·exact ⟨(List.nodup_append.1 (List.nodup_append.1 (List.nodup_append.1 (List.nodup_append.1 (List.nodup_append.1 hn).1).1).1).1).2.1,h3⟩
  ·exact ⟨(List.nodup_append.1 (List.nodup_append.1 (List.nodup_append.1 (List.nodup_append.1 hn).1).1).1).2.1,h4⟩
  ·exact ⟨(List.nodup_append.1 (List.nodup_append.1 (List.nodup_append.1 hn).1).1).2.1,h5⟩
  ·exact ⟨(List.nodup_append.1 (List.nodup_append.1 hn).1).2.1,h6⟩
  ·exact ⟨(List.nodup_append.1 hn).2.1,h7⟩
 ·refine ⟨?_,⟨?_,⟨?_,⟨?_,⟨?_,⟨?_,⟨?_,trivial⟩⟩⟩⟩⟩⟩⟩
  ·intro q hq _ b hb hb2;simp only [List.mem_cons,List.not_mem_nil,or_false] at hq
   rcases hq with rfl|rfl|rfl|rfl|rfl|rfl
   ·simp only [Pc.F] at hb hb2;exact nodup_apt (List.nodup_append.1 (List.nodup_append.1 (List.nodup_append.1 (List.nodup_append.1 (List.nodup_append.1 hn).1).1).1).1).1 (by simp [hb]) hb2
   ·simp only [Pc.F] at hb hb2;exact nodup_apt (List.nodup_append.1 (List.nodup_append.1 (List.nodup_append.1 (List.nodup_append.1 hn).1).1).1).1 (by simp [hb]) hb2
   ·simp only [Pc.F] at hb hb2;exact nodup_apt (List.nodup_append.1 (List.nodup_append.1 (List.nodup_append.1 hn).1).1).1 (by simp [hb]) hb2
   ·simp only [Pc.F] at hb hb2;exact nodup_apt (List.nodup_append.1 (List.nodup_append.1 hn).1).1 (by simp [hb]) hb2
   ·simp only [Pc.F] at hb hb2;exact nodup_apt (List.nodup_append.1 hn).1 (by simp [hb]) hb2
   ·simp only [Pc.F] at hb hb2;exact nodup_apt hn (by simp [hb]) hb2
  ·intro q hq _ b hb hb2;simp only [List.mem_cons,List.not_mem_nil,or_false] at hq
   rcases hq with rfl|rfl|rfl|rfl|rfl
   ·simp only [Pc.F] at hb hb2;exact nodup_apt (List.nodup_append.1 (List.nodup_append.1 (List.nodup_append.1 (List.nodup_append.1 hn).1).1).1).1 (by simp [hb]) hb2
   ·simp only [Pc.F] at hb hb2;exact nodup_apt (List.nodup_append.1 (List.nodup_append.1 (List.nodup_append.1 hn).1).1).1 (by simp [hb]) hb2
   ·simp only [Pc.F] at hb hb2;exact nodup_apt (List.nodup_append.1 (List.nodup_append.1 hn).1).1 (by simp [hb]) hb2
   ·simp only [Pc.F] at hb hb2;exact nodup_apt (List.nodup_append.1 hn).1 (by simp [hb]) hb2
   ·simp only [Pc.F] at hb hb2;exact nodup_apt hn (by simp [hb]) hb2
  ·intro q hq _ b hb hb2;simp only [List.mem_cons,List.not_mem_nil,or_false] at hq
   rcases hq with rfl|rfl|rfl|rfl
   ·simp only [Pc.F] at hb hb2;exact nodup_apt (List.nodup_append.1 (List.nodup_append.1 (List.nodup_append.1 hn).1).1).1 (by simp [hb]) hb2
   ·simp only [Pc.F] at hb hb2;exact nodup_apt (List.nodup_append.1 (List.nodup_append.1 hn).1).1 (by simp [hb]) hb2
   ·simp only [Pc.F] at hb hb2;exact nodup_apt (List.nodup_append.1 hn).1 (by simp [hb]) hb2
   ·simp only [Pc.F] at hb hb2;exact nodup_apt hn (by simp [hb]) hb2
  ·intro q hq _ b hb hb2;simp only [List.mem_cons,List.not_mem_nil,or_false] at hq
   rcases hq with rfl|rfl|rfl
   ·simp only [Pc.F] at hb hb2;exact nodup_apt (List.nodup_append.1 (List.nodup_append.1 hn).1).1 (by simp [hb]) hb2
   ·simp only [Pc.F] at hb hb2;exact nodup_apt (List.nodup_append.1 hn).1 (by simp [hb]) hb2
   ·simp only [Pc.F] at hb hb2;exact nodup_apt hn (by simp [hb]) hb2
  ·intro q hq _ b hb hb2;simp only [List.mem_cons,List.not_mem_nil,or_false] at hq
   rcases hq with rfl|rfl
   ·simp only [Pc.F] at hb hb2;exact nodup_apt (List.nodup_append.1 hn).1 (by simp [hb]) hb2
   ·simp only [Pc.F] at hb hb2;exact nodup_apt hn (by simp [hb]) hb2
  ·intro q hq _ b hb hb2;simp only [List.mem_cons,List.not_mem_nil,or_false] at hq
   rcases hq with rfl
   ·simp only [Pc.F] at hb hb2;exact nodup_apt hn (by simp [hb]) hb2
  ·intro q hq _ b hb hb2;simp at hq
 ·intro q hq b hb;refine .inr (.inl ⟨_,List.mem_singleton.2 rfl,rfl,?_⟩);simp only [List.mem_cons,List.not_mem_nil,or_false] at hq;rcases hq with rfl|rfl|rfl|rfl|rfl|rfl|rfl <;> simp only [Pc.F] at hb ⊢ <;> simp [hb]
theorem closeONet (x:Net) {a1:Option Addr} {c1:Nat} {F1:List Nat} {a2:Option Addr} {c2:Nat} {F2:List Nat} {a3:Option Addr} {c3:Nat} {F3:List Nat} {a4:Option Addr} {c4:Nat} {F4:List Nat} {a5:Option Addr} {c5:Nat} {F5:List Nat} {a6:Option Addr} {c6:Nat} {F6:List Nat} {a7:Option Addr} {c7:Nat} {F7:List Nat} {S1 S2 S3 S4 S5 S6 S7:List Pc}  (h:T c fr (.own ONet (.agg #[.slice a1 x.tree.parent.length c1,.int .i64 x.source.window.trail,.int .i64 x.source.window.size,.slice a2 x.source.window.items.length c2,.int .i64 x.source.clock,.int .i64 x.source.quiet,.slice a3 x.source.holds.length c3,.slice a4 x.elements.length c4,.slice a5 x.receivers.length c5,.slice a6 x.down.length c6,.slice a7 x.up.length c7]) x (F1++F2++F3++F4++F5++F6++F7)::S7) Φ) (m1:Pick H (.ow EInt 3 (.slice a1 x.tree.parent.length c1) x.tree.parent F1) S1:=by (repeat (first|exact .here|apply Pick.there));first|done|fail) (m2:Pick S1 (.ow EStr 9 (.slice a2 x.source.window.items.length c2) x.source.window.items F2) S2:=by (repeat (first|exact .here|apply Pick.there));first|done|fail) (m3:Pick S2 (.ow EHold 194 (.slice a3 x.source.holds.length c3) x.source.holds F3) S3:=by (repeat (first|exact .here|apply Pick.there));first|done|fail) (m4:Pick S3 (.ow OElement 142 (.slice a4 x.elements.length c4) x.elements F4) S4:=by (repeat (first|exact .here|apply Pick.there));first|done|fail) (m5:Pick S4 (.ow OReceiver 149 (.slice a5 x.receivers.length c5) x.receivers F5) S5:=by (repeat (first|exact .here|apply Pick.there));first|done|fail) (m6:Pick S5 (.ow (OSl EPacket 127) 132 (.slice a6 x.down.length c6) x.down F6) S6:=by (repeat (first|exact .here|apply Pick.there));first|done|fail) (m7:Pick S6 (.ow (OSl EPacket 127) 132 (.slice a7 x.up.length c7) x.up F7) S7:=by (repeat (first|exact .here|apply Pick.there));first|done|fail)  : T c fr H Φ:=.mk fun a w s g=>by
 have z1:St c.G c.D c.w0 ([.ow EInt 3 (.slice a1 x.tree.parent.length c1) x.tree.parent F1,.ow EStr 9 (.slice a2 x.source.window.items.length c2) x.source.window.items F2,.ow EHold 194 (.slice a3 x.source.holds.length c3) x.source.holds F3,.ow OElement 142 (.slice a4 x.elements.length c4) x.elements F4,.ow OReceiver 149 (.slice a5 x.receivers.length c5) x.receivers F5,.ow (OSl EPacket 127) 132 (.slice a6 x.down.length c6) x.down F6,.ow (OSl EPacket 127) 132 (.slice a7 x.up.length c7) x.up F7]++S7) w:=by simpa using (show Picks H [.ow EInt 3 (.slice a1 x.tree.parent.length c1) x.tree.parent F1,.ow EStr 9 (.slice a2 x.source.window.items.length c2) x.source.window.items F2,.ow EHold 194 (.slice a3 x.source.holds.length c3) x.source.holds F3,.ow OElement 142 (.slice a4 x.elements.length c4) x.elements F4,.ow OReceiver 149 (.slice a5 x.receivers.length c5) x.receivers F5,.ow (OSl EPacket 127) 132 (.slice a6 x.down.length c6) x.down F6,.ow (OSl EPacket 127) 132 (.slice a7 x.up.length c7) x.up F7] S7 from Picks.cons m1 (Picks.cons m2 (Picks.cons m3 (Picks.cons m4 (Picks.cons m5 (Picks.cons m6 (Picks.cons m7 (Picks.nil)))))))).st (X:=[]) (by simpa using s)
 obtain ⟨n1,k1⟩:=z1.on (.ow EInt 3 (.slice a1 x.tree.parent.length c1) x.tree.parent F1) (by simp)
 obtain ⟨n2,k2⟩:=z1.on (.ow EStr 9 (.slice a2 x.source.window.items.length c2) x.source.window.items F2) (by simp)
 obtain ⟨n3,k3⟩:=z1.on (.ow EHold 194 (.slice a3 x.source.holds.length c3) x.source.holds F3) (by simp)
 obtain ⟨n4,k4⟩:=z1.on (.ow OElement 142 (.slice a4 x.elements.length c4) x.elements F4) (by simp)
 obtain ⟨n5,k5⟩:=z1.on (.ow OReceiver 149 (.slice a5 x.receivers.length c5) x.receivers F5) (by simp)
 obtain ⟨n6,k6⟩:=z1.on (.ow (OSl EPacket 127) 132 (.slice a6 x.down.length c6) x.down F6) (by simp)
 obtain ⟨n7,k7⟩:=z1.on (.ow (OSl EPacket 127) 132 (.slice a7 x.up.length c7) x.up F7) (by simp)
 have hsp:=z1.sep
 have p1_2:∀b∈F1,b ∉ F2:=hsp.1 (.ow EStr 9 (.slice a2 x.source.window.items.length c2) x.source.window.items F2) (by simp) rfl
 have p1_3:∀b∈F1,b ∉ F3:=hsp.1 (.ow EHold 194 (.slice a3 x.source.holds.length c3) x.source.holds F3) (by simp) rfl
 have p1_4:∀b∈F1,b ∉ F4:=hsp.1 (.ow OElement 142 (.slice a4 x.elements.length c4) x.elements F4) (by simp) rfl
 have p1_5:∀b∈F1,b ∉ F5:=hsp.1 (.ow OReceiver 149 (.slice a5 x.receivers.length c5) x.receivers F5) (by simp) rfl
 have p1_6:∀b∈F1,b ∉ F6:=hsp.1 (.ow (OSl EPacket 127) 132 (.slice a6 x.down.length c6) x.down F6) (by simp) rfl
 have p1_7:∀b∈F1,b ∉ F7:=hsp.1 (.ow (OSl EPacket 127) 132 (.slice a7 x.up.length c7) x.up F7) (by simp) rfl
 have p2_3:∀b∈F2,b ∉ F3:=hsp.2.1 (.ow EHold 194 (.slice a3 x.source.holds.length c3) x.source.holds F3) (by simp) rfl
 have p2_4:∀b∈F2,b ∉ F4:=hsp.2.1 (.ow OElement 142 (.slice a4 x.elements.length c4) x.elements F4) (by simp) rfl
 have p2_5:∀b∈F2,b ∉ F5:=hsp.2.1 (.ow OReceiver 149 (.slice a5 x.receivers.length c5) x.receivers F5) (by simp) rfl
 have p2_6:∀b∈F2,b ∉ F6:=hsp.2.1 (.ow (OSl EPacket 127) 132 (.slice a6 x.down.length c6) x.down F6) (by simp) rfl
 have p2_7:∀b∈F2,b ∉ F7:=hsp.2.1 (.ow (OSl EPacket 127) 132 (.slice a7 x.up.length c7) x.up F7) (by simp) rfl
 have p3_4:∀b∈F3,b ∉ F4:=hsp.2.2.1 (.ow OElement 142 (.slice a4 x.elements.length c4) x.elements F4) (by simp) rfl
 have p3_5:∀b∈F3,b ∉ F5:=hsp.2.2.1 (.ow OReceiver 149 (.slice a5 x.receivers.length c5) x.receivers F5) (by simp) rfl
 have p3_6:∀b∈F3,b ∉ F6:=hsp.2.2.1 (.ow (OSl EPacket 127) 132 (.slice a6 x.down.length c6) x.down F6) (by simp) rfl
 have p3_7:∀b∈F3,b ∉ F7:=hsp.2.2.1 (.ow (OSl EPacket 127) 132 (.slice a7 x.up.length c7) x.up F7) (by simp) rfl
 have p4_5:∀b∈F4,b ∉ F5:=hsp.2.2.2.1 (.ow OReceiver 149 (.slice a5 x.receivers.length c5) x.receivers F5) (by simp) rfl
 have p4_6:∀b∈F4,b ∉ F6:=hsp.2.2.2.1 (.ow (OSl EPacket 127) 132 (.slice a6 x.down.length c6) x.down F6) (by simp) rfl
 have p4_7:∀b∈F4,b ∉ F7:=hsp.2.2.2.1 (.ow (OSl EPacket 127) 132 (.slice a7 x.up.length c7) x.up F7) (by simp) rfl
 have p5_6:∀b∈F5,b ∉ F6:=hsp.2.2.2.2.1 (.ow (OSl EPacket 127) 132 (.slice a6 x.down.length c6) x.down F6) (by simp) rfl
 have p5_7:∀b∈F5,b ∉ F7:=hsp.2.2.2.2.1 (.ow (OSl EPacket 127) 132 (.slice a7 x.up.length c7) x.up F7) (by simp) rfl
 have p6_7:∀b∈F6,b ∉ F7:=hsp.2.2.2.2.2.1 (.ow (OSl EPacket 127) 132 (.slice a7 x.up.length c7) x.up F7) (by simp) rfl
 have hN:(F1++F2++F3++F4++F5++F6++F7).Nodup:=by
  simp only [List.nodup_append,List.mem_append]
  grind
 refine h.h a w (St.turn (M:=[.ow EInt 3 (.slice a1 x.tree.parent.length c1) x.tree.parent F1,.ow EStr 9 (.slice a2 x.source.window.items.length c2) x.source.window.items F2,.ow EHold 194 (.slice a3 x.source.holds.length c3) x.source.holds F3,.ow OElement 142 (.slice a4 x.elements.length c4) x.elements F4,.ow OReceiver 149 (.slice a5 x.receivers.length c5) x.receivers F5,.ow (OSl EPacket 127) 132 (.slice a6 x.down.length c6) x.down F6,.ow (OSl EPacket 127) 132 (.slice a7 x.up.length c7) x.up F7]) (N:=[.own ONet (.agg #[.slice a1 x.tree.parent.length c1,.int .i64 x.source.window.trail,.int .i64 x.source.window.size,.slice a2 x.source.window.items.length c2,.int .i64 x.source.clock,.int .i64 x.source.quiet,.slice a3 x.source.holds.length c3,.slice a4 x.elements.length c4,.slice a5 x.receivers.length c5,.slice a6 x.down.length c6,.slice a7 x.up.length c7]) x (F1++F2++F3++F4++F5++F6++F7)]) z1 (Keep.refl _ w) (by intro q hq;obtain rfl:=List.mem_singleton.1 hq;exact ⟨hN,_,rfl,_,_,_,_,_,_,_,_,_,_,_,_,_,_,rfl,k1,k2,k3,k4,k5,k6,k7,rfl⟩) ⟨by simp,trivial⟩ fun q hq b hb=>?_) g
 obtain rfl:=List.mem_singleton.1 hq
 simp only [Pc.F,List.mem_append] at hb
 rcases hb with (((((hb|hb)|hb)|hb)|hb)|hb)|hb
 ·exact .inr (.inl ⟨.ow EInt 3 (.slice a1 x.tree.parent.length c1) x.tree.parent F1,by simp,rfl,hb⟩)
 ·exact .inr (.inl ⟨.ow EStr 9 (.slice a2 x.source.window.items.length c2) x.source.window.items F2,by simp,rfl,hb⟩)
 ·exact .inr (.inl ⟨.ow EHold 194 (.slice a3 x.source.holds.length c3) x.source.holds F3,by simp,rfl,hb⟩)
 ·exact .inr (.inl ⟨.ow OElement 142 (.slice a4 x.elements.length c4) x.elements F4,by simp,rfl,hb⟩)
 ·exact .inr (.inl ⟨.ow OReceiver 149 (.slice a5 x.receivers.length c5) x.receivers F5,by simp,rfl,hb⟩)
 ·exact .inr (.inl ⟨.ow (OSl EPacket 127) 132 (.slice a6 x.down.length c6) x.down F6,by simp,rfl,hb⟩)
 ·exact .inr (.inl ⟨.ow (OSl EPacket 127) 132 (.slice a7 x.up.length c7) x.up F7,by simp,rfl,hb⟩)
end
section
variable {c:Cx} {fr:Fr} {H:List Pc} {Φ:Gl}
theorem openElement {v:Value} {x:Element} {F:List Nat} (h:∀(a1:Option Addr) (c1:Nat) (F1:List Nat),v=.agg #[.int .i64 x.clock,.slice a1 x.entries.length c1]→x.entries.length≤maxLen→T c fr (.sl EEntry (.slice a1 x.entries.length c1) x.entries F1::H) Φ) (hm:.isv EElement v x F∈H:=by (repeat (first|exact .head _|apply List.Mem.tail));first|done|fail):T c fr H Φ:=.mk fun a w s g=>by
 obtain ⟨cs,rfl,v1,rfl,h1⟩:=s.get hm
 obtain ⟨a1,c1,rfl⟩:=h1.slice;have l1:=h1.len
 have t1:=s.ro (p:=.sl EEntry (.slice a1 x.entries.length c1) x.entries F) hm rfl rfl ⟨by decide,h1⟩ fun b hb=>hb
 exact (h a1 c1 F rfl  l1).h a w t1 g
theorem closeElement (x:Element) {a1:Option Addr} {c1:Nat} {F1:List Nat}  (h:T c fr (.isv EElement (.agg #[.int .i64 x.clock,.slice a1 x.entries.length c1]) x (F1)::H) Φ) (m1:.sl EEntry (.slice a1 x.entries.length c1) x.entries F1∈H:=by (repeat (first|exact .head _|apply List.Mem.tail));first|done|fail):T c fr H Φ:=.mk fun a w s g=>by
 have hP:IsV EElement w (.agg #[.int .i64 x.clock,.slice a1 x.entries.length c1]) x (F1):=⟨_,rfl,_,rfl,(s.get m1).2⟩
 refine h.h a w (s.add (N:=[.isv EElement (.agg #[.int .i64 x.clock,.slice a1 x.entries.length c1]) x (F1)]) (Below.refl _ _) (by intro q hq;simp at hq;subst hq;exact hP) ⟨by simp,trivial⟩ fun q hq b hb=>?_) g
 simp at hq;subst hq
 simp only [Pc.F,List.mem_append] at hb
 exact .inr ⟨rfl,_,m1,rfl,hb⟩
theorem openOElement {v:Value} {x:Element} {F:List Nat} {S:List Pc} (h:∀(a1:Option Addr) (c1:Nat) (F1:List Nat),v=.agg #[.int .i64 x.clock,.slice a1 x.entries.length c1]→x.entries.length≤maxLen→T c fr (.ow OEntry 231 (.slice a1 x.entries.length c1) x.entries F1::S) Φ) (hp:Pick H (.own OElement v x F) S:=by (repeat (first|exact .here|apply Pick.there));first|done|fail):T c fr H Φ:=.mk fun a w s g=>by
 have z1:=s.pick hp
 obtain ⟨hn,cs,rfl,v1,rfl,h1⟩:=z1.on (.own OElement v x F) (by simp)
 obtain ⟨a1,c1,rfl⟩:=h1.slice;have l1:=h1.len
 refine (h a1 c1 F rfl  l1).h a w (St.turn (M:=[.own OElement (.agg #[.int .i64 x.clock,.slice a1 x.entries.length c1]) x _]) (N:=[.ow OEntry 231 (.slice a1 x.entries.length c1) x.entries F]) z1 (Keep.refl _ w) ?_ ?_ ?_) g
 ·intro q hq;simp at hq;subst hq;exact ⟨hn,h1⟩
 ·exact ⟨by simp,trivial⟩
 ·intro q hq b hb;simp at hq;subst hq;exact .inr (.inl ⟨_,List.mem_singleton.2 rfl,rfl,hb⟩)
theorem closeOElement (x:Element) {a1:Option Addr} {c1:Nat} {F1:List Nat} {S1:List Pc}  (h:T c fr (.own OElement (.agg #[.int .i64 x.clock,.slice a1 x.entries.length c1]) x (F1)::S1) Φ) (m1:Pick H (.ow OEntry 231 (.slice a1 x.entries.length c1) x.entries F1) S1:=by (repeat (first|exact .here|apply Pick.there));first|done|fail)  : T c fr H Φ:=.mk fun a w s g=>by
 have z1:St c.G c.D c.w0 ([.ow OEntry 231 (.slice a1 x.entries.length c1) x.entries F1]++S1) w:=by simpa using (show Picks H [.ow OEntry 231 (.slice a1 x.entries.length c1) x.entries F1] S1 from Picks.cons m1 (Picks.nil)).st (X:=[]) (by simpa using s)
 obtain ⟨n1,k1⟩:=z1.on (.ow OEntry 231 (.slice a1 x.entries.length c1) x.entries F1) (by simp)
 have hN:=n1
 refine h.h a w (St.turn (M:=[.ow OEntry 231 (.slice a1 x.entries.length c1) x.entries F1]) (N:=[.own OElement (.agg #[.int .i64 x.clock,.slice a1 x.entries.length c1]) x (F1)]) z1 (Keep.refl _ w) (by intro q hq;simp at hq;subst hq;exact ⟨hN,_,rfl,_,rfl,k1⟩) ⟨by simp,trivial⟩ fun q hq b hb=>?_) g
 simp at hq;subst hq
 simp only [Pc.F,List.mem_append] at hb
 exact .inr (.inl ⟨_,List.mem_singleton.2 rfl,rfl,hb⟩)
theorem atElement {a:Option Addr} {n cp:Nat} {xs:List Element} {F:List Nat} (i:Nat) (h:∀(hi:i < xs.length) (b o:Nat) (a1:Option Addr) (c1:Nat) (F1:List Nat),a=some ⟨b,o,none⟩→xs[i].entries.length≤maxLen→T c fr (.cel b (o+i * 2) [.int .i64 xs[i].clock,.slice a1 xs[i].entries.length c1]::.sl EEntry (.slice a1 xs[i].entries.length c1) xs[i].entries F1::H) Φ) (hm:.sl EElement (.slice a n cp) xs F∈H:=by (repeat (first|exact .head _|apply List.Mem.tail));first|done|fail) (hi:i < xs.length:=by omega):T c fr H Φ:=.mk fun ac w s g=>by
 obtain ⟨b,o,cs,G,ha,hrep,hG,hb,hne,hr⟩:=sl_at (s.get hm) i hi
 obtain ⟨v1,rfl,h1⟩:=hrep
 obtain ⟨a1,c1,rfl⟩:=h1.slice;have l1:=h1.len
 have t1:=s.ro (p:=.sl EEntry (.slice a1 xs[i].entries.length c1) xs[i].entries G) hm rfl rfl ⟨by decide,h1⟩ (by intro b hb;simp only [Pc.F] at hb ⊢;exact hG b (by simp [hb]))
 exact (h hi b o a1 c1 G ha  l1).h ac w (t1.ro (List.mem_cons_of_mem _ hm) rfl rfl ⟨hne,hr⟩ (by intro x hx;simp [Pc.F] at hx;subst hx;exact hb)) g
end
section
variable {c:Cx} {fr:Fr} {H:List Pc} {Φ:Gl}
theorem openTree {v:Value} {x:Tree} {F:List Nat} (h:∀(a1:Option Addr) (c1:Nat) (F1:List Nat),v=.agg #[.slice a1 x.parent.length c1]→x.parent.length≤maxLen→T c fr (.sl EInt (.slice a1 x.parent.length c1) x.parent F1::H) Φ) (hm:.isv ETree v x F∈H:=by (repeat (first|exact .head _|apply List.Mem.tail));first|done|fail):T c fr H Φ:=.mk fun a w s g=>by
 obtain ⟨cs,rfl,v1,rfl,h1⟩:=s.get hm
 obtain ⟨a1,c1,rfl⟩:=h1.slice;have l1:=h1.len
 have t1:=s.ro (p:=.sl EInt (.slice a1 x.parent.length c1) x.parent F) hm rfl rfl ⟨by decide,h1⟩ fun b hb=>hb
 exact (h a1 c1 F rfl  l1).h a w t1 g
theorem closeTree (x:Tree) {a1:Option Addr} {c1:Nat} {F1:List Nat}  (h:T c fr (.isv ETree (.agg #[.slice a1 x.parent.length c1]) x (F1)::H) Φ) (m1:.sl EInt (.slice a1 x.parent.length c1) x.parent F1∈H:=by (repeat (first|exact .head _|apply List.Mem.tail));first|done|fail):T c fr H Φ:=.mk fun a w s g=>by
 have hP:IsV ETree w (.agg #[.slice a1 x.parent.length c1]) x (F1):=⟨_,rfl,_,rfl,(s.get m1).2⟩
 refine h.h a w (s.add (N:=[.isv ETree (.agg #[.slice a1 x.parent.length c1]) x (F1)]) (Below.refl _ _) (by intro q hq;simp at hq;subst hq;exact hP) ⟨by simp,trivial⟩ fun q hq b hb=>?_) g
 simp at hq;subst hq
 simp only [Pc.F,List.mem_append] at hb
 exact .inr ⟨rfl,_,m1,rfl,hb⟩
theorem openOTree {v:Value} {x:Tree} {F:List Nat} {S:List Pc} (h:∀(a1:Option Addr) (c1:Nat) (F1:List Nat),v=.agg #[.slice a1 x.parent.length c1]→x.parent.length≤maxLen→T c fr (.ow EInt 3 (.slice a1 x.parent.length c1) x.parent F1::S) Φ) (hp:Pick H (.own OTree v x F) S:=by (repeat (first|exact .here|apply Pick.there));first|done|fail):T c fr H Φ:=.mk fun a w s g=>by
 have z1:=s.pick hp
 obtain ⟨hn,cs,rfl,v1,rfl,h1⟩:=z1.on (.own OTree v x F) (by simp)
 obtain ⟨a1,c1,rfl⟩:=h1.slice;have l1:=h1.len
 refine (h a1 c1 F rfl  l1).h a w (St.turn (M:=[.own OTree (.agg #[.slice a1 x.parent.length c1]) x _]) (N:=[.ow EInt 3 (.slice a1 x.parent.length c1) x.parent F]) z1 (Keep.refl _ w) ?_ ?_ ?_) g
 ·intro q hq;simp at hq;subst hq;exact ⟨hn,h1⟩
 ·exact ⟨by simp,trivial⟩
 ·intro q hq b hb;simp at hq;subst hq;exact .inr (.inl ⟨_,List.mem_singleton.2 rfl,rfl,hb⟩)
theorem closeOTree (x:Tree) {a1:Option Addr} {c1:Nat} {F1:List Nat} {S1:List Pc}  (h:T c fr (.own OTree (.agg #[.slice a1 x.parent.length c1]) x (F1)::S1) Φ) (m1:Pick H (.ow EInt 3 (.slice a1 x.parent.length c1) x.parent F1) S1:=by (repeat (first|exact .here|apply Pick.there));first|done|fail)  : T c fr H Φ:=.mk fun a w s g=>by
 have z1:St c.G c.D c.w0 ([.ow EInt 3 (.slice a1 x.parent.length c1) x.parent F1]++S1) w:=by simpa using (show Picks H [.ow EInt 3 (.slice a1 x.parent.length c1) x.parent F1] S1 from Picks.cons m1 (Picks.nil)).st (X:=[]) (by simpa using s)
 obtain ⟨n1,k1⟩:=z1.on (.ow EInt 3 (.slice a1 x.parent.length c1) x.parent F1) (by simp)
 have hN:=n1
 refine h.h a w (St.turn (M:=[.ow EInt 3 (.slice a1 x.parent.length c1) x.parent F1]) (N:=[.own OTree (.agg #[.slice a1 x.parent.length c1]) x (F1)]) z1 (Keep.refl _ w) (by intro q hq;simp at hq;subst hq;exact ⟨hN,_,rfl,_,rfl,k1⟩) ⟨by simp,trivial⟩ fun q hq b hb=>?_) g
 simp at hq;subst hq
 simp only [Pc.F,List.mem_append] at hb
 exact .inr (.inl ⟨_,List.mem_singleton.2 rfl,rfl,hb⟩)
end
structure SmallN (n:Net):Prop where
 t:n.tree.parent.length≤1000000
 i:n.source.window.items.length≤1000000
 h:n.source.holds.length≤1000000
 e:n.elements.length≤1000000
 e1:∀x∈n.elements,x.entries.length≤1000000
 e2:∀x∈n.elements,∀y∈x.entries,y.faces.length≤1000000
 rl:n.receivers.length≤1000000
 r:∀x∈n.receivers,x.window.slots.length≤1000000∧x.requests.length≤1000000
 d:n.down.length≤1000000
 dq:∀q∈n.down,q.length≤1000000
 u:n.up.length≤1000000
 uq:∀q∈n.up,q.length≤1000000
structure ClN where
 g:Nat
 a1:Option Addr
 c1:Nat
 F1:List Nat
 a2:Option Addr
 c2:Nat
 F2:List Nat
 a3:Option Addr
 c3:Nat
 F3:List Nat
 g6:Nat
 F6:List Nat
 g7:Nat
 F7:List Nat
structure NV where
 a1:Option Addr
 c1:Nat
 F1:List Nat
 a2:Option Addr
 c2:Nat
 F2:List Nat
 a3:Option Addr
 c3:Nat
 F3:List Nat
 a4:Option Addr
 c4:Nat
 F4:List Nat
 a5:Option Addr
 c5:Nat
 F5:List Nat
 a6:Option Addr
 c6:Nat
 F6:List Nat
 a7:Option Addr
 c7:Nat
 F7:List Nat
structure KA where
 k:Nat
 a:Option Addr
 c:Nat
 F:List Nat
theorem Nclone_f (n:Net) (v:Value) (F:List Nat) (hs:SmallN n):Fn Tryz.prog 44 [v] [.isv ENet v n F] [] (fun (_:NV)=>True) (fun z=>.agg #[.slice z.a1 n.tree.parent.length z.c1,.int .i64 n.source.window.trail,.int .i64 n.source.window.size,.slice z.a2 n.source.window.items.length z.c2,.int .i64 n.source.clock,.int .i64 n.source.quiet,.slice z.a3 n.source.holds.length z.c3,.slice z.a4 n.elements.length z.c4,.slice z.a5 n.receivers.length z.c5,.slice z.a6 n.down.length z.c6,.slice z.a7 n.up.length z.c7]) (fun z=>[.ow EInt 3 (.slice z.a1 n.tree.parent.length z.c1) n.tree.parent z.F1,.ow EStr 9 (.slice z.a2 n.source.window.items.length z.c2) n.source.window.items z.F2,.ow EHold 194 (.slice z.a3 n.source.holds.length z.c3) n.source.holds z.F3,.ow OElement 142 (.slice z.a4 n.elements.length z.c4) n.elements z.F4,.ow OReceiver 149 (.slice z.a5 n.receivers.length z.c5) n.receivers z.F5,.ow (OSl EPacket 127) 132 (.slice z.a6 n.down.length z.c6) n.down z.F6,.ow (OSl EPacket 127) 132 (.slice z.a7 n.up.length z.c7) n.up z.F7]):=by
 refine enter Tryz.func44 rfl Tryz.ntmps44 fun w0=>?_
 refine openNet ?_
 rintro a1 c1 F1 a2 c2 F2 a3 c3 F3 a4 c4 F4 a5 c5 F5 a6 c6 F6 a7 c7 F7 rfl l1 l2 l3 l4 l5 l6 l7
 refine closeSource n.source ?_
 refine go ?_;intros
 refine c_joinS [1,2] [0,1,6,7] (fun z:ClN=>[(3,ptr z.g 0 0)]) (fun z=>[.row z.g 49 0 [] [.slice z.a1 n.tree.parent.length z.c1,.int .i64 n.source.window.trail,.int .i64 n.source.window.size,.slice z.a2 n.source.window.items.length z.c2,.int .i64 n.source.clock,.int .i64 n.source.quiet,.slice z.a3 n.source.holds.length z.c3,.slice none 0 0,.slice none 0 0,.slice (some ⟨z.g6,0,none⟩) n.down.length n.down.length,.slice (some ⟨z.g7,0,none⟩) n.up.length n.up.length] [],.ow EInt 3 (.slice z.a1 n.tree.parent.length z.c1) n.tree.parent z.F1,.ow EStr 9 (.slice z.a2 n.source.window.items.length z.c2) n.source.window.items z.F2,.ow EHold 194 (.slice z.a3 n.source.holds.length z.c3) n.source.holds z.F3,.ow (OSl EPacket 127) 132 (.slice (some ⟨z.g6,0,none⟩) n.down.length n.down.length) n.down z.F6,.ow (OSl EPacket 127) 132 (.slice (some ⟨z.g7,0,none⟩) n.up.length n.up.length) n.up z.F7]) (fun _=>True) ?_ fun z _=>?_
 ·refine d_start [1] [] ?_
  refine dt4 0 1 2 5 ?_
  refine dt4 6 8 9 11 ?_
  refine dt 12 ?_
  refine dM 3 15 ?_ ?_
  ·refine oC ?_
   refine cn (fun w st=>Clone_Int _ n.tree.parent F1 w (st.get (p:=.sl EInt (.slice a1 n.tree.parent.length c1) n.tree.parent F1) (by exact memE)).2 (by have:=hs.t;omega)) fun b1 d1 G1=>?_
   refine dk ?_
   refine dt 4 ?_
   refine dM 7 15 ?_ ?_
   ·refine oC ?_
    refine cf (Sclone_f n.source _ _ (by have:=hs.i;omega) (by have:=hs.h;omega)) fun s2 _=>?_
    refine t_app ?_
    refine openOSource (x:=n.source) ?_
    rintro b2 d2 G2 b3 d3 G3 e2 - -
    rw [e2]
    refine dk ?_
    refine dM 10 15 ?_ ?_
    ·refine oC ?_
     refine cf (cloneQueues_f n.down _ _ F6 (by have:=hs.d;omega) (fun q hq=>by have:=hs.dq q hq;omega)) fun s6 _=>?_
     refine t_app ?_
     refine dk ?_
     refine dM 13 15 ?_ ?_
     ·refine oC ?_
      refine cf (cloneQueues_f n.up _ _ F7 (by have:=hs.u;omega) (fun q hq=>by have:=hs.uq q hq;omega)) fun s7 _=>?_
      refine t_app ?_
      refine dk ?_
      refine dt 14 ?_
      refine dN 15 ?_
      apply o_alloc;rfl;intro _
      refine dk ?_
      refine dN 16 ?_
      refine oS ?_
      refine dk ?_
      refine dd ?_
      refine n_join (⟨_,b1,d1,G1,b2,d2,G2,b3,d3,G3,_,_,_,_⟩:ClN) trivial
     ·apply o_alloc;rfl;intro _
      refine dk ?_
      refine dN 13 ?_
      refine oC ?_
      refine cf (cloneQueues_f n.up _ _ F7 (by have:=hs.u;omega) (fun q hq=>by have:=hs.uq q hq;omega)) fun s7 _=>?_
      refine t_app ?_
      refine dk ?_
      refine dt 14 ?_
      refine dN 16 ?_
      refine oS ?_
      refine dk ?_
      refine dd ?_
      refine n_join (⟨_,b1,d1,G1,b2,d2,G2,b3,d3,G3,_,_,_,_⟩:ClN) trivial
    ·apply o_alloc;rfl;intro _
     refine dk ?_
     refine dN 10 ?_
     refine oC ?_
     refine cf (cloneQueues_f n.down _ _ F6 (by have:=hs.d;omega) (fun q hq=>by have:=hs.dq q hq;omega)) fun s6 _=>?_
     refine t_app ?_
     refine dk ?_
     refine dN 13 ?_
     refine oC ?_
     refine cf (cloneQueues_f n.up _ _ F7 (by have:=hs.u;omega) (fun q hq=>by have:=hs.uq q hq;omega)) fun s7 _=>?_
     refine t_app ?_
     refine dk ?_
     refine dt 14 ?_
     refine dN 16 ?_
     refine oS ?_
     refine dk ?_
     refine dd ?_
     refine n_join (⟨_,b1,d1,G1,b2,d2,G2,b3,d3,G3,_,_,_,_⟩:ClN) trivial
   ·apply o_alloc;rfl;intro _
    refine dk ?_
    refine dN 7 ?_
    refine oC ?_
    refine cf (Sclone_f n.source _ _ (by have:=hs.i;omega) (by have:=hs.h;omega)) fun s2 _=>?_
    refine t_app ?_
    refine openOSource (x:=n.source) ?_
    rintro b2 d2 G2 b3 d3 G3 e2 - -
    rw [e2]
    refine dk ?_
    refine dN 10 ?_
    refine oC ?_
    refine cf (cloneQueues_f n.down _ _ F6 (by have:=hs.d;omega) (fun q hq=>by have:=hs.dq q hq;omega)) fun s6 _=>?_
    refine t_app ?_
    refine dk ?_
    refine dN 13 ?_
    refine oC ?_
    refine cf (cloneQueues_f n.up _ _ F7 (by have:=hs.u;omega) (fun q hq=>by have:=hs.uq q hq;omega)) fun s7 _=>?_
    refine t_app ?_
    refine dk ?_
    refine dt 14 ?_
    refine dN 16 ?_
    refine oS ?_
    refine dk ?_
    refine dd ?_
    refine n_join (⟨_,b1,d1,G1,b2,d2,G2,b3,d3,G3,_,_,_,_⟩:ClN) trivial
  ·apply o_alloc;rfl;intro _
   refine dk ?_
   refine dN 3 ?_
   refine oC ?_
   refine cn (fun w st=>Clone_Int _ n.tree.parent F1 w (st.get (p:=.sl EInt (.slice a1 n.tree.parent.length c1) n.tree.parent F1) (by exact memE)).2 (by have:=hs.t;omega)) fun b1 d1 G1=>?_
   refine dk ?_
   refine dt 4 ?_
   refine dN 7 ?_
   refine oC ?_
   refine cf (Sclone_f n.source _ _ (by have:=hs.i;omega) (by have:=hs.h;omega)) fun s2 _=>?_
   refine t_app ?_
   refine openOSource (x:=n.source) ?_
   rintro b2 d2 G2 b3 d3 G3 e2 - -
   rw [e2]
   refine dk ?_
   refine dN 10 ?_
   refine oC ?_
   refine cf (cloneQueues_f n.down _ _ F6 (by have:=hs.d;omega) (fun q hq=>by have:=hs.dq q hq;omega)) fun s6 _=>?_
   refine t_app ?_
   refine dk ?_
   refine dN 13 ?_
   refine oC ?_
   refine cf (cloneQueues_f n.up _ _ F7 (by have:=hs.u;omega) (fun q hq=>by have:=hs.uq q hq;omega)) fun s7 _=>?_
   refine t_app ?_
   refine dk ?_
   refine dt 14 ?_
   refine dN 16 ?_
   refine oS ?_
   refine dk ?_
   refine dd ?_
   refine n_join (⟨_,b1,d1,G1,b2,d2,G2,b3,d3,G3,_,_,_,_⟩:ClN) trivial
 have he:=hs.e
 have hr:=hs.rl
 refine t_nilow OElement 142 ?_
 refine go ?_;intros
 refine c_loopS [1,2,3,24,25] (fun y:KA=>[(26,.int .i64 (y.k:Nat))]) (fun y=>[.row z.g 49 0 [] [.slice z.a1 n.tree.parent.length z.c1,.int .i64 n.source.window.trail,.int .i64 n.source.window.size,.slice z.a2 n.source.window.items.length z.c2,.int .i64 n.source.clock,.int .i64 n.source.quiet,.slice z.a3 n.source.holds.length z.c3,.slice y.a (n.elements.take y.k).length y.c,.slice none 0 0,.slice (some ⟨z.g6,0,none⟩) n.down.length n.down.length,.slice (some ⟨z.g7,0,none⟩) n.up.length n.up.length] [],.ow OElement 142 (.slice y.a (n.elements.take y.k).length y.c) (n.elements.take y.k) y.F]) (fun y=>y.k≤n.elements.length) (fun y=>n.elements.length - y.k) ⟨0,none,0,[]⟩ (Nat.zero_le _) fun y hy=>?_
 refine go ?_;intros
 refine c_if rfl (fun h1=>?_) (fun h1=>?_)
 ·have hk:y.k < n.elements.length:=by omega
  have htl:(n.elements.take y.k).length≤1000000:=by rw [List.length_take];omega
  refine atElement (xs:=n.elements) y.k ?_
  rintro hi4 b4 o4 a8 c8 F8 e4 l8
  rw [e4]
  refine closeElement n.elements[y.k] ?_
  refine go ?_;intros
  refine d_start [0,4] [7] ?_
  refine dt2 0 1 ?_
  refine dt 2 ?_
  refine dN 3 ?_
  refine oC ?_
  refine cv (fun w st=>Element_clone_c _ n.elements[y.k] F8 w (st.get (p:=.isv EElement (.agg #[.int .i64 n.elements[y.k].clock,.slice a8 n.elements[y.k].entries.length c8]) n.elements[y.k] F8) (by exact memE)) (by have:=hs.e1 _ (List.getElem_mem hk);omega) (fun x hx=>by have:=hs.e2 _ (List.getElem_mem hk) x hx;omega)) fun v9 F9=>?_
  refine openOElement (x:=n.elements[y.k]) ?_
  rintro a9 c9 F10 rfl l9
  refine closeOElement n.elements[y.k] ?_
  refine dk ?_
  refine dN 4 ?_
  apply o_bs;rfl;rfl;rfl;rfl;exact rptE;exact filE;intro _
  refine dk ?_
  refine dN 5 ?_
  refine ap1o one_OElement n.elements[y.k] rfl fun a7 c7 F7=>?_
  refine dk ?_
  refine dt 6 ?_
  refine dN 7 ?_
  refine oS ?_
  refine dkx ?_
  refine dd ?_
  rw [←List.take_succ_eq_append_getElem hk]
  refine go ?_;intros
  refine n_lp ⟨y.k+1,a7,c7,F7⟩ hk (by show n.elements.length - (y.k+1) < n.elements.length - y.k;omega)
 rw [show n.elements.take y.k=n.elements from List.take_of_length_le (by omega)]
 obtain ⟨_,ea,ec,eF⟩:=y
 dsimp only
 refine t_nilow OReceiver 149 ?_
 refine go ?_;intros
 refine c_loopS [2,3,39,40] (fun y:KA=>[(41,.int .i64 (y.k:Nat))]) (fun y=>[.row z.g 49 0 [] [.slice z.a1 n.tree.parent.length z.c1,.int .i64 n.source.window.trail,.int .i64 n.source.window.size,.slice z.a2 n.source.window.items.length z.c2,.int .i64 n.source.clock,.int .i64 n.source.quiet,.slice z.a3 n.source.holds.length z.c3,.slice ea n.elements.length ec,.slice y.a (n.receivers.take y.k).length y.c,.slice (some ⟨z.g6,0,none⟩) n.down.length n.down.length,.slice (some ⟨z.g7,0,none⟩) n.up.length n.up.length] [],.ow OReceiver 149 (.slice y.a (n.receivers.take y.k).length y.c) (n.receivers.take y.k) y.F]) (fun y=>y.k≤n.receivers.length) (fun y=>n.receivers.length - y.k) ⟨0,none,0,[]⟩ (Nat.zero_le _) fun y hy=>?_
 refine go ?_;intros
 refine c_if rfl (fun h2=>?_) (fun h2=>?_)
 ·have hk:y.k < n.receivers.length:=by omega
  have htl:(n.receivers.take y.k).length≤1000000:=by rw [List.length_take];omega
  refine atReceiver (xs:=n.receivers) y.k ?_
  rintro hi5 b5 o5 a8 c8 F8 a9 c9 F9 e5 l8 l9
  rw [e5]
  refine closeReceiver n.receivers[y.k] ?_
  refine go ?_;intros
  refine d_start [0,5] [7] ?_
  refine dt2 0 1 ?_
  refine dt 2 ?_
  refine dN 3 ?_
  refine oC ?_
  refine cf (Rclone_f n.receivers[y.k] _ _ (by have:=(hs.r _ (List.getElem_mem hk)).1;omega) (by have:=(hs.r _ (List.getElem_mem hk)).2;omega)) fun s9 _=>?_
  refine t_app ?_
  refine openOReceiver (x:=n.receivers[y.k]) ?_
  rintro a9 c9 G9 a10 c10 G10 e9 l9 l10
  rw [e9]
  refine closeOReceiver n.receivers[y.k] ?_
  refine dk ?_
  refine dN 4 ?_
  apply o_bs;rfl;rfl;rfl;rfl;exact rptE;exact filE;intro _
  refine dk ?_
  refine dN 5 ?_
  refine ap1o one_OReceiver n.receivers[y.k] rfl fun a7 c7 F7=>?_
  refine dk ?_
  refine dt 6 ?_
  refine dN 7 ?_
  refine oS ?_
  refine dkx ?_
  refine dd ?_
  rw [←List.take_succ_eq_append_getElem hk]
  refine go ?_;intros
  refine n_lp ⟨y.k+1,a7,c7,F7⟩ hk (by show n.receivers.length - (y.k+1) < n.receivers.length - y.k;omega)
 rw [show n.receivers.take y.k=n.receivers from List.take_of_length_le (by omega)]
 refine go ?_;intros
 refine ret ⟨z.a1,z.c1,z.F1,z.a2,z.c2,z.F2,z.a3,z.c3,z.F3,ea,ec,eF,y.a,y.c,y.F,_,_,z.F6,_,_,z.F7⟩ trivial rfl
theorem itoa_nt {v:Int} (h:0≤v):Lib.itoa v=Lib.decDigits v.natAbs:=by unfold Lib.itoa;rw [if_neg (by omega),show v.toNat=v.natAbs by omega]
theorem numI_c (n:Int) (h0:0≤n) (h1:n≤999999) (w:World):Calls Tryz.prog 227 #[.int .i64 n] w fun e w2=>e=.returned (.string (bz (Lib.itoa n)))∧Below w.heap.size w w2:=by
 have:=num_c n.toNat (by omega) w
 rw [show ((n.toNat:Nat):Int)=n by omega,show n.toNat=n.natAbs by omega,←itoa_nt h0] at this
 exact this
theorem delayOf_f (i:Nat) (hi:i≤100):Fn Tryz.prog 131 [.int .i64 (i:Nat)] [] [] (fun (_:Unit)=>True) (fun _=>.int .i64 (dly i)) (fun _=>[]):=by
 refine enter Tryz.func131 rfl Tryz.ntmps131 fun w0=>?_
 refine go ?_;intros
 refine ret () trivial rfl
theorem l15Delay_f (i:Nat) (hi:i≤100):Fn Tryz.prog 160 [.int .i64 (i:Nat)] [] [] (fun (_:Unit)=>True) (fun _=>.int .i64 (dly i)) (fun _=>[]):=by
 refine enter Tryz.func160 rfl Tryz.ntmps160 fun w0=>?_
 refine go ?_;intros
 refine ret () trivial rfl
theorem told_f (i:Nat) (es:List ByteArray) (a:Option Addr) (c:Nat) (F FT:List Nat) (hi:i≤100) (hl:es.length≤1000000) (hz:∀e∈es,e.size≤1000000):Fn Tryz.prog 133 [.int .i64 (i:Nat),.slice a es.length c] [.sl EStr (.slice a es.length c) es F,EnvP FT] [] (fun (_:KA)=>True) (fun z=>.slice z.a (tell i es).length z.c) (fun z=>[.ow EStr 9 (.slice z.a (tell i es).length z.c) (tell i es) z.F]):=by
 have hs0:(bz (Lib.itoa ((i:Nat):Int))).size≤6:=by rw [bz_size,itoa_nt (by omega)];exact digit_len 5 _ (by have:(10:Nat) ^ (5+1)=1000000:=rfl;omega)
 refine enter Tryz.func133 rfl Tryz.ntmps133 fun w0=>?_
 refine t_nilow EStr 9 ?_
 refine go ?_;intros
 refine c_loopS [0,4,8,9] (fun z:KA=>[(5,.slice z.a ((es.take z.k).map (tellE i)).length z.c),(10,.int .i64 (z.k:Nat))]) (fun z=>[.ow EStr 9 (.slice z.a ((es.take z.k).map (tellE i)).length z.c) ((es.take z.k).map (tellE i)) z.F]) (fun z=>z.k≤es.length) (fun z=>es.length - z.k) ⟨0,none,0,[]⟩ (Nat.zero_le _) fun z hz0=>?_
 have hml:((es.take z.k).map (tellE i)).length=z.k:=by rw [List.length_map,List.length_take];omega
 refine go ?_;intros
 refine c_if rfl (fun h1=>?_) (fun h1=>?_)
 ·have hk:z.k < es.length:=by omega
  have hse:=hz _ (List.getElem_mem hk)
  have z1:(⟨#[32]⟩:ByteArray).size=1:=rfl
  have zs:(bz (Lib.itoa ((i:Nat):Int))++⟨#[32]⟩).size=_:=ByteArray.size_append
  have zt:(bz (Lib.itoa ((i:Nat):Int))++⟨#[32]⟩++es[z.k]).size=_:=ByteArray.size_append
  have hst:((es.take z.k).map (tellE i))++[tellE i es[z.k]]=(es.take (z.k+1)).map (tellE i):=by rw [List.take_succ_eq_append_getElem hk,List.map_append];rfl
  have hte:(tellE i es[z.k]).size≤1000010:=by unfold tellE;omega
  refine at_str (xs:=es) z.k ?_
  rintro hi b o e1 s1
  rw [e1]
  refine go ?_;intros
  refine cb (fun w st=>itoa_c ((i:Nat):Int) (by omega) (by omega) FT w (st.get (p:=EnvP FT) (by exact memE))) ?_
  refine goN ?_;intros
  apply wO
  refine ap1 (ys:=[tellE i es[z.k]]) (rep_s (by unfold maxLen;omega)) one_EStr fun a9 c9 F9=>?_
  rw [hst]
  refine go ?_;intros
  refine n_lp ⟨z.k+1,a9,c9,F9⟩ hk (by show es.length - (z.k+1) < es.length - z.k;omega)
 ·rw [show es.take z.k=es from List.take_of_length_le (by omega)]
  refine go ?_;intros
  refine ret z trivial rfl
theorem l15Tell_f (i:Nat) (es:List ByteArray) (a:Option Addr) (c:Nat) (F FT:List Nat) (hi:i≤100) (hl:es.length≤1000000) (hz:∀e∈es,e.size≤1000000):Fn Tryz.prog 161 [.int .i64 (i:Nat),.slice a es.length c] [.sl EStr (.slice a es.length c) es F,EnvP FT] [] (fun (_:KA)=>True) (fun z=>.slice z.a (tell i es).length z.c) (fun z=>[.ow EStr 9 (.slice z.a (tell i es).length z.c) (tell i es) z.F]):=by
 have hs0:(bz (Lib.itoa ((i:Nat):Int))).size≤6:=by rw [bz_size,itoa_nt (by omega)];exact digit_len 5 _ (by have:(10:Nat) ^ (5+1)=1000000:=rfl;omega)
 refine enter Tryz.func161 rfl Tryz.ntmps161 fun w0=>?_
 refine go ?_;intros
 refine t_emp EStr ?_
 refine c_loopS [0,1,4] (fun z:KA=>[(5,.slice z.a ((es.take z.k).map (tellE i)).length z.c),(6,.int .i64 (z.k:Nat))]) (fun z=>[.ow EStr 9 (.slice z.a ((es.take z.k).map (tellE i)).length z.c) ((es.take z.k).map (tellE i)) z.F]) (fun z=>z.k≤es.length) (fun z=>es.length - z.k) ⟨0,_,0,_⟩ (Nat.zero_le _) fun z hz0=>?_
 have hml:((es.take z.k).map (tellE i)).length=z.k:=by rw [List.length_map,List.length_take];omega
 refine go ?_;intros
 refine c_if rfl (fun h1=>?_) (fun h1=>?_)
 ·have hk:z.k < es.length:=by omega
  have hse:=hz _ (List.getElem_mem hk)
  have z1:(⟨#[32]⟩:ByteArray).size=1:=rfl
  have zs:(bz (Lib.itoa ((i:Nat):Int))++⟨#[32]⟩).size=_:=ByteArray.size_append
  have zt:(bz (Lib.itoa ((i:Nat):Int))++⟨#[32]⟩++es[z.k]).size=_:=ByteArray.size_append
  have hst:((es.take z.k).map (tellE i))++[tellE i es[z.k]]=(es.take (z.k+1)).map (tellE i):=by rw [List.take_succ_eq_append_getElem hk,List.map_append];rfl
  have hte:(tellE i es[z.k]).size≤1000010:=by unfold tellE;omega
  refine at_str (xs:=es) z.k ?_
  rintro hi b o e1 s1
  rw [e1]
  refine go ?_;intros
  refine d_start [0] [] ?_
  refine dt4 0 1 4 5 ?_
  refine dt2 6 7 ?_
  refine dN 2 ?_
  refine oC ?_
  refine cb (fun w st=>numI_c ((i:Nat):Int) (by omega) (by omega) w) ?_
  refine dk ?_
  refine dt2 3 8 ?_
  refine dN 9 ?_
  apply o_bs;rfl;rfl;rfl;rfl;exact rptE;exact filE;intro _
  refine dk ?_
  refine dN 10 ?_
  refine ap1 (ys:=[tellE i es[z.k]]) (rep_s (by unfold maxLen;omega)) one_EStr fun a9 c9 F9=>?_
  refine dk ?_
  refine dt 11 ?_
  refine dd ?_
  rw [hst]
  refine go ?_;intros
  refine n_lp ⟨z.k+1,a9,c9,F9⟩ hk (by show es.length - (z.k+1) < es.length - z.k;omega)
 ·rw [show es.take z.k=es from List.take_of_length_le (by omega)]
  refine go ?_;intros
  refine ret z trivial rfl
end Go.Proofs.YtgmbfohkpfineaaGreatDoor
namespace Go.Proofs.YtgmbfohkpfineaaGreatDoor

theorem tw_len {α:Type} {p:α→Bool}:∀{xs:List α} {k:Nat},k≤xs.length→(∀j (_:j < k) (h:j < xs.length),p xs[j]=true)→(∀h:k < xs.length,p xs[k]=false)→(xs.takeWhile p).length=k
 | [],k,hk,_,_=>by simp at hk;simp [hk]
 | x::r,0,_,_,h2=>by have:=h2 (by simp);simp at this;simp [this]
 | x::r,k+1,hk,h1,h2=>by
  have hx:p x=true:=h1 0 (by omega) (by simp)
  rw [List.takeWhile_cons_of_pos hx,List.length_cons,tw_len (xs:=r) (k:=k) (by simpa using hk) (fun j hj h=>by have:=h1 (j+1) (by omega) (by simpa using h);simpa using this) (fun h=>by have:=h2 (by simpa using h);simpa using this)]
theorem tw_spec {α:Type} {p:α→Bool}:∀{xs:List α},(xs.takeWhile p).length≤xs.length∧(∀j (_:j < (xs.takeWhile p).length) (h:j < xs.length),p xs[j]=true)∧∀h:(xs.takeWhile p).length < xs.length,p xs[(xs.takeWhile p).length]=false
 | []=>by simp
 | x::r=>by
  cases hx:p x
  ·rw [List.takeWhile_cons_of_neg (by simp [hx])];simp [hx]
  ·rw [List.takeWhile_cons_of_pos hx]
   obtain ⟨h1,h2,h3⟩:=tw_spec (p:=p) (xs:=r)
   refine ⟨by simpa using h1,fun j hj h=>?_,fun h=>?_⟩
   ·cases j with
    | zero=>simpa using hx
    | succ j=>simpa using h2 j (by simpa using hj) (by simpa using h)
   ·simpa using h3 (by simpa using h)
def hitB {α:Type} (f:α→Int):Option α→Bool
 | some x=>decide (f x=0)
 | none=>false
end Go.Proofs.YtgmbfohkpfineaaGreatDoor
namespace Go.Proofs.YtgmbfohkpfineaaGreatDoor
open Go.RowKit
theorem gpInj {t a b:Int} (ha:isSer a=true) (hb:isSer b=true) (h:gp t a=gp t b):a=b:=by
 obtain ⟨a0,a1⟩:=isSer_iff.1 ha
 obtain ⟨b0,b1⟩:=isSer_iff.1 hb
 unfold gp at h;omega
def askAt (base:Int) (l:List Request) (n:Int):Nat:=(l.takeWhile fun r=>decide (gp base r.number < gp base n)).length
def askOn (base:Int) (l:List Request) (n:Int):Bool:=match l[askAt base l n]? with|some r=>decide (r.number=n)|none=>false
def newQ (n u:Int):Request:=⟨n,1,u,0⟩
def insQ (base:Int) (l:List Request) (n u:Int):List Request:=l.take (askAt base l n)++newQ n u::l.drop (askAt base l n)
def addQ (base:Int) (l:List Request) (n u:Int):List Request:=if askOn base l n || !decide (gp base n < 8) then l else insQ base l n u
def confQ (base:Int) (l:List Request) (n u:Int):List Request:=match l[askAt base l n]? with|some r=>if r.number=n then l.set (askAt base l n) ⟨n,3,u,r.tries⟩ else l|none=>l
theorem askAt_le (base:Int) (l:List Request) (n:Int):askAt base l n≤l.length:=tw_spec.1
theorem askOn_at {base:Int} {l:List Request} {n:Int} (h:askAt base l n < l.length):askOn base l n=decide (l[askAt base l n].number=n):=by unfold askOn;rw [List.getElem?_eq_getElem h]
theorem askOn_end {base:Int} {l:List Request} {n:Int} (h:¬askAt base l n < l.length):askOn base l n=false:=by unfold askOn;rw [List.getElem?_eq_none (by omega)]
theorem askOn_lt {base:Int} {l:List Request} {n:Int} (h:askOn base l n=true):askAt base l n < l.length:=by
 by_cases h2:askAt base l n < l.length
 ·exact h2
 ·rw [askOn_end h2] at h;cases h
theorem confQ_no {base:Int} {l:List Request} {n u:Int} (h:askOn base l n=false):confQ base l n u=l:=by
 unfold confQ
 unfold askOn at h
 cases hq:l[askAt base l n]? with
 | none=>rfl
 | some r=>rw [hq] at h;dsimp only at h ⊢;rw [if_neg (by simpa using h)]
theorem confQ_yes {base:Int} {l:List Request} {n u:Int} (h:askOn base l n=true):confQ base l n u=l.set (askAt base l n) ⟨n,3,u,(l[askAt base l n]'(askOn_lt h)).tries⟩:=by
 have h2:=askOn_lt h
 rw [askOn_at h2] at h
 unfold confQ
 rw [List.getElem?_eq_getElem h2]
 dsimp only
 rw [if_pos (by simpa using h)]
theorem confQ_len (base:Int) (l:List Request) (n u:Int):(confQ base l n u).length=l.length:=by
 cases h:askOn base l n
 ·rw [confQ_no h]
 ·rw [confQ_yes h,List.length_set]
theorem ask_ne {base n:Int} {l:List Request} (hq:areQ l base=true) (hn:isSer n=true) (h:askOn base l n=false):∀r∈l,gp base r.number≠gp base n:=by
 obtain ⟨-, -,h3,h4⟩:=areQ_iff.1 hq
 obtain ⟨t1,t2,t3⟩:=tw_spec (p:=fun r:Request=>decide (gp base r.number < gp base n)) (xs:=l)
 intro r hr e
 obtain ⟨i,hi,rfl⟩:=List.getElem_of_mem hr
 have e2:=gpInj (okReq_iff.1 (h3 _ hr)).n hn e
 have hk:askAt base l n=i:=tw_len (by omega) (fun j hj h=>by
  have:=List.pairwise_iff_getElem.1 h4 j i h hi hj
  simp only [decide_eq_true_eq];omega) (fun h=>by simp only [decide_eq_false_iff_not];omega)
 rw [askOn_at (by omega)] at h
 simp only [hk] at h
 simp [e2] at h
theorem pw_len {base:Int} {l:List Request} (hp:l.Pairwise fun a b=>gp base a.number < gp base b.number) (h8:∀q∈l,gp base q.number < 8):l.length≤8:=by
 have key:∀i (h:i < l.length),(i:Int)≤gp base l[i].number:=by
  intro i
  induction i with
  | zero=>intro h;exact (gp_bd _ _).1
  | succ i ih =>
   intro h
   have a:=ih (by omega)
   have b:=List.pairwise_iff_getElem.1 hp i (i+1) (by omega) h (by omega)
   omega
 by_cases h:l.length≤8
 ·exact h
 ·have a:=key 8 (by omega)
  have b:=h8 _ (List.getElem_mem (show 8 < l.length by omega))
  omega
theorem insQ_len (base:Int) (l:List Request) (n u:Int):(insQ base l n u).length=l.length+1:=by
 have:=askAt_le base l n
 unfold insQ
 rw [List.length_append,List.length_cons,List.length_take,List.length_drop];omega
theorem insQ_good {base n u:Int} {l:List Request} (hq:areQ l base=true) (hn:isSer n=true) (h8:gp base n < 8) (u0:0≤u) (u1:u≤10007) (h:askOn base l n=false):areQ (insQ base l n u) base=true:=by
 have hne:=ask_ne hq hn h
 obtain ⟨h1,h2,h3,h4⟩:=areQ_iff.1 hq
 obtain ⟨t1,t2,t3⟩:=tw_spec (p:=fun r:Request=>decide (gp base r.number < gp base n)) (xs:=l)
 have hle:=askAt_le base l n
 have hok:∀r∈insQ base l n u,okReq base r=true:=by
  intro r hr
  unfold insQ at hr
  rcases List.mem_append.1 hr with h|h
  ·exact h3 r (List.mem_of_mem_take h)
  ·rcases List.mem_cons.1 h with rfl|h
   ·exact okReq_iff.2 ⟨hn,h8,by show (1:Int)≤1;decide,by show (1:Int)≤3;decide,u0,u1,by show (0:Int)≤0;decide,by show (0:Int)≤3;decide⟩
   ·exact h3 r (List.mem_of_mem_drop h)
 have hpw:(insQ base l n u).Pairwise fun a b=>gp base a.number < gp base b.number:=by
  unfold insQ
  rw [List.pairwise_append]
  refine ⟨h4.sublist (List.take_sublist _ _),?_,?_⟩
  ·rw [List.pairwise_cons]
   refine ⟨fun b hb=>?_,h4.sublist (List.drop_sublist _ _)⟩
   obtain ⟨j,hj,rfl⟩:=List.getElem_of_mem hb
   rw [List.getElem_drop]
   rw [List.length_drop] at hj
   have hk:askAt base l n < l.length:=by omega
   have h0:=t3 hk
   simp only [decide_eq_false_iff_not,Int.not_lt] at h0
   have h00:gp base n≤gp base (l[askAt base l n]'hk).number:=h0
   have hd:=hne _ (List.getElem_mem hk)
   show gp base n < _
   rcases Nat.eq_zero_or_pos j with e|e
   ·subst e;simp only [Nat.add_zero];omega
   ·have h5:=List.pairwise_iff_getElem.1 h4 (askAt base l n) (askAt base l n+j) hk (by omega) (by omega)
    omega
  ·intro a ha b hb
   obtain ⟨i,hi,rfl⟩:=List.getElem_of_mem ha
   rw [List.length_take] at hi
   rw [List.getElem_take]
   have ha2:=t2 i (by show i < askAt base l n;omega) (by omega)
   simp only [decide_eq_true_eq] at ha2
   rcases List.mem_cons.1 hb with rfl|hb
   ·exact ha2
   ·obtain ⟨j,hj,rfl⟩:=List.getElem_of_mem hb
    rw [List.getElem_drop]
    rw [List.length_drop] at hj
    exact List.pairwise_iff_getElem.1 h4 i (askAt base l n+j) (by omega) (by omega) (by omega)
 exact areQ_iff.2 ⟨h1,pw_len hpw fun q hq=>(okReq_iff.1 (hok q hq)).g,hok,hpw⟩
theorem addQ_good {base n u:Int} {l:List Request} (hq:areQ l base=true) (hn:isSer n=true) (u0:0≤u) (u1:u≤10007):areQ (addQ base l n u) base=true:=by
 unfold addQ
 split
 ·exact hq
 ·rename_i h
  simp only [Bool.or_eq_true,Bool.not_eq_true',not_or,Bool.not_eq_false,Bool.not_eq_true,decide_eq_true_eq] at h
  exact insQ_good hq hn h.2 u0 u1 h.1
theorem mem_addQ {base n u:Int} {l:List Request} {q:Request} (h:q∈addQ base l n u):q∈l∨q.number=n:=by
 unfold addQ insQ at h
 split at h
 ·exact .inl h
 ·rcases List.mem_append.1 h with h|h
  ·exact .inl (List.mem_of_mem_take h)
  ·rcases List.mem_cons.1 h with rfl|h
   ·exact .inr rfl
   ·exact .inl (List.mem_of_mem_drop h)
theorem confQ_good {base n u:Int} {l:List Request} (hq:areQ l base=true) (u0:0≤u) (u1:u≤10007):areQ (confQ base l n u) base=true:=by
 cases h:askOn base l n
 ·rw [confQ_no h];exact hq
 obtain ⟨h1,h2,h3,h4⟩:=areQ_iff.1 hq
 have hk:=askOn_lt h
 have hn:l[askAt base l n].number=n:=by rw [askOn_at hk] at h;simpa using h
 have ho:=okReq_iff.1 (h3 _ (List.getElem_mem hk))
 rw [confQ_yes h]
 have hnum:∀i (h:i < (l.set (askAt base l n) ⟨n,3,u,l[askAt base l n].tries⟩).length),(l.set (askAt base l n) ⟨n,3,u,l[askAt base l n].tries⟩)[i].number=(l[i]'(by simpa using h)).number:=fun i h=>by
  rw [List.getElem_set]
  split
  ·rename_i e;subst e;exact hn.symm
  ·rfl
 refine areQ_iff.2 ⟨h1,by simpa using h2,fun r hr=>?_,?_⟩
 ·have gn:=ho.n
  have gg:=ho.g
  rw [hn] at gn gg
  rcases List.mem_or_eq_of_mem_set hr with h|rfl
  ·exact h3 r h
  ·exact okReq_iff.2 ⟨gn,gg,by show (1:Int)≤3;decide,by show (3:Int)≤3;decide,u0,u1,ho.t0,ho.t1⟩
 ·refine List.pairwise_iff_getElem.2 fun i j hi hj hij=>?_
  rw [hnum i hi,hnum j hj]
  exact List.pairwise_iff_getElem.1 h4 i j _ _ hij
theorem mem_confQ {base n u:Int} {l:List Request} {q:Request} (h:q∈confQ base l n u):∃r∈l,r.number=q.number:=by
 cases h2:askOn base l n
 ·rw [confQ_no h2] at h;exact ⟨q,h,rfl⟩
 have hk:=askOn_lt h2
 have hn:l[askAt base l n].number=n:=by rw [askOn_at hk] at h2;simpa using h2
 rw [confQ_yes h2] at h
 rcases List.mem_or_eq_of_mem_set h with h|rfl
 ·exact ⟨q,h,rfl⟩
 ·exact ⟨_,List.getElem_mem hk,hn⟩
def startW (r:Receiver) (p:Packet):ReceiveWindow:=if r.started then r.window else ⟨if p.kind=5 then p.lead else p.number,r.window.slots⟩
def takenW (r:Receiver) (p:Packet):ReceiveWindow:=if p.kind=5 then startW r p else takeW (startW r p) p.number p.data
def takenE (r:Receiver) (p:Packet):List ByteArray:=if p.kind=5 then [] else takeE (startW r p) p.number p.data
def skipW (w:ReceiveWindow) (t:Int):ReceiveWindow:=if bef w.next t then (if gp w.next t≤8 then movedW w t else ⟨t,[]⟩) else w
def skipE (w:ReceiveWindow) (t:Int):List ByteArray:=if bef w.next t then (if gp w.next t≤8 then movedE w t else [⟨#[33]⟩]) else []
def newsW (r:Receiver) (p:Packet):ReceiveWindow:=skipW (takenW r p) p.trail
def newsE (r:Receiver) (p:Packet):List ByteArray:=takenE r p++skipE (takenW r p) p.trail
def addAll (base u:Int) (l:List Request) (ns:List Int):List Request:=ns.foldl (fun l n=>addQ base l n u) l
def awaitN (w:ReceiveWindow) (lead:Int):Nat:=(min (gp w.next lead) 8).toNat
def awaitQ (w:ReceiveWindow) (l:List Request) (lead u:Int):List Request:=if bef w.next lead then addAll w.next u l (missL w (awaitN w lead)) else l
def newsR (r:Receiver) (p:Packet) (d:Int):Receiver:=⟨true,r.clock,newsW r p,awaitQ (newsW r p) (needed r.requests (newsW r p)) p.lead (r.clock+d)⟩
def isNews (p:Packet):Bool:=decide (p.kind=1) || decide (p.kind=2) || decide (p.kind=5)
def confR (r:Receiver) (p:Packet):Receiver:=⟨r.started,r.clock,r.window,confQ r.window.next r.requests p.number (r.clock+4)⟩
def hearR (r:Receiver) (p:Packet) (d:Int):Receiver:=if isNews p then newsR r p d else if decide (p.kind=4) && r.started then confR r p else r
def hearE (r:Receiver) (p:Packet):List ByteArray:=if isNews p then newsE r p else []
theorem take_good {w:ReceiveWindow} {n:Int} {s:ByteArray} (hg:goodRW w=true) (hn:isSer n=true) (hs:itm s=true):goodRW (takeW w n s)=true∧(∃m:Nat,m≤8∧(takeW w n s).next=aft w.next m)∧(takeE w n s).length≤8:=by
 obtain ⟨w0,w1⟩:=next_ser hg
 cases ht:takeOk w n
 ·have e:(takeNo w n || !decide (gp w.next n < 8))=true:=by unfold takeOk at ht;simp only [Bool.or_eq_false_iff] at ht;rw [ht.1,ht.2];rfl
  have e1:takeW w n s=w:=by unfold takeW;rw [if_pos e]
  have e2:takeE w n s=[]:=by unfold takeE;rw [if_pos e]
  rw [e1,e2]
  exact ⟨hg,⟨0,by omega,(aft_zeroN w0 w1).symm⟩,by simp⟩
 ·have hok:okTakeItem w n s=true:=by unfold okTakeItem;rw [hg,hn,hs,ht];rfl
  have h:=law_take w n s (by unfold resTakeItem;rw [hok];rfl)
  rw [show resTakeItem w n s=(takeW w n s,takeE w n s,true) by unfold resTakeItem;rw [hok];rfl] at h
  obtain ⟨-, -,h3,h4, -, -,h7, -⟩:=h
  dsimp only at h3 h4 h7
  refine ⟨h3,⟨_,h7,?_⟩,h7⟩
  obtain ⟨v0,v1⟩:=next_ser h3
  rw [←h4]
  unfold aft gp at *;omega
theorem start_good {r:Receiver} {p:Packet} (hg:GoodR r) (hp:goodPk p=true):goodRW (startW r p)=true∧(r.started=true→startW r p=r.window):=by
 unfold startW
 unfold goodPk at hp
 simp only [Bool.and_eq_true] at hp
 cases hs:r.started
 ·refine ⟨?_,fun h=>by cases h⟩
  rw [(hg.z hs).1]
  simp only [Bool.false_eq_true,if_false]
  unfold goodRW
  split
  ·rw [hp.1.1.1.2];rfl
  ·rw [hp.1.1.1.1.1.2];rfl
 ·exact ⟨hg.w,fun _=>rfl⟩
theorem taken_good {r:Receiver} {p:Packet} (hg:GoodR r) (hp:goodPk p=true):goodRW (takenW r p)=true∧(∃m:Nat,m≤8∧(takenW r p).next=aft (startW r p).next m)∧(takenE r p).length≤8:=by
 have h1:=(start_good hg hp).1
 obtain ⟨w0,w1⟩:=next_ser h1
 unfold takenW takenE
 split
 ·exact ⟨h1,⟨0,by omega,(aft_zeroN w0 w1).symm⟩,by simp⟩
 ·unfold goodPk at hp
  simp only [Bool.and_eq_true] at hp
  exact take_good h1 hp.1.1.1.1.1.2 hp.1.1.2
theorem skip_good {w:ReceiveWindow} {t:Int} (hg:goodRW w=true) (ht:isSer t=true):goodRW (skipW w t)=true∧(∃m:Nat,m≤32767∧(skipW w t).next=aft w.next m)∧(skipE w t).length≤16:=by
 obtain ⟨w0,w1⟩:=next_ser hg
 obtain ⟨t0,t1⟩:=isSer_iff.1 ht
 unfold skipW skipE
 cases hb:bef w.next t
 ·exact ⟨hg,⟨0,by omega,(aft_zeroN w0 w1).symm⟩,by simp⟩
 ·simp only [if_true]
  split
  ·obtain ⟨e1,e2,e3,e4⟩:=moved_at (t:=t) hg
   have:=@stepsN_gp w.next t
   exact ⟨giveUp_good _ _ hg,⟨_,by omega,e1⟩,by omega⟩
  ·refine ⟨by unfold goodRW;rw [ht];rfl,⟨(gp w.next t).toNat,?_,?_⟩,by simp⟩
   ·unfold bef btw at hb;simp only [Bool.and_eq_true,decide_eq_true_eq] at hb;omega
   ·have:=gp_bd w.next t
    show t=_
    unfold aft gp at *;omega
theorem needed_good {l:List Request} {b:Int} {w:ReceiveWindow} {m:Nat} (hm:m≤65528) (hq:areQ l b=true) (hw:goodRW w=true) (e:w.next=aft b m):areQ (needed l w) w.next=true:=by
 obtain ⟨h1,h2,h3,h4⟩:=areQ_iff.1 hq
 obtain ⟨b0,b1⟩:=isSer_iff.1 h1
 have key:∀q∈l,gp w.next q.number < 8→gp w.next q.number=gp b q.number - m:=fun q hq h=>by
  have ho:=okReq_iff.1 (h3 q hq)
  obtain ⟨n0,n1⟩:=isSer_iff.1 ho.n
  have:=ho.g
  rw [e] at h ⊢
  unfold gp aft at *;omega
 have hin:∀q∈needed l w,q∈l∧gp w.next q.number < 8:=fun q hq=>by
  unfold needed at hq
  rw [List.mem_filter] at hq
  simp only [Bool.and_eq_true,decide_eq_true_eq] at hq
  exact ⟨hq.1,hq.2.2⟩
 refine areQ_iff.2 ⟨isSer_iff.2 (next_ser hw),Nat.le_trans (List.length_filter_le _ _) h2,fun q hq=>?_,?_⟩
 ·obtain ⟨a,c⟩:=hin q hq
  have ho:=okReq_iff.1 (h3 q a)
  exact okReq_iff.2 ⟨ho.n,c,ho.s0,ho.s1,ho.u0,ho.u1,ho.t0,ho.t1⟩
 ·have h5:(needed l w).Pairwise fun a b'=>gp b a.number < gp b b'.number:=h4.sublist List.filter_sublist
  refine h5.imp_of_mem fun ha hb h=>?_
  rw [key _ (hin _ ha).1 (hin _ ha).2,key _ (hin _ hb).1 (hin _ hb).2];omega
theorem needed_free {l:List Request} {w:ReceiveWindow}:∀q∈needed l w,hasB w q.number=false:=fun q hq=>by
 unfold needed at hq
 rw [List.mem_filter] at hq
 simp only [Bool.and_eq_true,Bool.not_eq_true',Bool.or_eq_false_iff] at hq
 exact hq.2.1.2
theorem missL_at {w:ReceiveWindow} {k:Nat} (hk:k≤8) {n:Int} (h:n∈missL w k):isSer n=true∧gp w.next n < 8∧hasB w n=false:=by
 unfold missL spanL at h
 obtain ⟨h1,h2⟩:=List.mem_filter.1 h
 obtain ⟨i,hi,rfl⟩:=List.mem_map.1 h1
 rw [List.mem_range] at hi
 refine ⟨aft_ser _ _,?_,by simpa using h2⟩
 unfold gp aft;omega
theorem addAll_good {w:ReceiveWindow} {u:Int} (u0:0≤u) (u1:u≤10007):∀(ns:List Int) (l:List Request),(∀n∈ns,isSer n=true∧hasB w n=false)→areQ l w.next=true→(∀q∈l,hasB w q.number=false)→areQ (addAll w.next u l ns) w.next=true∧∀q∈addAll w.next u l ns,hasB w q.number=false
 | [],l,_,h2,h3=>⟨h2,h3⟩
 | n::ns,l,h1,h2,h3=>by
  obtain ⟨a,b⟩:=h1 n (by simp)
  refine addAll_good u0 u1 ns (addQ w.next l n u) (fun n hn=>h1 n (by simp [hn])) (addQ_good h2 a u0 u1) fun q hq=>?_
  rcases mem_addQ hq with h|h
  ·exact h3 q h
  ·rw [h];exact b
theorem addAll_succ {base u:Int} {l:List Request} {ns:List Int} {k:Nat} (h:k < ns.length):addAll base u l (ns.take (k+1))=addQ base (addAll base u l (ns.take k)) ns[k] u:=by
 unfold addAll
 rw [List.take_add_one,List.getElem?_eq_getElem h,List.foldl_append];rfl
theorem awaitN_le (w:ReceiveWindow) (t:Int):awaitN w t≤8:=by unfold awaitN;omega
theorem news_good {r:Receiver} {p:Packet} {d:Int} (hg:GoodR r) (hp:goodPk p=true) (d0:1≤d) (d1:d≤8) (hk:r.clock+d≤10007):goodRW (newsW r p)=true∧areQ (needed r.requests (newsW r p)) (newsW r p).next=true∧GoodR (newsR r p d)∧(newsE r p).length≤24:=by
 obtain ⟨a1,a2⟩:=start_good hg hp
 obtain ⟨b1,⟨m,hm,em⟩,b3⟩:=taken_good hg hp
 have htr:isSer p.trail=true:=by unfold goodPk at hp;simp only [Bool.and_eq_true] at hp;exact hp.1.1.1.1.2
 obtain ⟨c1,⟨k,hk2,ek⟩,c3⟩:=skip_good b1 htr
 have hk0:=hg.k0
 have hq:areQ (needed r.requests (newsW r p)) (newsW r p).next=true:=by
  cases hs:r.started
  ·rw [(hg.z hs).2]
   exact (areQ_iff (l:=[])).2 ⟨isSer_iff.2 (next_ser c1),Nat.zero_le 8,fun r hr=>(by cases hr),List.Pairwise.nil⟩
  ·refine needed_good (m:=m+k) (by omega) hg.q c1 ?_
   show (newsW r p).next=_
   rw [show (newsW r p).next=aft (takenW r p).next k from ek,em,a2 hs,aft_add]
 have hn:newsW r p=skipW (takenW r p) p.trail:=rfl
 refine ⟨c1,hq,⟨hg.k0,hg.k1,c1,?_,?_,fun h=>by cases h⟩,by unfold newsE;rw [List.length_append];omega⟩
 ·show areQ (awaitQ (newsW r p) (needed r.requests (newsW r p)) p.lead (r.clock+d)) (newsW r p).next=true
  unfold awaitQ
  split
  ·exact (addAll_good (by omega) (by omega) _ _ (fun n hn=>⟨(missL_at (awaitN_le _ _) hn).1,(missL_at (awaitN_le _ _) hn).2.2⟩) hq needed_free).1
  ·exact hq
 ·show ∀q∈awaitQ (newsW r p) (needed r.requests (newsW r p)) p.lead (r.clock+d),hasB (newsW r p) q.number=false
  unfold awaitQ
  split
  ·exact (addAll_good (by omega) (by omega) _ _ (fun n hn=>⟨(missL_at (awaitN_le _ _) hn).1,(missL_at (awaitN_le _ _) hn).2.2⟩) hq needed_free).2
  ·exact needed_free
theorem hear_good {r:Receiver} {p:Packet} {d:Int} (hg:GoodR r) (hp:goodPk p=true) (d0:1≤d) (d1:d≤8):GoodR (hearR r p d)∧(hearE r p).length≤24:=by
 have hk1:=hg.k1
 have hk0:=hg.k0
 unfold hearR hearE
 split
 ·exact ⟨(news_good hg hp d0 d1 (by omega)).2.2.1,(news_good hg hp d0 d1 (by omega)).2.2.2⟩
 ·refine ⟨?_,by simp⟩
  split
  ·rename_i h
   simp only [Bool.and_eq_true,decide_eq_true_eq] at h
   refine ⟨hk0,hk1,hg.w,confQ_good hg.q (by omega) (by omega),fun q hq=>?_,fun hs=>?_⟩
   ·obtain ⟨r',hr,e⟩:=mem_confQ hq
    show hasB r.window q.number=false
    rw [←e];exact hg.f r' hr
   ·have:r.started=false:=hs
    rw [h.2] at this;cases this
  ·exact hg
theorem rep1_Request (y:Request) (w:World):Flat ERequest w [.int .i64 y.number,.int .i64 y.state,.int .i64 y.untl,.int .i64 y.tries] [y] []:=⟨_,[],[],[],by simp,by simp,⟨rfl,rfl⟩,rfl,rfl⟩
theorem InsReq_f (xs:List Request) (y:Request) (i:Nat) (a:Option Addr) (c vb:Nat) (F:List Nat) (hi:i≤xs.length) (hl:xs.length≤1000000) :
  Fn Tryz.prog 356 [.slice a xs.length c,.int .i64 i,.slice (some ⟨vb,0,none⟩) 1 1] [] [.ow ERequest 235 (.slice a xs.length c) xs F,.row vb 235 0 [] [.int .i64 y.number,.int .i64 y.state,.int .i64 y.untl,.int .i64 y.tries] []] (fun (_:Option Addr × Nat × List Nat)=>True)
   (fun z=>.slice z.1 (xs.take i++y::xs.drop i).length z.2.1) (fun z=>[.ow ERequest 235 (.slice z.1 (xs.take i++y::xs.drop i).length z.2.1) (xs.take i++y::xs.drop i) z.2.2]):=by
 have hone:∀w':World,∀cs:List Value,Flat ERequest w' cs xs []→∀u∈cs,u.oneCell'=true:=fun w' cs h=>h.one' one_ERequest
 have hy:=rep1_Request y
 have h1y:∀u∈([.int .i64 y.number,.int .i64 y.state,.int .i64 y.untl,.int .i64 y.tries]:List Value),u.oneCell'=true:=by intro u hu;simp at hu;rcases hu with rfl|rfl|rfl|rfl <;> rfl
 refine enter Tryz.func356 rfl Tryz.ntmps356 fun w0=>?_
 refine t_cap (E:=ERequest) fun hc1 hc2=>?_
 refine go ?_;intros
 apply wO
 refine o_slany rfl rfl rfl rfl hi (fun _=>?_) hc1
 refine go ?_;intros
 refine c_if rfl (fun h1=>?_) (fun h1=>?_)
 ·have hin:i=xs.length:=by omega
  subst hin
  have e:xs.take xs.length++y::xs.drop xs.length=xs++[y]:=by simp
  refine go ?_;intros
  apply wO
  refine ap1 hy one_ERequest fun a2 c2 F2=>?_
  rw [e]
  refine go ?_;intros
  refine ret (a2,c2,F2) trivial rfl
 ·have hlt:i < xs.length:=by omega
  refine t_rowof (xs:=xs) scal_ERequest (by rintro rfl;simp at hlt) ?_
  rintro g cs rest rfl - - - hcl hcr hfl
  rw [show ERequest.sz=4 from rfl] at hcl hcr
  have h1c:=hone w0 cs (hfl w0)
  obtain ⟨A,B,hcs,hA,hB⟩:∃A B,cs=A++B∧A=cs.take (i * 4)∧B=cs.drop (i * 4):=⟨_,_,(List.take_append_drop _ _).symm,rfl,rfl⟩
  have hAl:A.length=i * 4:=by rw [hA,List.length_take];omega
  have hBl:B.length=(xs.length - i) * 4:=by rw [hB,List.length_drop];omega
  have hins:∀w,Flat ERequest w (A++[.int .i64 y.number,.int .i64 y.state,.int .i64 y.untl,.int .i64 y.tries]++B) (xs.take i++y::xs.drop i) []:=fun w=>by rw [hA,hB];exact (hfl w).insL (hy w) i hi
  have h1A:∀u∈A,u.oneCell'=true:=fun u hu=>h1c u (by rw [hcs];simp [hu])
  have h1B:∀u∈B,u.oneCell'=true:=fun u hu=>h1c u (by rw [hcs];simp [hu])
  have hlen:(xs.take i++y::xs.drop i).length=xs.length+1:=by simp;omega
  clear hA hB hfl hone
  subst hcs
  have eA:A=((A++B++rest).drop 0).take (i * 4):=by rw [List.drop_zero,List.append_assoc,List.take_left' hAl]
  have eB:B=((A++B++rest).drop (0+i * 4)).take ((xs.length - i) * 4):=by rw [Nat.zero_add,List.append_assoc,List.drop_left' hAl,List.take_left' hBl]
  rw [hlen]
  refine go ?_;intros
  apply wO;apply oc;rfl;exact yd_cap rfl
  refine go ?_;intros
  refine c_if rfl (fun h2=>?_) (fun h2=>?_)
  ·refine go ?_;intros
   apply wO;apply oc;rfl;exact yd_slt (i:=i) rfl rfl rfl (by omega) (by omega)
   refine go ?_;intros
   apply wO
   refine o_apgz (k:=xs.length+1 - i) (olds:=A) rfl rfl rfl (by omega) (src_row (m:=i * 4) (.head _) eA) (by omega) (by decide) (by omega) (by omega) (by omega) (by omega) fun g' cp' Z rest' h3 h4 h5 h6=>?_
   rw [show i+(xs.length+1 - i)=xs.length+1 by omega] at h3 ⊢
   obtain ⟨Z1,Z2,rfl,hZ1,hZ2⟩:∃Z1 Z2,Z=Z1++Z2∧Z1.length=4∧Z2.length=B.length:=⟨Z.take 4,Z.drop 4,(List.take_append_drop _ _).symm,by rw [List.length_take];omega,by rw [List.length_drop];omega⟩
   refine go ?_;intros
   apply wO;apply oc;rfl;exact yd_slv (i:=i) rfl rfl rfl (by omega) (by omega) (by omega)
   refine go ?_;intros
   apply wO
   refine o_cpy (cs:=[.int .i64 y.number,.int .i64 y.state,.int .i64 y.untl,.int .i64 y.tries]) (L':=A++[.int .i64 y.number,.int .i64 y.state,.int .i64 y.untl,.int .i64 y.tries]++(Z2++rest')) rfl rfl rfl (src_row (L:=[.int .i64 y.number,.int .i64 y.state,.int .i64 y.untl,.int .i64 y.tries]) (o:=0) (m:=4) (by exact memE) rfl) .here (cpyM (M:=Z1) (by simp [List.append_assoc]) (by omega) (by simpa using hZ1)) (by show 4=min 1 (xs.length+1 - i) * 4;omega) (by simp only [List.length_append,List.length_cons,List.length_nil];omega) h1y ?_
   refine go ?_;intros
   refine d_start [] [] ?_
   refine dt4 0 1 2 3 ?_
   refine dt 4 ?_ (hy:=yd_slv (i:=i+1) rfl rfl (by omega) (by omega) (by omega) (by omega))
   refine dt2 5 6 ?_
   refine dt 7 ?_ (hy:=yd_slv (i:=i) rfl rfl (by omega) (by omega) (by omega) (by omega))
   refine dN 8 ?_
   refine o_cpy (cs:=B) (L':=A++[.int .i64 y.number,.int .i64 y.state,.int .i64 y.untl,.int .i64 y.tries]++B++rest') rfl rfl rfl (src_row (by exact memE) eB) .here (cpyM (P:=A++[.int .i64 y.number,.int .i64 y.state,.int .i64 y.untl,.int .i64 y.tries]) (M:=Z2) (by simp [List.append_assoc]) (by simp only [List.length_append,List.length_cons,List.length_nil];omega) hZ2) (by rw [hBl];congr 1;show _=min (xs.length - i) (xs.length+1 - (i+1));omega) (by simp only [List.length_append,List.length_cons,List.length_nil];omega) h1B ?_
   refine dk ?_
   refine dd ?_
   refine t_owof (cs:=A++[.int .i64 y.number,.int .i64 y.state,.int .i64 y.untl,.int .i64 y.tries]++B) (rest:=rest') (xs:=xs.take i++y::xs.drop i) cp' rfl hins (by omega) h4 (by rw [show ERequest.sz=4 from rfl];simp only [List.length_append,List.length_cons,List.length_nil] at h6 ⊢;omega) ?_
   rw [hlen]
   refine go ?_;intros
   refine ret (_,cp',[g']) trivial rfl
  ·have hcx:xs.length+1≤c:=by omega
   obtain ⟨X,Y,hXY,hX,hY⟩:=shiftL (B:=B) (R:=rest) 4 (by omega)
   refine go ?_;intros
   apply wO;apply oc;rfl;exact yd_slt (i:=xs.length+1) rfl rfl (by omega) (by omega) (by omega)
   refine go ?_;intros
   apply wO;apply oc;rfl;exact yd_slv (i:=i+1) rfl rfl (by omega) (by omega) (by omega) (by omega)
   refine goN ?_;intros
   apply wO
   refine o_ext rfl evsE (ovl (tS:=147) (tR:=4) (run_callFunc_extern Tryz.func362 (by kernel_rfl) (by kernel_rfl) (by kernel_rfl) (e:=Extern.SlicesOverlaps.overlaps #[147,147] #[4]) (by kernel_rfl)) (.there .here) (.head _) (by intro e;have:=congrArg List.length e;simp only [List.length_append,List.length_nil] at this;omega)) ?_
   refine go ?_;intros
   refine d_start [] [] ?_
   refine dt4 0 1 2 3 ?_
   refine dt 4 ?_ (hy:=yd_slv (i:=i+1) rfl rfl (by omega) (by omega) (by omega) (by omega))
   refine dt2 5 6 ?_
   refine dt 7 ?_ (hy:=yd_slv (i:=i) rfl rfl (by omega) (by omega) (by omega) (by omega))
   refine dN 8 ?_
   refine o_cpy (cs:=B) (L':=A++X++B++rest.drop 4) rfl rfl rfl (src_row (by exact memE) eB) .here (cpyM (P:=A++X) (M:=Y) (by rw [List.append_assoc A B rest,hXY];simp [List.append_assoc]) (by simp only [List.length_append];omega) hY) (by rw [hBl];congr 1;show _=min (xs.length+1 - i) (xs.length+1 - (i+1));omega) (by simp only [List.length_append];omega) h1B ?_
   refine dk ?_
   refine dd ?_
   refine go ?_;intros
   apply wO;apply oc;rfl;exact yd_slv (i:=i) rfl rfl rfl (by omega) (by omega) (by omega)
   refine go ?_;intros
   apply wO
   refine o_cpy (cs:=[.int .i64 y.number,.int .i64 y.state,.int .i64 y.untl,.int .i64 y.tries]) (L':=A++[.int .i64 y.number,.int .i64 y.state,.int .i64 y.untl,.int .i64 y.tries]++(B++rest.drop 4)) rfl rfl rfl (src_row (L:=[.int .i64 y.number,.int .i64 y.state,.int .i64 y.untl,.int .i64 y.tries]) (o:=0) (m:=4) (by exact memE) rfl) .here (cpyM (M:=X) (by simp [List.append_assoc]) (by omega) (by simpa using hX)) (by show 4=min 1 (xs.length+1 - i) * 4;omega) (by simp only [List.length_append,List.length_cons,List.length_nil];omega) h1y ?_
   refine go ?_;intros
   refine t_owof (L:=A++[.int .i64 y.number,.int .i64 y.state,.int .i64 y.untl,.int .i64 y.tries]++(B++rest.drop 4)) (cs:=A++[.int .i64 y.number,.int .i64 y.state,.int .i64 y.untl,.int .i64 y.tries]++B) (rest:=rest.drop 4) (xs:=xs.take i++y::xs.drop i) c (by simp [List.append_assoc]) hins (by omega) (by omega) (by rw [show ERequest.sz=4 from rfl];simp only [List.length_append,List.length_cons,List.length_nil,List.length_drop];omega) ?_
   rw [hlen]
   refine ret (_,c,[g]) trivial rfl
instance:IntC Tryz.prog 351 .u64:=⟨Tryz.underlying351⟩
theorem SrchReq_f (fid:FuncId) (caps:List Value) (A:List Pc) (hA:A.all (fun p=>!p.mu)=true) (xs:List Request) (a:Option Addr) (c:Nat) (F:List Nat) (tv:Value) (f:Request→Int) (hm:∀i j (_:i≤j) (hj:j < xs.length),f xs[j] < 0→f (xs[i]'(by omega)) < 0) (hb:bodyB Tryz.prog fid=true) (hl:xs.length≤1000000)
  (hp:∀x∈xs,∀w,Hol A w→Calls Tryz.prog fid ([.agg #[.int .i64 x.number,.int .i64 x.state,.int .i64 x.untl,.int .i64 x.tries],tv]++caps).toArray w fun e w'=>e=.returned (.int .i64 (f x))∧Below w.heap.size w w') :
  Fn Tryz.prog 343 [.slice a xs.length c,tv,.func (.func fid) #[] caps.toArray] (.sl ERequest (.slice a xs.length c) xs F::A) [] (fun (_:Unit)=>True) (fun _=>.tuple #[.int .i64 ((xs.takeWhile fun x=>decide (f x < 0)).length:Nat),.bool (hitB f xs[(xs.takeWhile fun x=>decide (f x < 0)).length]?)]) (fun _=>[]):=by
 refine enter Tryz.func343 rfl Tryz.ntmps343 (fun w0=>?_) rfl (by simpa [Pc.mu] using hA) .nil
 refine go ?_;intros
 refine c_loopR [0,1,2,6,7,8] (fun s:Nat × Nat=>[(9,.int .i64 (s.1:Nat)),(10,.int .i64 (s.2:Nat))]) (fun s=>s.1≤s.2∧s.2≤xs.length∧(∀j (_:j < s.1) (h:j < xs.length),f xs[j] < 0)∧(∀j (_:s.2≤j) (h:j < xs.length),¬f xs[j] < 0)) (fun s=>s.2 - s.1) (0,xs.length) ⟨Nat.zero_le _,Nat.le_refl _,fun j h=>by omega,fun j h1 h2=>by omega⟩ fun s hs=>?_
 obtain ⟨i,j⟩:=s
 obtain ⟨h1,h2,h3,h4⟩:=hs
 dsimp only at h1 h2 h3 h4 ⊢
 refine go ?_;intros
 refine c_if rfl (fun h5=>?_) (fun h5=>?_)
 ·have hh:(i+j) / 2 < xs.length:=by omega
  have e2:((i:Int)+(j:Int)) / 2=(((i+j) / 2:Nat):Int):=by omega
  refine go ?_;intros
  apply wO;apply oc;rfl;exact yd_cvu rfl (by omega) (by omega)
  refine go ?_;intros
  apply wO;apply oc;rfl;exact yd_shr1 rfl
  rw [e2]
  apply wO;apply oc;rfl;exact yd_cv rfl (by omega) (by omega)
  generalize hq:(i+j) / 2=q at hh
  refine go ?_;intros
  refine atRequest (xs:=xs) q ?_
  rintro hi b o e
  rw [e]
  refine go ?_;intros
  apply wO
  refine o_callv rfl rfl hb evsE ?_
  refine cb (fun w st=>hp xs[q] (List.getElem_mem hh) w (fun p hp=>st.on p (by simp [hp]))) ?_
  refine go ?_;intros
  refine c_if rfl (fun h6=>?_) (fun h6=>?_)
  ·refine go ?_;intros
   refine t_drop ?_
   refine n_lp (hH:=hsub_refl _) (q+1,j) ⟨by show q+1≤j;omega,h2,fun k hk h=>hm k q (by have:k < q+1:=hk;omega) hh h6,h4⟩ (by show j - (q+1) < j - i;omega)
  ·refine go ?_;intros
   refine t_drop ?_
   refine n_lp (hH:=hsub_refl _) (i,q) ⟨by show i≤q;omega,by show q≤xs.length;omega,h3,fun k hk h hn=>h6 (hm q k hk h hn)⟩ (by show q - i < j - i;omega)
 ·have hij:i=j:=by omega
  subst hij
  have hk:(xs.takeWhile fun x=>decide (f x < 0)).length=i:=tw_len h2 (fun j hj h=>decide_eq_true (h3 j hj h)) (fun h=>decide_eq_false (h4 i (Nat.le_refl _) h))
  rw [hk]
  refine go ?_;intros
  refine wg_if rfl rfl (fun h6=>?_) (fun h6=>?_)
  ·have hh:i < xs.length:=by omega
   rw [List.getElem?_eq_getElem hh]
   refine go ?_;intros
   refine atRequest (xs:=xs) i ?_
   rintro hi b o e
   rw [e]
   refine go ?_;intros
   apply wO
   refine o_callv rfl rfl hb evsE ?_
   refine cb (fun w st=>hp xs[i] (List.getElem_mem hh) w (fun p hp=>st.on p (by simp [hp]))) ?_
   refine go ?_;intros
   refine ret () trivial rfl
  ·rw [List.getElem?_eq_none (by omega)]
   refine go ?_;intros
   refine ret () trivial rfl
theorem srch_ask {base n:Int} {l:List Request} (hser:∀q∈l,isSer q.number=true) (hn:isSer n=true):(l.takeWhile fun x=>decide (gp base x.number - gp base n < 0)).length=askAt base l n ∧
  hitB (fun x:Request=>gp base x.number - gp base n) l[(l.takeWhile fun x=>decide (gp base x.number - gp base n < 0)).length]?=askOn base l n:=by
 have e:(fun x:Request=>decide (gp base x.number - gp base n < 0))=fun h=>decide (gp base h.number < gp base n):=by
  funext x;rw [decide_eq_decide];omega
 have e1:(l.takeWhile fun x=>decide (gp base x.number - gp base n < 0)).length=askAt base l n:=by unfold askAt;rw [e]
 refine ⟨e1,?_⟩
 rw [e1]
 unfold askOn
 cases hq:l[askAt base l n]? with
 | none=>rfl
 | some z =>
  show decide (gp base z.number - gp base n=0)=decide (z.number=n)
  rw [decide_eq_decide]
  exact ⟨fun h=>gpInj (t:=base) (hser z (List.mem_of_getElem? hq)) hn (by omega),fun h=>by rw [h];omega⟩
theorem fr1_f (r:Request) (n t:Int) (gb:Nat) (t0:0≤t) (t1:t≤65535) (n0:0≤n) (n1:n≤65535) (m0:0≤r.number) (m1:r.number≤65535) :
  Fn Tryz.prog 344 [.agg #[.int .i64 r.number,.int .i64 r.state,.int .i64 r.untl,.int .i64 r.tries],.int .i64 n,ptr gb 0 0] [.cel gb 0 [.int .i64 t]] [] (fun (_:Unit)=>True) (fun _=>.int .i64 (gp t r.number - gp t n)) (fun _=>[]):=by
 have b1:=gp_bd t r.number
 have b2:=gp_bd t n
 refine enter Tryz.func344 rfl Tryz.ntmps344 fun w0=>?_
 refine go ?_;intros
 refine d_start [0,1] [] ?_
 refine dt4 0 1 2 4 ?_
 refine dt 5 ?_
 refine dN 3 ?_
 refine oC ?_
 refine ce (fun w s=>gap_c _ _ _ (by omega) (by omega) (by omega) (by omega)) ?_
 refine dk ?_
 refine dN 6 ?_
 refine oC ?_
 refine ce (fun w s=>gap_c _ _ _ (by omega) (by omega) (by omega) (by omega)) ?_
 refine dk ?_
 refine dt2 7 8 ?_
 refine dd ?_
 refine go ?_;intros
 refine ret () trivial rfl
theorem findRequest_f (l:List Request) (base n:Int) (a:Option Addr) (c:Nat) (F:List Nat) (hq:areQ l base=true) (hn:isSer n=true) :
  Fn Tryz.prog 322 [.slice a l.length c,.int .i64 base,.int .i64 n] [.sl ERequest (.slice a l.length c) l F] [] (fun (_:Unit)=>True) (fun _=>.tuple #[.int .i64 (askAt base l n:Nat),.bool (askOn base l n)]) (fun _=>[]):=by
 obtain ⟨q1,q2,q3,q4⟩:=areQ_iff.1 hq
 have hser:∀q∈l,isSer q.number=true:=fun q h=>(okReq_iff.1 (q3 q h)).n
 obtain ⟨b0,b1⟩:=isSer_iff.1 q1
 obtain ⟨n0,n1⟩:=isSer_iff.1 hn
 obtain ⟨e1,e2⟩:=srch_ask (base:=base) hser hn
 refine enter Tryz.func322 rfl Tryz.ntmps322 fun w0=>?_
 refine go ?_;intros
 rename_i gb
 refine cb (fun w st=>by
  have r1:=st.get (p:=.row gb 3 0 [] [.int .i64 base] []) (by simp)
  have hw:=(st.get (p:=.sl ERequest (.slice a l.length c) l F) (by simp)).2
  refine (SrchReq_f 344 [ptr gb 0 0] [.cel gb 0 [.int .i64 base]] rfl l a c F (.int .i64 n) (fun r=>gp base r.number - gp base n) (fun i j hij hj h=>?_) (by kernel_rfl) (by omega) fun x hx w' hA=>?_).val w ?_
  ·rcases Nat.lt_or_eq_of_le hij with h2|rfl
   ·have:=List.pairwise_iff_getElem.1 q4 i j (by omega) hj h2;omega
   ·exact h
  ·obtain ⟨m0,m1⟩:=isSer_iff.1 (hser x hx)
   exact (fr1_f x n base gb b0 b1 n0 n1 m0 m1).val w' hA
  ·intro p hp
   simp only [List.mem_cons,List.not_mem_nil,or_false] at hp
   rcases hp with rfl|rfl
   ·exact st.get (by simp)
   ·exact ⟨by simp,row_range r1⟩) ?_
 rw [e2,e1]
 refine go ?_;intros
 refine ret () trivial rfl
theorem l12Place_f (l:List Request) (base n:Int) (a:Option Addr) (c:Nat) (F:List Nat) (hq:areQ l base=true) (hn:isSer n=true) :
  Fn Tryz.prog 283 [.slice a l.length c,.int .i64 base,.int .i64 n] [.sl ERequest (.slice a l.length c) l F] [] (fun (_:Unit)=>True) (fun _=>.tuple #[.int .i64 (askAt base l n:Nat),.bool (askOn base l n)]) (fun _=>[]):=by
 obtain ⟨q1,q2,q3,q4⟩:=areQ_iff.1 hq
 have hser:∀q∈l,isSer q.number=true:=fun q h=>(okReq_iff.1 (q3 q h)).n
 obtain ⟨b0,b1⟩:=isSer_iff.1 q1
 obtain ⟨n0,n1⟩:=isSer_iff.1 hn
 obtain ⟨t1,t2,t3⟩:=tw_spec (p:=fun r:Request=>decide (gp base r.number < gp base n)) (xs:=l)
 have hle:=askAt_le base l n
 have hb2:=gp_bd base n
 refine enter Tryz.func283 rfl Tryz.ntmps283 fun w0=>?_
 refine go ?_;intros
 refine c_loopS [0,1,2,6,7] (fun k:Nat=>[(8,.int .i64 (k:Nat))]) (fun _=>[]) (fun k=>k≤askAt base l n) (fun k=>l.length - k) 0 (Nat.zero_le _) fun k hk=>?_
 have leaf:∀h:k < l.length,decide (gp base l[k].number < gp base n)=decide (k < askAt base l n):=fun h=>by
  by_cases h2:k < askAt base l n
  ·rw [decide_eq_true h2];exact t2 k h2 h
  ·have e:k=askAt base l n:=by omega
   subst e
   rw [decide_eq_false h2];exact t3 h
 refine go ?_;intros
 refine wg_if rfl rfl (fun h4=>?_) (fun h4=>?_)
 ·have hi:k < l.length:=by omega
  refine go ?_;intros
  refine atRequest (xs:=l) k ?_
  rintro hi b o e
  rw [e]
  refine go ?_;intros
  obtain ⟨m0,m1⟩:=isSer_iff.1 (hser _ (List.getElem_mem hi))
  have hb1:=gp_bd base l[k].number
  refine ce (fun w s=>l2Gap_c _ _ _ (by omega) (by omega)) ?_
  refine go ?_;intros
  refine ce (fun w s=>l2Gap_c _ _ _ (by omega) (by omega)) ?_
  have lf:=leaf hi
  refine go ?_;intros
  refine c_if rfl (fun h5=>?_) (fun h5=>?_)
  ·have h6:k < askAt base l n:=by rw [decide_eq_true h5] at lf;simpa using lf.symm
   refine go ?_;intros
   refine n_lp (k+1) (by show k+1≤askAt base l n;omega) (by show l.length - (k+1) < l.length - k;omega)
  ·have h6:k=askAt base l n:=by rw [decide_eq_false h5] at lf;have:¬k < askAt base l n:=by simpa using lf.symm
                                omega
   refine go ?_;intros
   refine d_start [0] [] ?_
   refine dt4 0 1 2 3 ?_
   refine dt 4 ?_
   rw [decide_eq_true h4]
   refine dt 5 ?_
   refine dtg 6 ?_
   refine dtg 7 ?_
   refine dtg 8 ?_
   refine dtg 9 ?_
   refine dtg 10 ?_
   refine dtg 11 ?_
   refine dtg 12 ?_
   refine dt2 13 14 ?_
   refine dt 15 ?_
   refine dd ?_
   rw [askOn_at (by omega)]
   subst h6
   refine go ?_;intros
   refine ret () trivial rfl
 ·have h6:k=askAt base l n:=by omega
  refine go ?_;intros
  refine d_start [0] [] ?_
  refine dt4 0 1 2 3 ?_
  refine dt 4 ?_
  rw [decide_eq_false h4]
  refine dt 5 ?_
  refine ds 6 ?_
  refine ds 7 ?_
  refine ds 8 ?_
  refine ds 9 ?_
  refine ds 10 ?_
  refine ds 11 ?_
  refine ds 12 ?_
  refine dt2 13 14 ?_
  refine dt 15 ?_
  refine dd ?_
  rw [askOn_end (by omega)]
  subst h6
  refine go ?_;intros
  refine ret () trivial rfl
def addL (base:Int) (l:List Request) (n u:Int):List Request:=if askOn base l n then [] else insQ base l n u
structure OwR where
 a:Option Addr
 c:Nat
 F:List Nat
theorem AddRequest_f (l:List Request) (base n ck d:Int) (a:Option Addr) (c:Nat) (F:List Nat) (hq:areQ l base=true) (hn:isSer n=true) (h8:gp base n < 8) (k0:0≤ck) (k1:ck≤9999) (d0:1≤d) (d1:d≤8) :
  Fn Tryz.prog 342 [.slice a l.length c,.int .i64 base,.int .i64 n,.int .i64 ck,.int .i64 d] [.sl ERequest (.slice a l.length c) l F] [] (fun (_:OwR)=>True) (fun s=>.tuple #[.slice s.a (addL base l n (ck+d)).length s.c,.bool (!askOn base l n)]) (fun s=>[.ow ERequest 235 (.slice s.a (addL base l n (ck+d)).length s.c) (addL base l n (ck+d)) s.F]):=by
 have hle:=askAt_le base l n
 obtain ⟨q1,q2,q3,q4⟩:=areQ_iff.1 hq
 have hck:isClk ck=true:=by unfold isClk btw;simp;omega
 have hdl:isDel d=true:=by unfold isDel btw;simp;omega
 refine enter Tryz.func342 rfl Tryz.ntmps342 fun w0=>?_
 refine go ?_;intros
 refine cf (AreRequests_f l base _ F) fun _ _=>?_
 refine t_app ?_
 rw [hq]
 refine go ?_;intros
 refine ce (fun w s=>IsSerial_c _ _) ?_
 rw [hn]
 refine go ?_;intros
 refine ce (fun w s=>isClock_c _ _) ?_
 rw [hck]
 refine go ?_;intros
 refine cf (isDelay_f d) fun _ _=>?_
 refine t_app ?_
 rw [hdl]
 refine go ?_;intros
 refine cf (findRequest_f l base n a c F hq hn) fun _ _=>?_
 refine t_app ?_
 cases ho:askOn base l n
 ·rw [show addL base l n (ck+d)=insQ base l n (ck+d) by unfold addL;rw [ho];rfl]
  have hln:=insQ_len base l n (ck+d)
  refine go ?_;intros
  refine cf (ClRequest_f l a c F (by omega)) fun z _=>?_
  refine t_app ?_
  refine go ?_;intros
  refine cf (InsReq_f l ⟨n,1,ck+d,0⟩ (askAt base l n) z.1 z.2.1 _ z.2.2 hle (by omega)) fun y _=>?_
  refine t_app ?_
  rw [show l.take (askAt base l n)++(⟨n,1,ck+d,0⟩:Request)::l.drop (askAt base l n)=insQ base l n (ck+d) from rfl]
  refine go ?_;intros
  refine cb (fun w st=>by obtain ⟨Fw, -,hw⟩:=(st.get (p:=.ow ERequest 235 (.slice y.1 (insQ base l n (ck+d)).length y.2.1) (insQ base l n (ck+d)) y.2.2) (by simp)).2.read;exact (AreRequests_f (insQ base l n (ck+d)) base _ Fw).val w (hol1 ⟨by decide,hw⟩)) ?_
  rw [insQ_good hq hn h8 (by omega) (by omega) ho]
  refine go ?_;intros
  refine ret ⟨_,_,_⟩ trivial rfl
 ·rw [show addL base l n (ck+d)=[] by unfold addL;rw [ho];rfl]
  refine go ?_;intros
  refine t_nilow ERequest 235 ?_
  refine ret ⟨none,0,[]⟩ trivial rfl
theorem l12Add_f (l:List Request) (base n ck d:Int) (a:Option Addr) (c:Nat) (F:List Nat) (hq:areQ l base=true) (hn:isSer n=true) (k0:0≤ck) (k1:ck≤9999) (d0:1≤d) (d1:d≤8) :
  Fn Tryz.prog 288 [.slice a l.length c,.int .i64 base,.int .i64 n,.int .i64 ck,.int .i64 d] [.sl ERequest (.slice a l.length c) l F] [] (fun (_:OwR)=>True) (fun s=>.slice s.a (addQ base l n (ck+d)).length s.c) (fun s=>[.ow ERequest 235 (.slice s.a (addQ base l n (ck+d)).length s.c) (addQ base l n (ck+d)) s.F]):=by
 have hle:=askAt_le base l n
 obtain ⟨q1,q2,q3,q4⟩:=areQ_iff.1 hq
 obtain ⟨b0,b1⟩:=isSer_iff.1 q1
 obtain ⟨n0,n1⟩:=isSer_iff.1 hn
 have hbd:=gp_bd base n
 refine enter Tryz.func288 rfl Tryz.ntmps288 fun w0=>?_
 refine go ?_;intros
 refine cf (l12Place_f l base n a c F hq hn) fun _ _=>?_
 refine t_app ?_
 cases ho:askOn base l n
 rotate_left
 ·rw [show addQ base l n (ck+d)=l by unfold addQ;rw [ho];rfl]
  refine goN ?_;intros
  refine t_emp ERequest ?_
  refine go ?_;intros
  apply wO
  refine aps one_ERequest scal_ERequest fun a5 c5 F5=>?_
  rw [List.nil_append]
  refine go ?_;intros
  refine ret ⟨_,_,_⟩ trivial rfl
 refine go ?_;intros
 refine ce (fun w s=>l2Gap_c _ _ _ (by omega) (by omega)) ?_
 refine go ?_;intros
 refine c_if rfl (fun h4=>?_) (fun h4=>?_)
 ·rw [show addQ base l n (ck+d)=l by unfold addQ;rw [ho,decide_eq_false (show ¬gp base n < 8 by omega)];rfl]
  refine goN ?_;intros
  refine t_emp ERequest ?_
  refine go ?_;intros
  apply wO
  refine aps one_ERequest scal_ERequest fun a5 c5 F5=>?_
  rw [List.nil_append]
  refine go ?_;intros
  refine ret ⟨_,_,_⟩ trivial rfl
 rw [show addQ base l n (ck+d)=insQ base l n (ck+d) by unfold addQ;rw [ho,decide_eq_true (show gp base n < 8 by omega)];rfl]
 refine t_sl (E:=ERequest) (xs:=l) ?_
 rintro _ _ e8 c0 c1
 cases e8
 refine t_rtake (E:=ERequest) (xs:=l) (askAt base l n) (fun FT=>?_) hle
 obtain ⟨T1,hT1⟩:∃T1,T1=l.take (askAt base l n):=⟨_,rfl⟩
 have hT1l:T1.length=askAt base l n:=by rw [hT1,List.length_take];omega
 rw [←hT1]
 have hAdd:T1++[(⟨n,1,ck+d,0⟩:Request)]++l.drop (askAt base l n)=insQ base l n (ck+d):=by rw [hT1];unfold insQ newQ;simp
 refine go ?_;intros
 refine d_start [0,1] [] ?_
 refine dt2 1 2 ?_
 refine dt 3 ?_ (hy:=yd_slt (i:=T1.length) rfl rfl (by rw [hT1l]) (by omega) (by omega))
 refine dt2 5 8 ?_
 refine dt 9 ?_
 refine dsld 10 (askAt base l n) (fun a6 c6 F6=>?_)
 refine dM 0 6 ?_ ?_
 ·apply o_bs0;rfl;intro _
  refine t_emp ERequest ?_
  refine dk ?_
  refine dM 4 6 ?_ ?_
  ·refine aps (ys:=T1) one_ERequest scal_ERequest fun a7 c7 F7=>?_
   rw [List.nil_append]
   refine dk ?_
   refine dN 6 ?_
   apply o_bs;rfl;rfl;rfl;rfl;exact rptE;exact filE;intro _
   refine dk ?_
   refine dN 7 ?_
   refine ap1 (rep1_Request ⟨n,1,ck+d,0⟩) one_ERequest fun a8 c8 F8=>?_
   refine dk ?_
   refine dN 11 ?_
   refine aps (ys:=l.drop (askAt base l n)) one_ERequest scal_ERequest (h63:=by simp;omega) (hby:=by simp;omega) fun a9 c9 F9=>?_
   refine dk ?_
   refine dt 12 ?_
   refine dd ?_
   rw [hAdd]
   refine go ?_;intros
   refine ret ⟨_,_,_⟩ trivial rfl
  ·apply o_bs;rfl;rfl;rfl;rfl;exact rptE;exact filE;intro _
   refine dk ?_
   refine dN 4 ?_
   refine aps (ys:=T1) one_ERequest scal_ERequest fun a7 c7 F7=>?_
   rw [List.nil_append]
   refine dk ?_
   refine dN 7 ?_
   refine ap1 (rep1_Request ⟨n,1,ck+d,0⟩) one_ERequest fun a8 c8 F8=>?_
   refine dk ?_
   refine dN 11 ?_
   refine aps (ys:=l.drop (askAt base l n)) one_ERequest scal_ERequest (h63:=by simp;omega) (hby:=by simp;omega) fun a9 c9 F9=>?_
   refine dk ?_
   refine dt 12 ?_
   refine dd ?_
   rw [hAdd]
   refine go ?_;intros
   refine ret ⟨_,_,_⟩ trivial rfl
 ·apply o_bs;rfl;rfl;rfl;rfl;exact rptE;exact filE;intro _
  refine dk ?_
  refine dN 0 ?_
  apply o_bs0;rfl;intro _
  refine t_emp ERequest ?_
  refine dk ?_
  refine dN 4 ?_
  refine aps (ys:=T1) one_ERequest scal_ERequest fun a7 c7 F7=>?_
  rw [List.nil_append]
  refine dk ?_
  refine dN 7 ?_
  refine ap1 (rep1_Request ⟨n,1,ck+d,0⟩) one_ERequest fun a8 c8 F8=>?_
  refine dk ?_
  refine dN 11 ?_
  refine aps (ys:=l.drop (askAt base l n)) one_ERequest scal_ERequest (h63:=by simp;omega) (hby:=by simp;omega) fun a9 c9 F9=>?_
  refine dk ?_
  refine dt 12 ?_
  refine dd ?_
  rw [hAdd]
  refine go ?_;intros
  refine ret ⟨_,_,_⟩ trivial rfl
theorem ConfirmRequest_f (l:List Request) (base n ck:Int) (a:Option Addr) (c:Nat) (F:List Nat) (hq:areQ l base=true) (hn:isSer n=true) (k0:0≤ck) (k1:ck≤9999) :
  Fn Tryz.prog 301 [.slice a l.length c,.int .i64 base,.int .i64 n,.int .i64 ck] [.sl ERequest (.slice a l.length c) l F] [] (fun (_:OwR)=>True) (fun s=>.tuple #[.slice s.a (confQ base l n (ck+4)).length s.c,.bool true]) (fun s=>[.ow ERequest 235 (.slice s.a (confQ base l n (ck+4)).length s.c) (confQ base l n (ck+4)) s.F]):=by
 have hle:=askAt_le base l n
 obtain ⟨q1,q2,q3,q4⟩:=areQ_iff.1 hq
 have hck:isClk ck=true:=by unfold isClk btw;simp;omega
 refine enter Tryz.func301 rfl Tryz.ntmps301 fun w0=>?_
 refine go ?_;intros
 refine cf (AreRequests_f l base _ F) fun _ _=>?_
 refine t_app ?_
 rw [hq]
 refine go ?_;intros
 refine ce (fun w s=>IsSerial_c _ _) ?_
 rw [hn]
 refine go ?_;intros
 refine ce (fun w s=>isClock_c _ _) ?_
 rw [hck]
 refine go ?_;intros
 refine cf (ClRequest_f l a c F (by omega)) fun z _=>?_
 refine t_app ?_
 refine go ?_;intros
 refine cb (fun w st=>by obtain ⟨Fw, -,hw⟩:=(st.get (p:=.ow ERequest 235 (.slice z.1 (l).length z.2.1) (l) z.2.2) (by simp)).2.read;exact (findRequest_f l base n z.1 z.2.1 Fw hq hn).val w (hol1 ⟨by decide,hw⟩)) ?_
 have hcl:=confQ_len base l n (ck+4)
 cases ho:askOn base l n
 ·rw [confQ_no ho]
  refine go ?_;intros
  refine ret ⟨_,_,_⟩ trivial rfl
 ·have hlt:=askOn_lt ho
  refine go ?_;intros
  refine focRequest (xs:=l) (askAt base l n) ?_ (hi:=hlt)
  rintro hi g A B ha hF hh
  rw [ha]
  refine go ?_;intros
  refine unfF (⟨n,3,ck+4,l[askAt base l n].tries⟩:Request) hh (fun w=>?_) ?_
  ·rw [askOn_at hi] at ho
   have e:l[askAt base l n].number=n:=by simpa using ho
   rw [e];exact ⟨rfl,rfl⟩
  rw [←confQ_yes ho]
  refine go ?_;intros
  rw [show l.length=(confQ base l n (ck+4)).length from hcl.symm]
  refine ret ⟨_,_,_⟩ trivial rfl
theorem l12Confirm_f (l:List Request) (base n ck:Int) (a:Option Addr) (c:Nat) (F:List Nat) (hq:areQ l base=true) (hn:isSer n=true) (k0:0≤ck) (k1:ck≤9999) :
  Fn Tryz.prog 228 [.slice a l.length c,.int .i64 base,.int .i64 n,.int .i64 ck] [.sl ERequest (.slice a l.length c) l F] [] (fun (_:OwR)=>True) (fun s=>.slice s.a (confQ base l n (ck+4)).length s.c) (fun s=>[.ow ERequest 235 (.slice s.a (confQ base l n (ck+4)).length s.c) (confQ base l n (ck+4)) s.F]):=by
 have hle:=askAt_le base l n
 obtain ⟨q1,q2,q3,q4⟩:=areQ_iff.1 hq
 have hcl:=confQ_len base l n (ck+4)
 refine enter Tryz.func228 rfl Tryz.ntmps228 fun w0=>?_
 refine goN ?_;intros
 refine t_emp ERequest ?_
 refine go ?_;intros
 apply wO
 refine aps one_ERequest scal_ERequest fun a5 c5 F5=>?_
 rw [List.nil_append]
 refine go ?_;intros
 refine cf (l12Place_f l base n a c F hq hn) fun _ _=>?_
 refine t_app ?_
 cases ho:askOn base l n
 ·rw [confQ_no ho]
  refine go ?_;intros
  refine ret ⟨_,_,_⟩ trivial rfl
 ·have hlt:=askOn_lt ho
  refine go ?_;intros
  refine atRequest (xs:=l) (askAt base l n) ?_
  rintro hi b o e
  rw [e]
  refine focRequest (xs:=l) (a:=a5) (askAt base l n) ?_ (hi:=hlt)
  rintro hi g A B ha hF hh
  rw [ha]
  refine go ?_;intros
  refine unfF (⟨n,3,ck+4,l[askAt base l n].tries⟩:Request) hh (fun w=>⟨rfl,rfl⟩) ?_
  rw [←confQ_yes ho]
  refine go ?_;intros
  rw [show l.length=(confQ base l n (ck+4)).length from hcl.symm]
  refine ret ⟨_,_,_⟩ trivial rfl
structure SkS where
 a:Option Addr
 c:Nat
 F:List Nat
 ae:Option Addr
 ce:Nat
 Fe:List Nat
theorem Rskip_f (w:ReceiveWindow) (st:Bool) (ck tr:Int) (q:Value) (g t o:Nat) (A B:List Value) (a1:Option Addr) (c1:Nat) (F1:List Nat) (hg:goodRW w=true) (ht:isSer tr=true) :
  Fn Tryz.prog 319 [ptr g o 0,.int .i64 tr] [] [.row g t o A [.bool st,.int .i64 ck,.int .i64 (w).next,.slice a1 (w).slots.length c1,q] B,.ow ESlot 247 (.slice a1 (w).slots.length c1) (w).slots F1] (fun (_:SkS)=>True)
   (fun s=>.slice s.ae (skipE w tr).length s.ce) (fun s=>[.row g t o A [.bool st,.int .i64 ck,.int .i64 (skipW w tr).next,.slice s.a (skipW w tr).slots.length s.c,q] B,.ow ESlot 247 (.slice s.a (skipW w tr).slots.length s.c) (skipW w tr).slots s.F,.ow EStr 9 (.slice s.ae (skipE w tr).length s.ce) (skipE w tr) s.Fe]):=by
 obtain ⟨w0_,w1_⟩:=next_ser hg
 obtain ⟨t0_,t1_⟩:=isSer_iff.1 ht
 obtain ⟨hw8,hit⟩:=good_items hg
 have hgb:=gp_bd w.next tr
 refine enter Tryz.func319 rfl Tryz.ntmps319 fun w0=>?_
 refine go ?_;intros
 refine ce (fun w s=>isBefore_c _ _ _ (by omega) (by omega) (by omega) (by omega)) ?_
 cases hb:bef w.next tr
 ·have e1:skipW w tr=w:=by unfold skipW;rw [hb];rfl
  have e2:skipE w tr=[]:=by unfold skipE;rw [hb];rfl
  rw [e1,e2]
  refine t_nilow EStr 9 ?_
  refine go ?_;intros
  refine ret ⟨_,_,_,_,_,_⟩ trivial rfl
 refine go ?_;intros
 refine ce (fun w s=>gap_c _ _ _ (by omega) (by omega) (by omega) (by omega)) ?_
 refine go ?_;intros
 refine c_if rfl (fun h4=>?_) (fun h4=>?_)
 ·have e1:skipW w tr=movedW w tr:=by unfold skipW;rw [hb,if_pos rfl,if_pos h4]
  have e2:skipE w tr=movedE w tr:=by unfold skipE;rw [hb,if_pos rfl,if_pos h4]
  rw [e1,e2]
  refine t_rin [.bool st,.int .i64 ck] [.int .i64 w.next,.slice a1 w.slots.length c1] [q] ?_
  refine go ?_;intros
  refine cf (RWgive_f w tr g t (o+2) (A++[.bool st,.int .i64 ck]) _ a1 c1 F1 w0_ w1_ t0_ t1_ hw8 hit) fun y hy=>?_
  refine t_app ?_
  obtain ⟨hy1,hy2⟩:=hy
  refine t_rout [.bool st,.int .i64 ck] [.int .i64 y.y.next,.slice y.a y.y.slots.length y.c] [q] ?_
  rw [show movedW w tr=y.y from hy1.symm,show movedE w tr=y.es from hy2.symm]
  refine go ?_;intros
  refine ret ⟨_,_,_,_,_,_⟩ trivial rfl
 ·have e1:skipW w tr=⟨tr,[]⟩:=by unfold skipW;rw [hb,if_pos rfl,if_neg h4]
  have e2:skipE w tr=[⟨#[33]⟩]:=by unfold skipE;rw [hb,if_pos rfl,if_neg h4]
  rw [e1,e2]
  refine t_nilow ESlot 247 ?_
  refine goN ?_;intros
  refine t_row (xs:=[(⟨#[33]⟩:ByteArray)]) (rep_str _ (by decide)) ?_ (by simp)
  refine go ?_;intros
  refine ret ⟨none,0,[],_,_,_⟩ trivial rfl
structure AwS where
 i:Nat
 a:Option Addr
 c:Nat
 F:List Nat
theorem Rawait_f (x:ReceiveWindow) (l:List Request) (st:Bool) (ck lead d:Int) (g t o:Nat) (A B:List Value) (a1:Option Addr) (c1:Nat) (F1:List Nat) (a2:Option Addr) (c2:Nat) (F2:List Nat) (hg:goodRW x=true) (hq:areQ l x.next=true) (hf:∀q∈l,hasB x q.number=false) (hl:isSer lead=true) (k0:0≤ck) (k1:ck≤9999) (d0:1≤d) (d1:d≤8) :
  Fn Tryz.prog 321 [ptr g o 0,.int .i64 lead,.int .i64 d] [] [.row g t o A [.bool st,.int .i64 ck,.int .i64 (x).next,.slice a1 (x).slots.length c1,.slice a2 (l).length c2] B,.ow ESlot 247 (.slice a1 (x).slots.length c1) (x).slots F1,.ow ERequest 235 (.slice a2 (l).length c2) (l) F2] (fun (_:OwR)=>True)
   (fun _=>.tuple #[]) (fun s=>[.row g t o A [.bool st,.int .i64 ck,.int .i64 (x).next,.slice a1 (x).slots.length c1,.slice s.a (awaitQ x l lead (ck+d)).length s.c] B,.ow ESlot 247 (.slice a1 (x).slots.length c1) (x).slots F1,.ow ERequest 235 (.slice s.a (awaitQ x l lead (ck+d)).length s.c) (awaitQ x l lead (ck+d)) s.F]):=by
 obtain ⟨w0_,w1_⟩:=next_ser hg
 obtain ⟨l0_,l1_⟩:=isSer_iff.1 hl
 have hgb:=gp_bd x.next lead
 refine enter Tryz.func321 rfl Tryz.ntmps321 fun w0=>?_
 refine go ?_;intros
 refine ce (fun w s=>isBefore_c _ _ _ (by omega) (by omega) (by omega) (by omega)) ?_
 cases hb:bef x.next lead
 ·have e1:awaitQ x l lead (ck+d)=l:=by unfold awaitQ;rw [hb];rfl
  rw [e1]
  refine go ?_;intros
  refine ret ⟨_,_,_⟩ trivial rfl
 obtain ⟨k,hk⟩:∃k,k=awaitN x lead:=⟨_,rfl⟩
 have hk8:k≤8:=by rw [hk];exact awaitN_le _ _
 have hkm:((k:Nat):Int)=min (gp x.next lead) 8:=by rw [hk];unfold awaitN;omega
 obtain ⟨N,hN⟩:∃N,N=missL x k:=⟨_,rfl⟩
 have hNl:N.length≤8:=by have:=missL_len x k;rw [hN];omega
 have e1:awaitQ x l lead (ck+d)=addAll x.next (ck+d) l N:=by unfold awaitQ;rw [hb,if_pos rfl,hN,hk]
 rw [e1]
 have hav:=aft_bd x.next (min (gp x.next lead) 8)
 have hgp:gp x.next (aft x.next (min (gp x.next lead) 8))=(k:Nat):=by rw [←hkm];unfold gp aft;omega
 refine go ?_;intros
 refine d_start [0] [] ?_
 refine dt4 0 1 2 3 ?_
 refine dt4 4 5 6 12 ?_
 refine dN 7 ?_
 refine oC ?_
 refine ce (fun w s=>gap_c _ _ _ (by omega) (by omega) (by omega) (by omega)) ?_
 refine dk ?_
 refine dt 8 ?_
 refine dN 9 ?_
 refine oC ?_
 refine ce (fun w s=>after_c _ _ _ (by omega) (by omega)) ?_
 refine dk ?_
 refine dN 10 ?_
 refine oC ?_
 refine cfr (fun w st=>by obtain ⟨F9,hF9⟩:=rdRW (st.get (p:=.ow ESlot 247 (.slice a1 (x).slots.length c1) (x).slots F1) (by simp));exact ⟨_,hol1 hF9,rfl,RWmissing_f x _ k _ F9 w0_ w1_ (by omega) (by omega) hgp⟩) (fun m _=>?_)
 refine dk ?_
 refine dt 11 ?_
 refine dd ?_
 rw [←hN]
 refine t_read (E:=EInt) (xs:=N) fun GN=>?_
 refine go ?_;intros
 refine c_loopS [0,2,6,30,31] (fun s:AwS=>[(32,.int .i64 (s.i:Nat))]) (fun s=>[.row g t o A [.bool st,.int .i64 ck,.int .i64 (x).next,.slice a1 (x).slots.length c1,.slice s.a (addAll x.next (ck+d) l (N.take s.i)).length s.c] B,.ow ERequest 235 (.slice s.a (addAll x.next (ck+d) l (N.take s.i)).length s.c) (addAll x.next (ck+d) l (N.take s.i)) s.F]) (fun s=>s.i≤N.length) (fun s=>N.length - s.i) ⟨0,a2,c2,F2⟩ (Nat.zero_le _) fun s hs=>?_
 obtain ⟨i,a3,c3,F3⟩:=s
 dsimp only at hs ⊢
 have hall:=addAll_good (w:=x) (u:=ck+d) (by omega) (by omega) (N.take i) l (fun n hn=>by
  have:=missL_at (w:=x) (n:=n) hk8 (by rw [←hN];exact List.mem_of_mem_take hn)
  exact ⟨this.1,this.2.2⟩) hq hf
 have hLs:∀h:i < N.length,addAll x.next (ck+d) l (N.take (i+1))=addQ x.next (addAll x.next (ck+d) l (N.take i)) N[i] (ck+d):=fun h=>addAll_succ h
 generalize hLd:addAll x.next (ck+d) l (N.take i)=L at *
 have hLq:=hall.1
 have hL8:=(areQ_iff.1 hLq).2.1
 refine go ?_;intros
 refine c_if rfl (fun h4=>?_) (fun h4=>?_)
 ·have hi:i < N.length:=by omega
  have hni:=missL_at (w:=x) (n:=N[i]) hk8 (by rw [←hN];exact List.getElem_mem hi)
  refine at_int (xs:=N) i ?_
  rintro hi2 b o2 e
  rw [e]
  refine go ?_;intros
  refine d_start [1] [] ?_
  refine dt4 0 1 2 3 ?_
  refine dt4 4 5 6 7 ?_
  refine dt2 8 9 ?_
  refine dt 10 ?_
  refine dN 11 ?_
  refine oC ?_
  refine cfr (fun w st=>by obtain ⟨Fq, -,hq9⟩:=(st.get (p:=.ow ERequest 235 (.slice a3 (L).length c3) (L) F3) (by simp)).2.read;exact ⟨[.sl ERequest (.slice a3 L.length c3) L Fq],hol1 ⟨by decide,hq9⟩,rfl,AddRequest_f L x.next N[i] ck d a3 c3 Fq hLq hni.1 hni.2.1 k0 k1 d0 d1⟩) (fun u _=>?_)
  refine dk ?_
  refine dt4 12 13 14 15 ?_
  refine dt 16 ?_
  refine dd ?_
  refine go ?_;intros
  cases ho:askOn x.next L N[i]
  ·have eA:addAll x.next (ck+d) l (N.take (i+1))=addL x.next L N[i] (ck+d):=by rw [hLs hi];unfold addQ addL;rw [ho,decide_eq_true hni.2.1];rfl
   refine go ?_;intros
   rw [←eA]
   refine n_lp (⟨i+1,_,_,_⟩:AwS) (by show i+1≤N.length;omega) (by show N.length - (i+1) < N.length - i;omega)
  ·have eA:addAll x.next (ck+d) l (N.take (i+1))=L:=by rw [hLs hi];unfold addQ;rw [ho];rfl
   refine go ?_;intros
   rw [←eA]
   refine n_lp (⟨i+1,_,_,_⟩:AwS) (by show i+1≤N.length;omega) (by show N.length - (i+1) < N.length - i;omega)
 have hi:i=N.length:=by omega
 subst hi
 rw [List.take_length] at hLd
 rw [hLd]
 refine go ?_;intros
 refine t_fall ?_
 refine ret (⟨_,_,_⟩:OwR) trivial rfl
theorem IsValidPacket_f (p:Packet) (hs:p.data.size≤maxLen):Fn Tryz.prog 240 [.agg #[.int .i64 p.kind,.int .i64 p.number,.int .i64 p.trail,.int .i64 p.lead,.string p.data]] [] [] (fun (_:Unit)=>True) (fun _=>.bool (goodPk p)) (fun _=>[]):=by
 refine enter Tryz.func240 rfl Tryz.ntmps240 fun w0=>?_
 refine go ?_;intros
 refine ce (fun w s=>within_c _ _ _ _) ?_
 cases g1:btw 1 p.kind 5
 ·refine go ?_;intros
  refine ret () trivial ?_
  show Value.bool _=Value.bool _;congr 1;unfold goodPk;simp [g1]
 refine go ?_;intros
 refine ce (fun w s=>IsSerial_c _ _) ?_
 cases g2:isSer p.number
 ·refine go ?_;intros
  refine ret () trivial ?_
  show Value.bool _=Value.bool _;congr 1;unfold goodPk;simp [g2]
 refine go ?_;intros
 refine ce (fun w s=>IsSerial_c _ _) ?_
 cases g3:isSer p.trail
 ·refine go ?_;intros
  refine ret () trivial ?_
  show Value.bool _=Value.bool _;congr 1;unfold goodPk;simp [g3]
 refine go ?_;intros
 refine ce (fun w s=>IsSerial_c _ _) ?_
 cases g4:isSer p.lead
 ·refine go ?_;intros
  refine ret () trivial ?_
  show Value.bool _=Value.bool _;congr 1;unfold goodPk;simp [g4]
 refine go ?_;intros
 refine cb (fun w s=>isItem_c _ _ hs) ?_
 cases g5:itm p.data
 ·refine go ?_;intros
  refine ret () trivial ?_
  show Value.bool _=Value.bool _;congr 1;unfold goodPk;simp [g5]
 obtain ⟨t0,t1⟩:=isSer_iff.1 g3
 obtain ⟨l0,l1⟩:=isSer_iff.1 g4
 refine go ?_;intros
 refine ce (fun w s=>gap_c _ _ _ (by omega) (by omega) (by omega) (by omega)) ?_
 refine go ?_;intros
 refine wg_if rfl rfl (fun h6=>?_) (fun h6=>?_)
 ·refine go ?_;intros
  refine wg_if rfl rfl (fun h7=>?_) (fun h7=>?_)
  ·refine go ?_;intros
   refine ret () trivial ?_
   show Value.bool _=Value.bool _;congr 1;unfold goodPk;rw [g1,g2,g3,g4,g5,decide_eq_true h6,decide_eq_true h7];rfl
  refine go ?_;intros
  refine wg_if rfl rfl (fun h8=>?_) (fun h8=>?_)
  ·refine go ?_;intros
   refine ret () trivial ?_
   show Value.bool _=Value.bool _;congr 1;unfold goodPk;rw [g1,g2,g3,g4,g5,decide_eq_true h6,decide_eq_true h8];simp
  ·refine go ?_;intros
   refine ret () trivial ?_
   show Value.bool _=Value.bool _;congr 1;unfold goodPk;rw [g1,g2,g3,g4,g5,decide_eq_true h6,decide_eq_false h7,decide_eq_false h8];rfl
 ·refine go ?_;intros
  refine ret () trivial ?_
  show Value.bool _=Value.bool _;congr 1;unfold goodPk;simp [h6]
theorem l4Good_f (p:Packet) (hs:p.data.size≤maxLen):Fn Tryz.prog 221 [.agg #[.int .i64 p.kind,.int .i64 p.number,.int .i64 p.trail,.int .i64 p.lead,.string p.data]] [] [] (fun (_:Unit)=>True) (fun _=>.bool (goodPk p)) (fun _=>[]):=by
 refine enter Tryz.func221 rfl Tryz.ntmps221 fun w0=>?_
 refine go ?_;intros
 refine ce (fun w s=>l1In_c _ _ _ _) ?_
 cases g1:btw 1 p.kind 5
 ·refine go ?_;intros
  refine ret () trivial ?_
  show Value.bool _=Value.bool _;congr 1;unfold goodPk;simp [g1]
 refine go ?_;intros
 refine ce (fun w s=>l2Good_c _ _) ?_
 cases g2:isSer p.number
 ·refine go ?_;intros
  refine ret () trivial ?_
  show Value.bool _=Value.bool _;congr 1;unfold goodPk;simp [g2]
 refine go ?_;intros
 refine ce (fun w s=>l2Good_c _ _) ?_
 cases g3:isSer p.trail
 ·refine go ?_;intros
  refine ret () trivial ?_
  show Value.bool _=Value.bool _;congr 1;unfold goodPk;simp [g3]
 refine go ?_;intros
 refine ce (fun w s=>l2Good_c _ _) ?_
 cases g4:isSer p.lead
 ·refine go ?_;intros
  refine ret () trivial ?_
  show Value.bool _=Value.bool _;congr 1;unfold goodPk;simp [g4]
 obtain ⟨t0,t1⟩:=isSer_iff.1 g3
 obtain ⟨l0,l1⟩:=isSer_iff.1 g4
 refine go ?_;intros
 refine ce (fun w s=>l2Gap_c _ _ _ (by omega) (by omega)) ?_
 refine go ?_;intros
 refine wg_if rfl rfl (fun h6=>?_) (fun h6=>?_)
 ·refine go ?_;intros
  refine ret () trivial ?_
  have h6:¬gp p.trail p.lead≤32767:=by omega
  show Value.bool _=Value.bool _;congr 1;unfold goodPk;simp [h6]
 have h6:gp p.trail p.lead≤32767:=by omega
 refine go ?_;intros
 refine ce (fun w s=>l4Letters_c _ _ _ hs) ?_
 rw [show (decide ((p.data.size:Int)≤8) && lows p.data.data.toList)=itm p.data from rfl]
 cases g5:itm p.data
 ·refine go ?_;intros
  refine ret () trivial ?_
  show Value.bool _=Value.bool _;congr 1;unfold goodPk;simp [g5]
 refine go ?_;intros
 refine wg_if rfl rfl (fun h7=>?_) (fun h7=>?_)
 ·refine go ?_;intros
  refine ret () trivial ?_
  show Value.bool _=Value.bool _;congr 1;unfold goodPk;rw [g1,g2,g3,g4,g5,decide_eq_true h6,decide_eq_true h7];rfl
 refine go ?_;intros
 refine wg_if rfl rfl (fun h8=>?_) (fun h8=>?_)
 ·refine go ?_;intros
  refine ret () trivial ?_
  show Value.bool _=Value.bool _;congr 1;unfold goodPk;rw [g1,g2,g3,g4,g5,decide_eq_true h6,decide_eq_true h8];simp
 ·refine go ?_;intros
  refine ret () trivial ?_
  show Value.bool _=Value.bool _;congr 1;unfold goodPk;rw [g1,g2,g3,g4,g5,decide_eq_true h6,decide_eq_false h7,decide_eq_false h8];rfl
def delB (x:ReceiveWindow) (q:Request):Bool:=bef q.number x.next || decide (8≤gp x.next q.number) || hasB x q.number
theorem need_eq {l:List Request} {x:ReceiveWindow}:(l.filter fun q=>!delB x q)=needed l x:=by
 unfold needed delB
 refine List.filter_congr fun q _=>?_
 have e:decide (8≤gp x.next q.number) = !decide (gp x.next q.number < 8):=by rw [←decide_not];exact decide_eq_decide.2 (by omega)
 rw [e]
 cases bef q.number x.next <;> cases hasB x q.number <;> simp
theorem news1_f (q:Request) (x:ReceiveWindow) (nb gb g o:Nat) (st:Bool) (ck:Int) (qv:Value) (a1:Option Addr) (c1:Nat) (F:List Nat) (w0_:0≤x.next) (w1_:x.next≤65535) (hn:isSer q.number=true) :
  Fn Tryz.prog 320 [.agg #[.int .i64 q.number,.int .i64 q.state,.int .i64 q.untl,.int .i64 q.tries],ptr nb 0 0,ptr gb 0 0] [.cel nb 0 [.int .i64 x.next],.cel gb 0 [ptr g o 0],.cel g o [.bool st,.int .i64 ck,.int .i64 x.next,.slice a1 x.slots.length c1,qv],.isv EReceiveWindow (.agg #[.int .i64 x.next,.slice a1 x.slots.length c1]) x F] [] (fun (_:Unit)=>True) (fun _=>.bool (delB x q)) (fun _=>[]):=by
 obtain ⟨n0,n1⟩:=isSer_iff.1 hn
 have hgb:=gp_bd x.next q.number
 refine enter Tryz.func320 rfl Tryz.ntmps320 fun w0=>?_
 refine go ?_;intros
 cases hb:bef q.number x.next
 rotate_left
 ·rw [show delB x q=true by unfold delB;rw [hb];rfl]
  refine d_start [0,1,2,3,4] [] ?_
  refine dt2 0 1 ?_
  refine dt 2 ?_
  refine dN 3 ?_
  refine oC ?_
  refine ce (fun w s=>isBefore_c _ _ _ (by omega) (by omega) (by omega) (by omega)) ?_
  rw [hb]
  refine dk ?_
  refine dt 4 ?_
  refine ds 5 ?_
  refine ds 6 ?_
  refine ds 7 ?_
  refine ds 8 ?_
  refine ds 9 ?_
  refine dt2 10 11 ?_
  refine ds 12 ?_
  refine ds 13 ?_
  refine ds 14 ?_
  refine ds 15 ?_
  refine ds 16 ?_
  refine ds 17 ?_
  refine ds 18 ?_
  refine dt2 19 20 ?_
  refine dd ?_
  refine go ?_;intros
  refine ret () trivial rfl
 by_cases h8':8≤gp x.next q.number
 ·have h8:=decide_eq_true h8'
  rw [show delB x q=true by unfold delB;rw [h8];simp]
  refine d_start [0,1,2,3,4] [] ?_
  refine dt2 0 1 ?_
  refine dt 2 ?_
  refine dN 3 ?_
  refine oC ?_
  refine ce (fun w s=>isBefore_c _ _ _ (by omega) (by omega) (by omega) (by omega)) ?_
  rw [hb]
  refine dk ?_
  refine dt 4 ?_
  refine dtg 5 ?_
  refine dtg 6 ?_
  refine dtg 7 ?_
  refine d1g 8 ?_
  apply On.h
  refine oC ?_
  refine ce (fun w s=>gap_c _ _ _ (by omega) (by omega) (by omega) (by omega)) ?_
  refine dk ?_
  refine dtg 9 ?_
  rw [h8]
  refine dt2 10 11 ?_
  refine ds 12 ?_
  refine ds 13 ?_
  refine ds 14 ?_
  refine ds 15 ?_
  refine ds 16 ?_
  refine ds 17 ?_
  refine ds 18 ?_
  refine dt2 19 20 ?_
  refine dd ?_
  refine go ?_;intros
  refine ret () trivial rfl
 ·have h8:=decide_eq_false h8'
  rw [show delB x q=hasB x q.number by unfold delB;rw [hb,h8];rfl]
  refine d_start [0,1,2,3,4] [] ?_
  refine dt2 0 1 ?_
  refine dt 2 ?_
  refine dN 3 ?_
  refine oC ?_
  refine ce (fun w s=>isBefore_c _ _ _ (by omega) (by omega) (by omega) (by omega)) ?_
  rw [hb]
  refine dk ?_
  refine dt 4 ?_
  refine dtg 5 ?_
  refine dtg 6 ?_
  refine dtg 7 ?_
  refine d1g 8 ?_
  apply On.h
  refine oC ?_
  refine ce (fun w s=>gap_c _ _ _ (by omega) (by omega) (by omega) (by omega)) ?_
  refine dk ?_
  refine dtg 9 ?_
  rw [h8]
  refine dt2 10 11 ?_
  refine dtg 12 ?_
  refine dtg 13 ?_
  refine dtg 14 ?_
  refine dtg 15 ?_
  refine dtg 16 ?_
  refine dtg 17 ?_
  refine d1g 18 ?_
  apply On.h
  refine oC ?_
  refine cf (RWhas_f x q.number _ F w0_ w1_ n0 n1) fun _ _=>?_
  refine t_app ?_
  refine dk ?_
  refine dt2 19 20 ?_
  refine dd ?_
  refine go ?_;intros
  refine ret () trivial rfl
structure NwS where
 a1:Option Addr
 c1:Nat
 F1:List Nat
 a2:Option Addr
 c2:Nat
 F2:List Nat
 ae:Option Addr
 ce:Nat
 Fe:List Nat
theorem Rnews_f (r:Receiver) (p:Packet) (d:Int) (g t o:Nat) (A B:List Value) (a1:Option Addr) (c1:Nat) (F1:List Nat) (a2:Option Addr) (c2:Nat) (F2:List Nat) (hg:GoodR r) (hp:goodPk p=true) (d0:1≤d) (d1:d≤8) :
  Fn Tryz.prog 300 [ptr g o 0,.agg #[.int .i64 p.kind,.int .i64 p.number,.int .i64 p.trail,.int .i64 p.lead,.string p.data],.int .i64 d] [] [.row g t o A [.bool r.started,.int .i64 r.clock,.int .i64 (r.window).next,.slice a1 (r.window).slots.length c1,.slice a2 (r.requests).length c2] B,.ow ESlot 247 (.slice a1 (r.window).slots.length c1) (r.window).slots F1,.ow ERequest 235 (.slice a2 (r.requests).length c2) (r.requests) F2] (fun (_:NwS)=>True)
   (fun s=>.slice s.ae (newsE r p).length s.ce) (fun s=>[.row g t o A [.bool (newsR r p d).started,.int .i64 (newsR r p d).clock,.int .i64 ((newsR r p d).window).next,.slice s.a1 ((newsR r p d).window).slots.length s.c1,.slice s.a2 ((newsR r p d).requests).length s.c2] B,.ow ESlot 247 (.slice s.a1 ((newsR r p d).window).slots.length s.c1) ((newsR r p d).window).slots s.F1,.ow ERequest 235 (.slice s.a2 ((newsR r p d).requests).length s.c2) ((newsR r p d).requests) s.F2,.ow EStr 9 (.slice s.ae (newsE r p).length s.ce) (newsE r p) s.Fe]):=by
 have k0:=hg.k0
 have k1:=hg.k1
 obtain ⟨-,q1,q2, -⟩:=areQ_iff.1 hg.q
 have hser:∀q∈r.requests,isSer q.number=true:=fun q hq=>(req_at hg hq).1
 obtain ⟨hsg, -⟩:=start_good hg hp
 obtain ⟨htg, -,htl⟩:=taken_good hg hp
 obtain ⟨hng,hnq, -,hnl⟩:=news_good hg hp d0 d1 (by omega)
 obtain ⟨s0_,s1_⟩:=next_ser hsg
 obtain ⟨v0_,v1_⟩:=next_ser hng
 obtain ⟨hw8,hit⟩:=good_items hsg
 obtain ⟨n0,n1⟩:=goodPk_num hp
 have hp2:=hp
 unfold goodPk at hp2
 simp only [Bool.and_eq_true] at hp2
 have htr:isSer p.trail=true:=hp2.1.1.1.1.2
 have hld:isSer p.lead=true:=hp2.1.1.1.2
 have hps:p.data.size≤8:=itm_size hp2.1.1.2
 refine enter Tryz.func300 rfl Tryz.ntmps300 fun w0=>?_
 refine go ?_;intros
 rename_i g3 g4
 refine c_joinS [2,3,4,6] [0,1,4] (fun _:Unit=>[]) (fun _=>[.row g t o A [.bool true,.int .i64 r.clock,.int .i64 (startW r p).next,.slice a1 (startW r p).slots.length c1,.slice a2 r.requests.length c2] B,.ow ESlot 247 (.slice a1 (startW r p).slots.length c1) (startW r p).slots F1]) (fun _=>True) ?_ fun _ _=>?_
 ·cases hs:r.started
  ·by_cases hk:p.kind=5
   ·have e:startW r p=⟨p.lead,r.window.slots⟩:=by unfold startW;rw [hs,if_pos hk];rfl
    have hkd:decide (p.kind=5)=true:=decide_eq_true hk
    rw [e]
    refine go ?_;intros
    refine c_if rfl (fun _=>?_) (fun h=>absurd hk h)
    refine go ?_;intros
    refine n_join () trivial
   ·have e:startW r p=⟨p.number,r.window.slots⟩:=by unfold startW;rw [hs,if_neg hk];rfl
    rw [e]
    refine go ?_;intros
    refine c_if rfl (fun h=>absurd h hk) (fun _=>?_)
    refine go ?_;intros
    refine n_join () trivial
  ·have e:startW r p=r.window:=by unfold startW;rw [hs];rfl
   rw [e]
   refine go ?_;intros
   refine n_join () trivial
 refine go ?_;intros
 refine c_joinS [2,3,4,6] [2,3,4] (fun s:SkS=>[(7,.slice s.ae (takenE r p).length s.ce)]) (fun s=>[.row g t o A [.bool true,.int .i64 r.clock,.int .i64 (takenW r p).next,.slice s.a (takenW r p).slots.length s.c,.slice a2 r.requests.length c2] B,.ow ESlot 247 (.slice s.a (takenW r p).slots.length s.c) (takenW r p).slots s.F,.ow EStr 9 (.slice s.ae (takenE r p).length s.ce) (takenE r p) s.Fe]) (fun _=>True) ?_ fun s _=>?_
 ·by_cases hk:p.kind=5
  ·have e1:takenW r p=startW r p:=by unfold takenW;rw [if_pos hk]
   have e2:takenE r p=[]:=by unfold takenE;rw [if_pos hk]
   refine c_if rfl (fun h=>absurd hk h) (fun _=>?_)
   rw [e1,e2]
   refine t_nilow EStr 9 ?_
   refine go ?_;intros
   refine n_join (⟨a1,c1,F1,none,0,[]⟩:SkS) trivial
  ·have e1:takenW r p=takeW (startW r p) p.number p.data:=by unfold takenW;rw [if_neg hk]
   have e2:takenE r p=takeE (startW r p) p.number p.data:=by unfold takenE;rw [if_neg hk]
   refine c_if rfl (fun _=>?_) (fun h=>absurd hk h)
   rw [e1,e2]
   refine t_rin [.bool true,.int .i64 r.clock] [.int .i64 (startW r p).next,.slice a1 (startW r p).slots.length c1] [.slice a2 r.requests.length c2] ?_
   refine go ?_;intros
   refine d_start [2,3] [] ?_
   refine dt4 0 1 2 3 ?_
   refine dt2 4 5 ?_
   refine dt 6 ?_
   refine dN 7 ?_
   refine oC ?_
   refine cf (RWtake_f (startW r p) p.number p.data g t (o+2) (A++[.bool true,.int .i64 r.clock]) _ a1 c1 F1 s0_ s1_ n0 n1 hw8 hit hps) fun y hy=>?_
   refine t_app ?_
   obtain ⟨hy1,hy2⟩:=hy
   refine dk ?_
   refine dt4 8 9 10 11 ?_
   refine dd ?_
   refine t_rout [.bool true,.int .i64 r.clock] [.int .i64 y.y.next,.slice y.a y.y.slots.length y.c] [.slice a2 r.requests.length c2] ?_
   rw [←hy1,←hy2]
   refine go ?_;intros
   refine n_join (⟨_,_,_,_,_,_⟩:SkS) trivial
 obtain ⟨a3,c3,F3,ae,ce,Fe⟩:=s
 dsimp only
 refine go ?_;intros
 refine cf (Rskip_f (takenW r p) true r.clock p.trail _ g t o A B a3 c3 F3 htg htr) fun y _=>?_
 refine t_app ?_
 have hsl:(skipE (takenW r p) p.trail).length≤24:=by unfold newsE at hnl;rw [List.length_append] at hnl;omega
 refine t_read (E:=EStr) (xs:=skipE (takenW r p) p.trail) fun G8=>?_
 refine go ?_;intros
 apply wO
 refine aps (ys:=skipE (takenW r p) p.trail) one_EStr scal_EStr fun a9 c9 F9=>?_
 rw [show takenE r p++skipE (takenW r p) p.trail=newsE r p from rfl,show skipW (takenW r p) p.trail=newsW r p from rfl]
 refine go ?_;intros
 rename_i g11
 refine d_start [3,6] [9] ?_
 refine dt4 0 1 2 3 ?_
 refine dt2 4 5 ?_
 refine dN 6 ?_
 refine oC ?_
 refine cfm (M:=[.ow ERequest 235 (.slice a2 r.requests.length c2) r.requests F2]) (.cons (by repeat (first|exact .here|apply Pick.there)) .nil) (fun w st=>by
   have r1:=st.on (.row g11 3 0 [] [.int .i64 (newsW r p).next] []) (by simp)
   have r2:=st.on (.row g3 255 0 [] [ptr g o 0] []) (by simp)
   have r3:=st.on (.row g t o A [.bool true,.int .i64 r.clock,.int .i64 (newsW r p).next,.slice y.a (newsW r p).slots.length y.c,.slice a2 r.requests.length c2] B) (by simp)
   obtain ⟨Fw,hFw,hw⟩:=(st.on (.ow ESlot 247 (.slice y.a (newsW r p).slots.length y.c) (newsW r p).slots y.F) (by simp)).2.read
   refine ⟨[.cel g11 0 [.int .i64 (newsW r p).next],.cel g3 0 [ptr g o 0],.cel g o [.bool true,.int .i64 r.clock,.int .i64 (newsW r p).next,.slice y.a (newsW r p).slots.length y.c,.slice a2 r.requests.length c2],.isv EReceiveWindow (.agg #[.int .i64 (newsW r p).next,.slice y.a (newsW r p).slots.length y.c]) (newsW r p) Fw],?_,rfl,?_,DelReq_f 320 [] [ptr g11 0 0,ptr g3 0 0] _ rfl r.requests a2 c2 F2 (fun q=>delB (newsW r p) q) (by kernel_rfl) (by omega) (fun q hq w' hA=>(news1_f q (newsW r p) g11 g3 g o true r.clock _ y.a y.c Fw v0_ v1_ (hser q hq)).val w' hA)⟩
   ·intro q hq
    simp only [List.mem_cons,List.not_mem_nil,or_false] at hq
    rcases hq with rfl|rfl|rfl|rfl
    ·exact ⟨by simp,row_range r1⟩
    ·exact ⟨by simp,row_range r2⟩
    ·exact ⟨by simp,row_range r3⟩
    ·exact ⟨_,rfl,_,rfl,hw⟩
   ·intro q hq b hb
    simp only [List.mem_cons,List.not_mem_nil,or_false] at hq
    rcases hq with rfl|rfl|rfl|rfl
    ·exact ⟨.row g11 3 0 [] [.int .i64 (newsW r p).next] [],by simp,hb⟩
    ·exact ⟨.row g3 255 0 [] [ptr g o 0] [],by simp,hb⟩
    ·exact ⟨.row g t o A [.bool true,.int .i64 r.clock,.int .i64 (newsW r p).next,.slice y.a (newsW r p).slots.length y.c,.slice a2 r.requests.length c2] B,by simp,hb⟩
    ·exact ⟨.ow ESlot 247 (.slice y.a (newsW r p).slots.length y.c) (newsW r p).slots y.F,by simp,hFw b hb⟩) (fun z _=>?_)
 rw [need_eq]
 refine dk ?_
 refine dt2 7 8 ?_
 refine dN 9 ?_
 refine oS ?_
 refine dkx ?_
 refine dd ?_
 refine go ?_;intros
 refine cf (Rawait_f (newsW r p) (needed r.requests (newsW r p)) true r.clock p.lead d g t o A B y.a y.c y.F z.1 z.2.1 z.2.2 hng hnq needed_free hld k0 k1 d0 d1) fun u _=>?_
 refine t_app ?_
 refine go ?_;intros
 refine ret ⟨_,_,_,_,_,_,_,_,_⟩ trivial rfl
structure OwnS where
 g:Nat
 a:Option Addr
 c:Nat
 F:List Nat
theorem l13Own_f (x:Receiver) (v:Value) (F:List Nat) (hl:x.window.slots.length≤1000000000) (hl2:x.requests.length≤1000000000):Fn Tryz.prog 138 [v] [.isv EReceiver v x F] [] (fun (_:Value × List Nat)=>True) (fun s=>s.1) (fun s=>[.own OReceiver s.1 x s.2]):=by
 refine enter Tryz.func138 rfl Tryz.ntmps138 fun w0=>?_
 refine openReceiver ?_
 rintro a1 c1 F1 a2 c2 F2 rfl l1 l2
 refine go ?_;intros
 refine c_joinS [1,2] [0,1,2,3,4] (fun s:OwnS=>[(3,ptr s.g 0 0)]) (fun s=>[.row s.g 146 0 [] [.int .i64 x.window.next,.slice s.a x.window.slots.length s.c] [],.ow ESlot 247 (.slice s.a x.window.slots.length s.c) x.window.slots s.F]) (fun _=>True) ?_ fun s _=>?_
 ·skip
  refine d_start [1] [] ?_
  refine dt4 0 1 2 4 ?_
  refine dt2 5 6 ?_
  refine dM 3 9 ?_ ?_
  ·apply o_bs0;rfl;intro _
   refine t_emp ESlot ?_
   refine dk ?_
   refine dM 7 9 ?_ ?_
   ·refine aps one_ESlot scal_ESlot fun a5 c5 F5=>?_
    rw [List.nil_append]
    refine dk ?_
    refine dt 8 ?_
    refine dN 9 ?_
    apply o_alloc;rfl;intro _
    refine dk ?_
    refine dN 10 ?_
    refine oS ?_
    refine dk ?_
    refine dd ?_
    refine n_join (⟨_,_,_,_⟩:OwnS) trivial
   ·apply o_alloc;rfl;intro _
    refine dk ?_
    refine dN 7 ?_
    refine aps one_ESlot scal_ESlot fun a5 c5 F5=>?_
    rw [List.nil_append]
    refine dk ?_
    refine dt 8 ?_
    refine dN 10 ?_
    refine oS ?_
    refine dk ?_
    refine dd ?_
    refine n_join (⟨_,_,_,_⟩:OwnS) trivial
  ·apply o_alloc;rfl;intro _
   refine dk ?_
   refine dN 3 ?_
   apply o_bs0;rfl;intro _
   refine t_emp ESlot ?_
   refine dk ?_
   refine dN 7 ?_
   refine aps one_ESlot scal_ESlot fun a5 c5 F5=>?_
   rw [List.nil_append]
   refine dk ?_
   refine dt 8 ?_
   refine dN 10 ?_
   refine oS ?_
   refine dk ?_
   refine dd ?_
   refine n_join (⟨_,_,_,_⟩:OwnS) trivial
 obtain ⟨g3,a5,c5,F5⟩:=s
 dsimp only
 refine go ?_;intros
 refine d_start [0,3] [] ?_
 refine dt4 0 1 2 3 ?_
 refine dt2 4 6 ?_
 refine dt 7 ?_
 refine dN 5 ?_
 apply o_bs0;rfl;intro _
 refine t_emp ERequest ?_
 refine dk ?_
 refine dN 8 ?_
 refine aps one_ERequest scal_ERequest fun a6 c6 F6=>?_
 rw [List.nil_append]
 refine dk ?_
 refine dt 9 ?_
 refine dN 10 ?_
 refine oS ?_
 refine dk ?_
 refine dd ?_
 refine go ?_;intros
 refine closeOReceiver x ?_
 refine ret (_,_) trivial rfl
theorem l13Needed_f (l:List Request) (w:ReceiveWindow) (a:Option Addr) (c:Nat) (F:List Nat) (v:Value) (Fw:List Nat) (hl:l.length≤1000000) (hs:∀q∈l,isSer q.number=true) (w0_:0≤w.next) (w1_:w.next≤65535):Fn Tryz.prog 226 [.slice a l.length c,v] [.sl ERequest (.slice a l.length c) l F,.isv EReceiveWindow v w Fw] [] (fun (_:Option Addr × Nat × List Nat)=>True) (fun z=>.slice z.1 (needed l w).length z.2.1) (fun z=>[.ow ERequest 235 (.slice z.1 (needed l w).length z.2.1) (needed l w) z.2.2]):=by
 refine enter Tryz.func226 rfl Tryz.ntmps226 fun w0=>?_
 refine openReceiveWindow ?_
 rintro a1 c1 F1 rfl l1
 refine go ?_;intros
 refine t_emp ERequest ?_
 refine c_loopS [0,3,4] (fun s:PkS=>[(6,.int .i64 (s.k:Nat)),(5,.slice s.a (needed (l.take s.k) w).length s.c)]) (fun s=>[.ow ERequest 235 (.slice s.a (needed (l.take s.k) w).length s.c) (needed (l.take s.k) w) s.F]) (fun s=>s.k≤l.length) (fun s=>l.length - s.k) ⟨0,_,_,_⟩ (Nat.zero_le _) fun s hk=>?_
 obtain ⟨k,a4,c4,F4⟩:=s
 dsimp only at hk ⊢
 refine go ?_;intros
 refine c_if rfl (fun h4=>?_) (fun h4=>?_)
 ·have hk:k < l.length:=by omega
  have hkl:(needed (l.take k) w).length≤k:=Nat.le_trans (List.length_filter_le _ _) (by rw [List.length_take];omega)
  have hsk:=hs _ (List.getElem_mem hk)
  obtain ⟨n0,n1⟩:=isSer_iff.1 hsk
  have en:∀b,(!(bef l[k].number w.next || hasB w l[k].number) && decide (gp w.next l[k].number < 8))=b→needed (l.take (k+1)) w=needed (l.take k) w++if b then [l[k]] else []:=fun b hb=>by
   unfold needed
   rw [List.take_add_one,List.getElem?_eq_getElem hk,List.filter_append]
   congr 1
   show ([l[k]].filter _)=_
   rw [List.filter_cons,List.filter_nil,hb]
  refine atRequest (xs:=l) k ?_
  rintro hi b o e
  rw [e]
  refine go ?_;intros
  cases g5:(bef l[k].number w.next || hasB w l[k].number)
  ·skip
   refine d_start [0,2] [] ?_
   refine dt4 0 1 2 3 ?_
   refine dt2 4 5 ?_
   refine dN 6 ?_
   refine oC ?_
   refine cf (l10Have_f w l[k].number _ Fw w0_ w1_ n0 n1) fun _ _=>?_
   refine t_app ?_
   rw [show takeNo w l[k].number=(bef l[k].number w.next || hasB w l[k].number) from rfl,g5]
   refine dk ?_
   refine dt2 7 8 ?_
   refine dtg 9 ?_
   refine dtg 10 ?_
   refine dtg 11 ?_
   refine dtg 12 ?_
   refine dtg 13 ?_
   refine dtg 14 ?_
   refine dtg 15 ?_
   refine d1g 16 ?_
   apply On.h
   refine oC ?_
   refine ce (fun w s=>l2Gap_c _ _ _ (by omega) (by omega)) ?_
   refine dk ?_
   refine dtg 17 ?_
   refine dt 18 ?_
   refine dd ?_
   refine go ?_;intros
   refine c_if rfl (fun h6=>?_) (fun h6=>?_)
   ·have e1:=en true (by rw [g5,decide_eq_true h6];rfl)
    refine go ?_;intros
    apply wO
    refine ap1 (ys:=[l[k]]) (flatRequest l[k]) one_ERequest fun a7 c7 F7=>?_
    refine go ?_;intros
    rw [show needed (l.take k) w++[l[k]]=needed (l.take (k+1)) w from e1.symm]
    refine n_lp (⟨k+1,_,_,_⟩:PkS) (by show k+1≤l.length;omega) (by show l.length - (k+1) < l.length - k;omega)
   ·have e1:=en false (by rw [g5,decide_eq_false h6];rfl)
    refine go ?_;intros
    rw [show needed (l.take k) w=needed (l.take (k+1)) w by rw [e1];simp]
    refine n_lp (⟨k+1,_,_,_⟩:PkS) (by show k+1≤l.length;omega) (by show l.length - (k+1) < l.length - k;omega)
  ·skip
   refine d_start [0,2] [] ?_
   refine dt4 0 1 2 3 ?_
   refine dt2 4 5 ?_
   refine dN 6 ?_
   refine oC ?_
   refine cf (l10Have_f w l[k].number _ Fw w0_ w1_ n0 n1) fun _ _=>?_
   refine t_app ?_
   rw [show takeNo w l[k].number=(bef l[k].number w.next || hasB w l[k].number) from rfl,g5]
   refine dk ?_
   refine dt2 7 8 ?_
   refine ds 9 ?_
   refine ds 10 ?_
   refine ds 11 ?_
   refine ds 12 ?_
   refine ds 13 ?_
   refine ds 14 ?_
   refine ds 15 ?_
   refine ds 16 ?_
   refine ds 17 ?_
   refine dt 18 ?_
   refine dd ?_
   have e1:=en false (by rw [g5];rfl)
   refine go ?_;intros
   rw [show needed (l.take k) w=needed (l.take (k+1)) w by rw [e1];simp]
   refine n_lp (⟨k+1,_,_,_⟩:PkS) (by show k+1≤l.length;omega) (by show l.length - (k+1) < l.length - k;omega)
 have hk:k=l.length:=by omega
 subst hk
 rw [List.take_length]
 refine go ?_;intros
 refine ret (_,_,_) trivial rfl
structure GvS where
 g:Nat
 y:RelS
theorem l13Tick_f (r:Receiver) (d:Int) (v:Value) (F:List Nat) (hg:GoodR r) (d0:0≤d) (d1:d≤100) (_hx:r.clock≤99999) :
  Fn Tryz.prog 159 [v,.int .i64 d] [.isv EReceiver v r F] [] (fun (_:TkR)=>True) (fun s=>.tuple #[.agg #[.bool (tickRec r d).started,.int .i64 (tickRec r d).clock,.int .i64 (tickRec r d).window.next,.slice s.a1 (tickRec r d).window.slots.length s.c1,.slice s.a2 (tickRec r d).requests.length s.c2],.slice s.a3 (tickPk r).length s.c3,.slice s.a4 (tickEv r).length s.c4])
   (fun s=>[.isv EReceiver (.agg #[.bool (tickRec r d).started,.int .i64 (tickRec r d).clock,.int .i64 (tickRec r d).window.next,.slice s.a1 (tickRec r d).window.slots.length s.c1,.slice s.a2 (tickRec r d).requests.length s.c2]) (tickRec r d) s.F1,.ow EPacket 127 (.slice s.a3 (tickPk r).length s.c3) (tickPk r) s.F3,.ow EStr 9 (.slice s.a4 (tickEv r).length s.c4) (tickEv r) s.F4]):=by
 have k0:=hg.k0
 have k1:=hg.k1
 obtain ⟨-,q1,q2, -⟩:=areQ_iff.1 hg.q
 obtain ⟨w0_,w1_⟩:=next_ser hg.w
 obtain ⟨hw8,hit⟩:=good_items hg.w
 have hpl:(r.requests.filterMap (tkS (r.clock+1))).length≤8:=Nat.le_trans (List.length_filterMap_le _ _) q1
 refine enter Tryz.func159 rfl Tryz.ntmps159 fun w0=>?_
 refine openReceiver (v:=v) (x:=r) (F:=F) ?_
 rintro a1 c1 F1 a2 c2 F2 rfl l1 l2
 refine go ?_;intros
 refine cf (l13Own_f r _ F (by omega) (by omega)) fun u _=>?_
 refine t_app ?_
 refine openOReceiver ?_
 rintro a5 c5 F5 a6 c6 F6 e6 - -
 rw [e6]
 refine t_read (E:=ESlot) fun G5=>?_
 refine go ?_;intros
 refine cf (l12Tick_f r.requests (r.clock+1) d a2 c2 F2 (by omega) (fun q hq=>⟨(okReq_iff.1 (q2 q hq)).t0,(okReq_iff.1 (q2 q hq)).t1⟩) (by omega) (by omega) (by omega) (by omega)) fun z _=>?_
 refine t_app ?_
 rw [show r.requests.filterMap (tkL (r.clock+1))=tkLost r from rfl,show r.requests.filterMap (tkO (r.clock+1) d)=tkReq r d from rfl]
 refine t_read (E:=EInt) (xs:=r.requests.filterMap (tkS (r.clock+1))) fun G2=>?_
 refine t_read (E:=EInt) (xs:=tkLost r) fun G3=>?_
 refine t_emp EStr ?_
 refine t_emp EPacket ?_
 refine go ?_;intros
 refine c_loopS [2,4,5,6,7,9,11,12] (fun s:PkS=>[(13,.int .i64 (s.k:Nat)),(8,.slice s.a (((r.requests.filterMap (tkS (r.clock+1))).take s.k).map (pkR r.window.next)).length s.c)]) (fun s=>[.ow EPacket 127 (.slice s.a (((r.requests.filterMap (tkS (r.clock+1))).take s.k).map (pkR r.window.next)).length s.c) (((r.requests.filterMap (tkS (r.clock+1))).take s.k).map (pkR r.window.next)) s.F]) (fun s=>s.k≤(r.requests.filterMap (tkS (r.clock+1))).length) (fun s=>(r.requests.filterMap (tkS (r.clock+1))).length - s.k) ⟨0,_,_,_⟩ (Nat.zero_le _) fun s hs=>?_
 obtain ⟨k,a4,c4,F4⟩:=s
 dsimp only at hs ⊢
 generalize hsn:r.requests.filterMap (tkS (r.clock+1))=sn at *
 refine go ?_;intros
 refine c_if rfl (fun h4=>?_) (fun h4=>?_)
 ·have hk:k < sn.length:=by omega
  have hkl:((sn.take k).map (pkR r.window.next)).length≤k:=by simp;omega
  refine at_int (xs:=sn) k ?_
  rintro hi b o2 e
  rw [e]
  refine go ?_;intros
  have eo:(sn.take (k+1)).map (pkR r.window.next)=(sn.take k).map (pkR r.window.next)++[pkR r.window.next sn[k]]:=by rw [List.take_add_one,List.getElem?_eq_getElem hk,List.map_append];rfl
  refine d_start [0,10] [] ?_
  refine dt4 0 1 2 3 ?_
  refine dt4 4 5 6 7 ?_
  refine dt4 8 9 10 11 ?_
  refine dN 12 ?_
  apply o_bs;rfl;rfl;rfl;rfl;exact rptE;exact filE;intro _
  refine dk ?_
  refine dN 13 ?_
  refine ap1 (ys:=[pkR r.window.next sn[k]]) (flatPacket (pkR r.window.next sn[k]) (by show (0:Nat)≤maxLen;exact Nat.zero_le _)) one_EPacket fun a7 c7 F7=>?_
  refine dk ?_
  refine dt 14 ?_
  refine dd ?_
  refine go ?_;intros
  rw [←eo]
  refine n_lp (⟨k+1,_,_,_⟩:PkS) (by show k+1≤sn.length;omega) (by show sn.length - (k+1) < sn.length - k;omega)
 have hk:k=sn.length:=by omega
 subst hk
 rw [List.take_length]
 have ep:tickPk r=sn.map (pkR r.window.next):=by unfold tickPk;rw [hsn]
 rw [ep]
 refine go ?_;intros
 by_cases hL:tkLost r=[]
 ·refine c_if rfl (fun h=>absurd h (by rw [hL];decide)) (fun _=>?_)
  rw [tickR_no hL,tickE_no hL]
  refine go ?_;intros
  refine t_read (E:=ERequest) fun F8=>?_
  refine closeReceiver (a1:=a5) ⟨r.started,r.clock+1,r.window,tkReq r d⟩ ?_
  refine ret ⟨_,_,_,_,_,[],_,_,_,_,_,_⟩ trivial rfl
 ·have hl0:=List.length_pos_iff.2 hL
  refine c_if rfl (fun _=>?_) (fun h=>absurd h (by omega))
  rw [tickR_yes hL,tickE_yes hL]
  obtain ⟨hs8,hsr⟩:=lost_gp hg hL
  have hll8:=tkLost_len r
  obtain ⟨hs0,hs1⟩:=isSer_iff.1 hsr
  have hll:=lost_last hL
  obtain ⟨l0,l1⟩:=isSer_iff.1 (tkLost_at hg (List.getElem_mem (show (tkLost r).length - 1 < (tkLost r).length by omega))).1
  have hi1:((tkLost r).length:Int) - 1=(((tkLost r).length - 1:Nat):Int):=by omega
  refine closeReceiveWindow (a1:=a5) r.window ?_
  generalize G5=FW
  refine at_int (xs:=tkLost r) ((tkLost r).length - 1) ?_
  rintro hi b o2 e
  rw [e]
  refine go ?_;intros
  refine c_joinS [4,5,6,7,8,9] [2,3,6,7,10,14] (fun s:GvS=>[(15,ptr s.g 0 0),(16,.slice s.y.ae s.y.es.length s.y.ce)]) (fun s=>[.row s.g 146 0 [] [.int .i64 s.y.y.next,.slice s.y.a s.y.y.slots.length s.y.c] [],.isv EReceiveWindow (.agg #[.int .i64 s.y.y.next,.slice s.y.a s.y.y.slots.length s.y.c]) s.y.y s.y.F,.ow EStr 9 (.slice s.y.ae s.y.es.length s.y.ce) s.y.es s.y.Fe]) (fun s=>s.y.y=movedW r.window (lostTrail (tkLost r))∧s.y.es=movedE r.window (lostTrail (tkLost r))) ?_ fun s hy=>?_
  ·skip
   refine d_start [0,7] [] ?_
   refine dt4 0 1 2 3 ?_
   refine dt 4 ?_
   rw [hi1]
   refine dt2 5 6 ?_
   refine dM 7 12 ?_ ?_
   ·refine oC ?_
    refine ce (fun w s=>l2After_c _ _ _ (by omega) (by omega)) ?_
    rw [←hll]
    refine dk ?_
    refine dM 8 12 ?_ ?_
    ·refine oC ?_
     refine cf (l10GiveUp_f r.window (lostTrail (tkLost r)) _ FW w0_ w1_ hs0 hs1 hw8 hit) fun y hy=>?_
     refine t_app ?_
     refine dk ?_
     refine dt2 9 10 ?_
     refine dt 11 ?_
     refine dN 12 ?_
     apply o_alloc;rfl;intro _
     refine dk ?_
     refine dN 13 ?_
     refine oS ?_
     refine dk ?_
     refine dt 14 ?_
     refine dd ?_
     refine n_join (⟨_,y⟩:GvS) hy
    ·apply o_alloc;rfl;intro _
     refine dk ?_
     refine dN 8 ?_
     refine oC ?_
     refine cf (l10GiveUp_f r.window (lostTrail (tkLost r)) _ FW w0_ w1_ hs0 hs1 hw8 hit) fun y hy=>?_
     refine t_app ?_
     refine dk ?_
     refine dt2 9 10 ?_
     refine dt 11 ?_
     refine dN 13 ?_
     refine oS ?_
     refine dk ?_
     refine dt 14 ?_
     refine dd ?_
     refine n_join (⟨_,y⟩:GvS) hy
   ·apply o_alloc;rfl;intro _
    refine dk ?_
    refine dN 7 ?_
    refine oC ?_
    refine ce (fun w s=>l2After_c _ _ _ (by omega) (by omega)) ?_
    rw [←hll]
    refine dk ?_
    refine dN 8 ?_
    refine oC ?_
    refine cf (l10GiveUp_f r.window (lostTrail (tkLost r)) _ FW w0_ w1_ hs0 hs1 hw8 hit) fun y hy=>?_
    refine t_app ?_
    refine dk ?_
    refine dt2 9 10 ?_
    refine dt 11 ?_
    refine dN 13 ?_
    refine oS ?_
    refine dk ?_
    refine dt 14 ?_
    refine dd ?_
    refine n_join (⟨_,y⟩:GvS) hy
  obtain ⟨g15,y⟩:=s
  dsimp only at hy ⊢
  obtain ⟨hy1,hy2⟩:=hy
  have hmv:=moved_at (t:=lostTrail (tkLost r)) hg.w
  have hm0:0≤y.y.next:=by rw [hy1,hmv.1];exact (aft_bd _ _).1
  have hm1:y.y.next≤65535:=by rw [hy1,hmv.1];exact (aft_bd _ _).2
  have hes:y.es.length≤100:=by rw [hy2];have:=hmv.2.2.1;have:=@stepsN_gp r.window.next (lostTrail (tkLost r));omega
  refine t_read (E:=EStr) (xs:=y.es) fun G8=>?_
  refine go ?_;intros
  apply wO
  refine aps (ys:=y.es) one_EStr scal_EStr fun a9 c9 F9=>?_
  rw [List.nil_append]
  refine t_read (E:=ERequest) (xs:=tkReq r d) fun F8=>?_
  refine go ?_;intros
  refine cf (l13Needed_f (tkReq r d) y.y z.a z.c F8 _ y.F (by have:=tkReq_len r d;omega) (fun q hq=>(tkReq_at hg hq).1) hm0 hm1) fun u2 _=>?_
  refine t_app ?_
  rw [hy1,tick_needed hg hL,←hy1]
  refine go ?_;intros
  refine openReceiveWindow (x:=y.y) ?_
  rintro b1 d1 G1 e5 m1
  simp only [Value.agg.injEq,Array.mk.injEq,List.cons.injEq,Value.slice.injEq,true_and,and_true] at e5
  obtain ⟨rfl,rfl⟩:=e5
  refine t_read (E:=ERequest) (xs:=noBef (tkReq r d) y.y.next) fun F10=>?_
  refine closeReceiver ⟨r.started,r.clock+1,y.y,noBef (tkReq r d) y.y.next⟩ ?_
  rw [←hy2]
  refine ret ⟨_,_,_,_,_,[],_,_,_,_,_,_⟩ trivial rfl
def waitsAllL (md:Region.Mode) (ops:Array Oper) (X:Nat→Bool) (listed:Array Bool) (i:Nat):Bool:=(List.range ops.size).all fun j=>!X j || listed.getD j false || waitsFor' md ops i ops.size j
section
variable {P:Program} {md:Region.Mode} {ops:Array Oper} {Q:Exit→Act→World→Prop} {S:World→Prop} {X:Nat→Bool}
theorem AnyX.firstL {i:Nat} {oi:Oper} {v:Value} (hi:ops[i]?=some oi) (hsel:∀(j:Nat) (o:Oper) cs b,ops[j]?=some o→o.op≠.select cs b)
  (hQ:∀c a w,Q (.panic c) (a.put oi.dst v) w→Q (.panic c) a w) :
  ∀(f:Nat) (listed:Array Bool) (a:Act) (w:World),(∀j,j < ops.size→X j=true→listed.getD j false=false→waitsFor' md ops i ops.size j=true) →
   (∀j oj,ops[j]?=some oj→j≠i→listed.getD j true=false→(∀e∈oj.after,Region.binds md e=true→e.on≠i)→oi.apart ops oj=true) →
   Closed md ops listed→i∈Region.ready md ops listed→YieldsIf P ops S oi v a→S w→AnyX P md ops Q S X f (listed.setIfInBounds i true) (a.put oi.dst v) w→AnyX P md ops Q S X (f+1) listed a w:=by
 intro f
 induction f with
 | zero =>
  intro listed a w _ _ _ hr hy hS H
  refine ⟨fun h=>(by rw [h] at hr;cases hr),fun j hj=>?_⟩
  by_cases hji:j=i
  ·subst hji;exact hy.wpOp hi hS ⟨fun _=>hS,H⟩
  ·have:=ready_mono hj hji
   rw [H.1] at this;cases this
 | succ f ih =>
  intro listed a w hX hfree hcl hr hy hS H
  refine ⟨fun h=>(by rw [h] at hr;cases hr),fun j hj=>?_⟩
  by_cases hji:j=i
  ·subst hji;exact hy.wpOp hi hS ⟨fun _=>hS,H⟩
  ·obtain ⟨hju,oj,hoj,hall⟩:=mem_ready.1 hj
   have hiu:=unlisted (mem_ready.1 hr).1
   have hnot:∀e∈oj.after,Region.binds md e=true→e.on≠i:=fun e he hb heq=>by
    have h1:=hall e he hb
    rw [heq,hiu] at h1;cases h1
   have hXj:X j=false:=by
    cases hx:X j
    ·rfl
    ·have h2:=waits_listed hcl ops.size j (fun o ho=>by obtain rfl:=Option.some.inj (ho.symm.trans hoj);exact hall) (hX j (Array.getElem?_eq_some_iff.1 hoj).1 hx (unlisted hju))
     rw [hiu] at h2;cases h2
   have h2:=wpOp_putIf hoj (hfree j oj hoj hji hju hnot) (fun cs b=>hsel i oi cs b hi) (fun cs b=>hsel j oj cs b hoj) hQ hy (H.2 j (ready_mono hj hji))
   refine wpOp_mono (fun a' w' h3=>⟨fun _=>h3.2.1 hXj,ih (listed.setIfInBounds j true) a' w' (fun k hk hx hun=>hX k hk hx ?_) (fun k ok hk hki hun hno=>hfree k ok hk hki ?_ hno) (hcl.set hj) (ready_mono hr (Ne.symm hji)) h3.1 (h3.2.1 hXj) ?_⟩) h2
   ·by_cases hjk:j=k
    ·subst hjk;exact unlisted hju
    ·rw [getD_set_ne false hjk] at hun;exact hun
   ·by_cases hjk:j=k
    ·subst hjk;exact hju
    ·rw [getD_set_ne true hjk] at hun;exact hun
   ·rw [Array.setIfInBounds_comm _ _ hji];exact h3.2.2
end
section
variable {c:Cx} {fr:Fr} {H H0:List Pc} {k:List It} {X:List Nat} {ops:Array Oper} {f:Nat} {listed:Array Bool} {d:Nat} {o:Op} {ty:TypeId} {pos:String} {aft:Array Edge} {v:Value}
theorem dtl (i:Nat) (h:T c ((d,v)::fr) H (.dx k H0 X ops f (listed.setIfInBounds i true))) (ho:ops[i]?=some ⟨some d,o,ty,pos,aft,none⟩:=by rw [List.getElem?_toArray];rfl) (hy:Yd c.P c.n fr H0 o ty v:=by exact ydE) (hs:Mems H0 H:=by repeat (first|exact Mems.nil|refine Mems.cons (by (repeat (first|exact .head _|apply List.Mem.tail));first|done|fail) ?_))
  (h1:Region.noSelect ops=true:=by kernel_rfl) (h2:Region.free .any ops listed i=true:=by kernel_rfl) (h3:(Region.ready .any ops listed).contains i=true:=by kernel_rfl) (h4:waitsAllL .any ops (fun i=>X.contains i) listed i=true:=by kernel_rfl) (h5:closedB .any ops listed=true:=by kernel_rfl) (hR:PanOk c:=by exact panOk) (hd:Nat.blt d c.n=true:=by rfl) :
  T c fr H (.dx k H0 X ops (f+1) listed):=.mk fun a w s g =>
 AnyX.firstL ho (Region.noSelect_spec h1) (fun ch a w hp=>by rw [run_panic] at hp ⊢;exact hR _ _ _ _ _ hp) f listed a w (fun j hj hx hl=>by
   have:=List.all_eq_true.1 h4 j (List.mem_range.2 hj)
   dsimp only at this
   rw [hx,hl] at this
   simpa using this) (Region.free_spec ho h2) (closed_of h5) (by simpa using h3) (.inl ⟨rfl,fun w' hw'=>hy.h a w' _ _ _ _ g hw'⟩) (fun p hp=>s.on p (hs.all p hp)) (h.h _ _ s (g.put hd))
end
theorem IdxPk_f (fid:FuncId) (bd caps:List Value) (A:List Pc) (hA:A.all (fun p=>!p.mu)=true) (xs:List Packet) (a:Option Addr) (c:Nat) (F:List Nat) (p:Packet→Bool) (hb:bodyB Tryz.prog fid=true) (hl:xs.length≤1000000000)
  (hp:∀x∈xs,∀w,Hol A w→Calls Tryz.prog fid (bd++[(.agg #[.int .i64 (x).kind,.int .i64 (x).number,.int .i64 (x).trail,.int .i64 (x).lead,.string (x).data]:Value)]++caps).toArray w fun e w'=>e=.returned (.bool (p x))∧Below w.heap.size w w') :
  Fn Tryz.prog 241 [.slice a xs.length c,.func (.func fid) bd.toArray caps.toArray] (.sl EPacket (.slice a xs.length c) xs F::A) [] (fun (_:Unit)=>True) (fun _=>.int .i64 (fidx p xs)) (fun _=>[]):=by
 refine enter Tryz.func241 rfl Tryz.ntmps241 (fun w0=>?_) rfl (by simpa [Pc.mu] using hA) .nil
 refine go ?_;intros
 refine c_loopR [0,1,4,7] (fun k:Nat=>[(8,.int .i64 (k:Nat))]) (fun k=>k≤xs.length∧∀j (_:j < k) (hj:j < xs.length),p xs[j]=false) (fun k=>xs.length - k) 0 ⟨Nat.zero_le _,fun j h=>by omega⟩ fun k hk=>?_
 obtain ⟨hk1,hk2⟩:=hk
 refine go ?_;intros
 refine c_if rfl (fun h5=>?_) (fun h5=>?_)
 ·have hh:k < xs.length:=by omega
  refine go ?_;intros
  refine atPacket (xs:=xs) k ?_
  rintro hi b o e sz
  rw [e]
  refine go ?_;intros
  apply wO
  refine o_callb rfl rfl hb evsE ?_
  refine cb (fun w st=>hp xs[k] (List.getElem_mem hh) w (fun q hq=>st.on q (by simp [hq]))) ?_
  cases hpk:p xs[k]
  ·refine go ?_;intros
   refine t_drop ?_
   refine n_lp (hH:=hsub_refl _) (k+1) ⟨hh,fun j hj h=>?_⟩ (by omega)
   rcases Nat.lt_or_eq_of_le (Nat.lt_succ_iff.1 hj) with h2|rfl
   ·exact hk2 j h2 h
   ·exact hpk
  ·refine go ?_;intros
   refine ret () trivial ?_
   rw [fidx_hit hh hk2 hpk];rfl
 ·obtain rfl:k=xs.length:=by omega
  refine go ?_;intros
  refine ret () trivial ?_
  rw [fidx_none (fun j hj=>hk2 j hj hj)];rfl
theorem ConPk_f (fid:FuncId) (bd caps:List Value) (A:List Pc) (hA:A.all (fun p=>!p.mu)=true) (xs:List Packet) (a:Option Addr) (c:Nat) (F:List Nat) (p:Packet→Bool) (hb:bodyB Tryz.prog fid=true) (hl:xs.length≤1000000000)
  (hp:∀x∈xs,∀w,Hol A w→Calls Tryz.prog fid (bd++[(.agg #[.int .i64 (x).kind,.int .i64 (x).number,.int .i64 (x).trail,.int .i64 (x).lead,.string (x).data]:Value)]++caps).toArray w fun e w'=>e=.returned (.bool (p x))∧Below w.heap.size w w') :
  Fn Tryz.prog 178 [.slice a xs.length c,.func (.func fid) bd.toArray caps.toArray] (.sl EPacket (.slice a xs.length c) xs F::A) [] (fun (_:Unit)=>True) (fun _=>.bool (xs.any p)) (fun _=>[]):=by
 refine enter Tryz.func178 rfl Tryz.ntmps178 (fun w0=>?_) rfl (by simpa [Pc.mu] using hA) .nil
 refine go ?_;intros
 refine cb (fun w st=>(IdxPk_f fid bd caps A hA xs a c F p hb hl hp).val w (fun q hq=>st.on q (by simpa using hq)) (by simpa [Pc.mu] using hA)) ?_
 refine go ?_;intros
 refine ret () trivial ?_
 rw [fidx_any];rfl
theorem Rhear_f (r:Receiver) (p:Packet) (d:Int) (g t o:Nat) (A B:List Value) (a1:Option Addr) (c1:Nat) (F1:List Nat) (a2:Option Addr) (c2:Nat) (F2:List Nat) (hg:GoodR r) (hp:goodPk p=true) (d0:1≤d) (d1:d≤8) :
  Fn Tryz.prog 263 [ptr g o 0,.agg #[.int .i64 p.kind,.int .i64 p.number,.int .i64 p.trail,.int .i64 p.lead,.string p.data],.int .i64 d] [] [.row g t o A [.bool r.started,.int .i64 r.clock,.int .i64 (r.window).next,.slice a1 (r.window).slots.length c1,.slice a2 (r.requests).length c2] B,.ow ESlot 247 (.slice a1 (r.window).slots.length c1) (r.window).slots F1,.ow ERequest 235 (.slice a2 (r.requests).length c2) (r.requests) F2] (fun (_:NwS)=>True)
   (fun s=>.slice s.ae (hearE r p).length s.ce) (fun s=>[.row g t o A [.bool (hearR r p d).started,.int .i64 (hearR r p d).clock,.int .i64 ((hearR r p d).window).next,.slice s.a1 ((hearR r p d).window).slots.length s.c1,.slice s.a2 ((hearR r p d).requests).length s.c2] B,.ow ESlot 247 (.slice s.a1 ((hearR r p d).window).slots.length s.c1) ((hearR r p d).window).slots s.F1,.ow ERequest 235 (.slice s.a2 ((hearR r p d).requests).length s.c2) ((hearR r p d).requests) s.F2,.ow EStr 9 (.slice s.ae (hearE r p).length s.ce) (hearE r p) s.Fe]):=by
 have k0:=hg.k0
 have k1:=hg.k1
 obtain ⟨-,q1,q2, -⟩:=areQ_iff.1 hg.q
 obtain ⟨n0,n1⟩:=goodPk_num hp
 refine enter Tryz.func263 rfl Tryz.ntmps263 fun w0=>?_
 refine go ?_;intros
 by_cases hk1:p.kind=1
 ·rw [decide_eq_true hk1]
  rw [show hearR r p d=newsR r p d by unfold hearR isNews;simp [hk1],show hearE r p=newsE r p by unfold hearE isNews;simp [hk1]]
  refine go ?_;intros
  refine cf (Rnews_f r p d g t o A B a1 c1 F1 a2 c2 F2 hg hp d0 d1) fun s _=>?_
  refine t_app ?_
  refine go ?_;intros
  refine ret ⟨s.a1,s.c1,s.F1,s.a2,s.c2,s.F2,s.ae,s.ce,s.Fe⟩ trivial rfl
 rw [decide_eq_false hk1]
 refine go ?_;intros
 by_cases hk2:p.kind=2
 ·rw [decide_eq_true hk2]
  rw [show hearR r p d=newsR r p d by unfold hearR isNews;simp [hk2],show hearE r p=newsE r p by unfold hearE isNews;simp [hk2]]
  refine go ?_;intros
  refine cf (Rnews_f r p d g t o A B a1 c1 F1 a2 c2 F2 hg hp d0 d1) fun s _=>?_
  refine t_app ?_
  refine go ?_;intros
  refine ret ⟨s.a1,s.c1,s.F1,s.a2,s.c2,s.F2,s.ae,s.ce,s.Fe⟩ trivial rfl
 rw [decide_eq_false hk2]
 refine go ?_;intros
 by_cases hk5:p.kind=5
 ·rw [decide_eq_true hk5]
  rw [show hearR r p d=newsR r p d by unfold hearR isNews;simp [hk5],show hearE r p=newsE r p by unfold hearE isNews;simp [hk5]]
  refine go ?_;intros
  refine cf (Rnews_f r p d g t o A B a1 c1 F1 a2 c2 F2 hg hp d0 d1) fun s _=>?_
  refine t_app ?_
  refine go ?_;intros
  refine ret ⟨s.a1,s.c1,s.F1,s.a2,s.c2,s.F2,s.ae,s.ce,s.Fe⟩ trivial rfl
 rw [decide_eq_false hk5]
 refine go ?_;intros
 refine t_nilow EStr 9 ?_
 have eE:hearE r p=[]:=by unfold hearE isNews;simp [hk1,hk2,hk5]
 by_cases hk4:p.kind=4
 ·rw [decide_eq_true hk4]
  cases hs:r.started
  ·rw [show hearR r p d=r by unfold hearR isNews;simp [hk1,hk2,hk5,hs],eE,hs]
   refine go ?_;intros
   refine ret ⟨_,_,_,_,_,_,none,0,_⟩ trivial rfl
  ·rw [show hearR r p d=confR r p by unfold hearR isNews;simp [hk4,hs],eE,show (confR r p).started=true from hs]
   refine go ?_;intros
   refine d_start [0,1,2] [0,18,19,20,21,22] ?_
   refine dtp 0 ?_
   refine dtl 1 ?_
   refine dtl 2 ?_
   refine dtl 3 ?_
   refine dtl 4 ?_
   refine dtl 5 ?_
   refine dtl 6 ?_
   refine dtl 7 ?_
   refine dtl 8 ?_
   refine dtl 9 ?_
   refine dtl 10 ?_
   refine dtl 11 ?_
   refine dtl 12 ?_
   refine dtl 13 ?_
   refine dtl 14 ?_
   refine dtl 15 ?_
   refine dN 16 ?_
   refine oC ?_
   refine cfr (fun w st=>by obtain ⟨Fq, -,hq9⟩:=(st.get (p:=.ow ERequest 235 (.slice a2 r.requests.length c2) r.requests F2) (by simp)).2.read;exact ⟨[.sl ERequest (.slice a2 r.requests.length c2) r.requests Fq],hol1 ⟨by decide,hq9⟩,rfl,ConfirmRequest_f r.requests r.window.next p.number r.clock a2 c2 Fq hg.q (isSer_iff.2 ⟨n0,n1⟩) k0 k1⟩) (fun u _=>?_)
   refine dk ?_
   refine dtl 17 ?_
   refine dtp 18 ?_
   refine dtp 19 ?_
   refine dtp 20 ?_
   refine dtp 21 ?_
   refine dN 22 ?_
   refine oS ?_
   refine dkx ?_
   refine dd ?_
   refine go ?_;intros
   refine ret ⟨_,_,_,_,_,_,none,0,_⟩ trivial rfl
 rw [decide_eq_false hk4]
 rw [show hearR r p d=r by unfold hearR isNews;simp [hk1,hk2,hk5,hk4],eE]
 refine go ?_;intros
 refine ret ⟨_,_,_,_,_,_,none,0,_⟩ trivial rfl
structure HaS where
 k:Nat
 a1:Option Addr
 c1:Nat
 F1:List Nat
 a2:Option Addr
 c2:Nat
 F2:List Nat
 ae:Option Addr
 ce:Nat
 Fe:List Nat
section
variable {c:Cx} {fr:Fr} {H:List Pc} {Φ:Gl}
theorem openEntry {v:Value} {x:Entry} {F:List Nat} (h:∀(a1:Option Addr) (c1:Nat) (F1:List Nat),v=.agg #[.int .i64 x.number,.slice a1 x.faces.length c1,.int .i64 x.untl]→x.faces.length≤maxLen→T c fr (.sl EInt (.slice a1 x.faces.length c1) x.faces F1::H) Φ) (hm:.isv EEntry v x F∈H:=by (repeat (first|exact .head _|apply List.Mem.tail));first|done|fail):T c fr H Φ:=.mk fun a w s g=>by
 obtain ⟨cs,rfl,v1,rfl,h1⟩:=s.get hm
 obtain ⟨a1,c1,rfl⟩:=h1.slice;have l1:=h1.len
 have t1:=s.ro (p:=.sl EInt (.slice a1 x.faces.length c1) x.faces F) hm rfl rfl ⟨by decide,h1⟩ fun b hb=>hb
 exact (h a1 c1 F rfl  l1).h a w t1 g
theorem openOEntry {v:Value} {x:Entry} {F:List Nat} {S:List Pc} (h:∀(a1:Option Addr) (c1:Nat) (F1:List Nat),v=.agg #[.int .i64 x.number,.slice a1 x.faces.length c1,.int .i64 x.untl]→x.faces.length≤maxLen→T c fr (.ow EInt 3 (.slice a1 x.faces.length c1) x.faces F1::S) Φ) (hp:Pick H (.own OEntry v x F) S:=by (repeat (first|exact .here|apply Pick.there));first|done|fail):T c fr H Φ:=.mk fun a w s g=>by
 have z1:=s.pick hp
 obtain ⟨hn,cs,rfl,v1,rfl,h1⟩:=z1.on (.own OEntry v x F) (by simp)
 obtain ⟨a1,c1,rfl⟩:=h1.slice;have l1:=h1.len
 refine (h a1 c1 F rfl  l1).h a w (St.turn (M:=[.own OEntry (.agg #[.int .i64 x.number,.slice a1 x.faces.length c1,.int .i64 x.untl]) x _]) (N:=[.ow EInt 3 (.slice a1 x.faces.length c1) x.faces F]) z1 (Keep.refl _ w) ?_ ?_ ?_) g
 ·intro q hq;simp at hq;subst hq;exact ⟨hn,h1⟩
 ·exact ⟨by simp,trivial⟩
 ·intro q hq b hb;simp at hq;subst hq;exact .inr (.inl ⟨_,List.mem_singleton.2 rfl,rfl,hb⟩)
theorem closeOEntry (x:Entry) {a1:Option Addr} {c1:Nat} {F1:List Nat} {S1:List Pc}  (h:T c fr (.own OEntry (.agg #[.int .i64 x.number,.slice a1 x.faces.length c1,.int .i64 x.untl]) x (F1)::S1) Φ) (m1:Pick H (.ow EInt 3 (.slice a1 x.faces.length c1) x.faces F1) S1:=by (repeat (first|exact .here|apply Pick.there));first|done|fail)  : T c fr H Φ:=.mk fun a w s g=>by
 have z1:St c.G c.D c.w0 ([.ow EInt 3 (.slice a1 x.faces.length c1) x.faces F1]++S1) w:=by simpa using (show Picks H [.ow EInt 3 (.slice a1 x.faces.length c1) x.faces F1] S1 from Picks.cons m1 (Picks.nil)).st (X:=[]) (by simpa using s)
 obtain ⟨n1,k1⟩:=z1.on (.ow EInt 3 (.slice a1 x.faces.length c1) x.faces F1) (by simp)
 have hN:=n1
 refine h.h a w (St.turn (M:=[.ow EInt 3 (.slice a1 x.faces.length c1) x.faces F1]) (N:=[.own OEntry (.agg #[.int .i64 x.number,.slice a1 x.faces.length c1,.int .i64 x.untl]) x (F1)]) z1 (Keep.refl _ w) (by intro q hq;simp at hq;subst hq;exact ⟨hN,_,rfl,_,rfl,k1⟩) ⟨by simp,trivial⟩ fun q hq b hb=>?_) g
 simp at hq;subst hq
 simp only [Pc.F,List.mem_append] at hb
 exact .inr (.inl ⟨_,List.mem_singleton.2 rfl,rfl,hb⟩)
theorem atEntry {a:Option Addr} {n cp:Nat} {xs:List Entry} {F:List Nat} (i:Nat) (h:∀(hi:i < xs.length) (b o:Nat) (a1:Option Addr) (c1:Nat) (F1:List Nat),a=some ⟨b,o,none⟩→xs[i].faces.length≤maxLen→T c fr (.cel b (o+i * 3) [.int .i64 xs[i].number,.slice a1 xs[i].faces.length c1,.int .i64 xs[i].untl]::.sl EInt (.slice a1 xs[i].faces.length c1) xs[i].faces F1::H) Φ) (hm:.sl EEntry (.slice a n cp) xs F∈H:=by (repeat (first|exact .head _|apply List.Mem.tail));first|done|fail) (hi:i < xs.length:=by omega):T c fr H Φ:=.mk fun ac w s g=>by
 obtain ⟨b,o,cs,G,ha,hrep,hG,hb,hne,hr⟩:=sl_at (s.get hm) i hi
 obtain ⟨v1,rfl,h1⟩:=hrep
 obtain ⟨a1,c1,rfl⟩:=h1.slice;have l1:=h1.len
 have t1:=s.ro (p:=.sl EInt (.slice a1 xs[i].faces.length c1) xs[i].faces G) hm rfl rfl ⟨by decide,h1⟩ (by intro b hb;simp only [Pc.F] at hb ⊢;exact hG b (by simp [hb]))
 exact (h hi b o a1 c1 G ha  l1).h ac w (t1.ro (List.mem_cons_of_mem _ hm) rfl rfl ⟨hne,hr⟩ (by intro x hx;simp [Pc.F] at hx;subst hx;exact hb)) g
end
structure EcS where
 k:Nat
 a:Option Addr
 c:Nat
 F:List Nat
theorem retV_of {α:Type} {O:Elem α} {P:Program} {f:FuncId} {args:List Value} {x:α} {A:List Pc} (h:Fn P f args A [] (fun (_:Value × List Nat)=>True) (fun z=>z.1) (fun z=>[.own O z.1 x z.2])) (hA:A.all (fun p=>!p.mu)=true) {w:World} (hH:Hol A w):Calls P f args.toArray w (RetV O x w):=by
 refine (h.made w hH (fun _=>rfl) hA).mono ?_
 rintro e w' ⟨z, -,he,hh,hn,hF,hB⟩
 obtain ⟨h1,h2⟩:=hh (.own O z.1 x z.2) (by simp)
 exact ⟨z.1,z.2,he,h2,h1,fun b hb=>hF b (by simpa [fp,Pc.F,Pc.mu] using hb),hB⟩
theorem l14OwnE_f (v:Value) (e:Element) (F:List Nat) (hm:e.entries.length≤4294967296) (hm2:∀x∈e.entries,x.faces.length≤4294967296):Fn Tryz.prog 137 [v] [.isv EElement v e F] [] (fun (_:Value × List Nat)=>True) (fun z=>z.1) (fun z=>[.own OElement z.1 e z.2]):=by
 refine enter Tryz.func137 rfl Tryz.ntmps137 fun w0=>?_
 refine openElement ?_
 rintro a1 c1 F1 rfl l1
 refine t_nilow OEntry 231 ?_
 refine go ?_;intros
 rename_i g
 refine c_loopS [1,2,3] (fun y:EcS=>[(4,.int .i64 (y.k:Nat))]) (fun y=>[.row g 142 0 [] [.int .i64 e.clock,.slice y.a (e.entries.take y.k).length y.c] [],.ow OEntry 231 (.slice y.a (e.entries.take y.k).length y.c) (e.entries.take y.k) y.F]) (fun y=>y.k≤e.entries.length) (fun y=>e.entries.length - y.k) ⟨0,none,0,[]⟩ (Nat.zero_le _) fun y hy0=>?_
 obtain ⟨k,ya,yc,yF⟩:=y
 dsimp only at hy0 ⊢
 have htk:(e.entries.take k).length=k:=by rw [List.length_take];omega
 refine go ?_;intros
 refine c_if rfl (fun h1=>?_) (fun h1=>?_)
 ·have hk:k < e.entries.length:=by omega
  have hfl:=hm2 _ (List.getElem_mem hk)
  refine atEntry (xs:=e.entries) k ?_
  rintro hi b8 o8 a8 c8 F8 e8 l8
  rw [e8]
  refine go ?_;intros
  refine d_start [0,3] [13] ?_
  refine dt4 0 1 2 3 ?_
  refine dt4 4 5 7 8 ?_
  refine dN 6 ?_
  refine oC ?_
  refine cn (fun w st=>l1Own_c _ e.entries[k].faces F8 w (st.get (p:=.sl EInt (.slice a8 e.entries[k].faces.length c8) e.entries[k].faces F8) (by exact memE)).2 (by omega)) fun a9 c9 F9=>?_
  refine closeOEntry e.entries[k] ?_
  refine dk ?_
  refine dt 9 ?_
  refine dN 10 ?_
  apply o_bs;rfl;rfl;rfl;rfl;exact rptE;exact filE;intro _
  refine dk ?_
  refine dN 11 ?_
  refine ap1o one_OEntry e.entries[k] rfl fun x4 d4 G4=>?_
  refine dk ?_
  refine dt 12 ?_
  refine dN 13 ?_
  refine oS ?_
  refine dkx ?_
  refine dd ?_
  rw [←List.take_succ_eq_append_getElem hk]
  refine go ?_;intros
  refine n_lp ⟨k+1,x4,d4,G4⟩ hk (by show e.entries.length - (k+1) < e.entries.length - k;omega)
 ·rw [show e.entries.take k=e.entries from List.take_of_length_le (by omega)]
  refine go ?_;intros
  refine closeOElement e ?_
  refine ret (_,_) trivial rfl
theorem l14Own_c (v:Value) (e:Element) (F:List Nat) (w:World) (h:IsV EElement w v e F) (hm:e.entries.length≤4294967296) (hm2:∀x∈e.entries,x.faces.length≤4294967296):Calls Tryz.prog 137 #[v] w (RetV OElement e w):=retV_of (l14OwnE_f v e F hm hm2) rfl (hol1 h)
def tickElement (e:Element):Element:=⟨e.clock+1,e.entries.filter fun x=>!decide (x.untl≤e.clock+1)⟩
theorem Sl.headIn {α:Type} {E:Elem α} {w:World} {b off n cap:Nat} {xs:List α} {F} (h:Sl E w (.slice (some ⟨b,off,none⟩) n cap) xs F) (k:Nat) (hk:k < xs.length):b∈F:=by
 obtain ⟨a',cap',hv,hl,h⟩:=h
 cases hv
 rcases h with ⟨rfl,_⟩|⟨b,off,F',he,_,rfl,hc⟩
 ·simp at hk
 ·cases he;simp
theorem l14Tick_c (v:Value) (e:Element) (F:List Nat) (w:World) (h:IsV EElement w v e F) (hc:isClk e.clock=true) (hm:e.entries.length≤4294967296) (hm2:∀x∈e.entries,x.faces.length≤4294967296) :
  Calls Tryz.prog 158 #[v] w (RetR EElement (tickElement e) w):=by
 have hcb:=isClk_iff.1 hc
 have hm2:=Lib.hid hm2
 have h0:=h
 obtain ⟨_,rfl,v1,rfl,h1⟩:=h
 obtain ⟨a,cap,rfl⟩:=h1.slice
 have hB0:∀A B:Obj,Below w.heap.size w ((w.alloc A).alloc B):=fun A B=>((Below.refl _ _).alloc (Nat.le_refl _) _).alloc (by simp) _
 go_enter Tryz.func158,Tryz.ntmps158
 go_wp2_with fail
 refine (l14Own_c _ e F _ (h0.below (hB0 _ _)) hm hm2.out).mono ?_
 rintro e' w1 ⟨_,Fo,rfl,⟨_,rfl,v2,rfl,ho⟩,hn,hFo,hb1⟩
 obtain ⟨a2,cap2,rfl⟩:=ho.slice
 have r0:=Row.below (g:=w.heap.size) (t:=142) (cs:=[.int .i64 e.clock,.slice a e.entries.length cap]) (by simp [row_alloc] <;> omega) hb1
 have r1:=Row.below (g:=w.heap.size+1) (t:=142) (cs:=[.int .i64 0,.slice none 0 0]) (by simp [row_alloc] <;> omega) hb1
 obtain ⟨Fr,hFr,hs⟩:=ho.sl weak_Entry
 have hFl:=ho.lt
 have hB:=tr (hB0 _ _) hb1 (Nat.le_refl _)
 have d0:=fun A=>(r0.alloc A).cells
 have c0:=r0.cells
 clear hb1
 go_wp2_with fail
 go_loopw [5] (fun i wr=>∃k:Nat,k≤e.entries.length∧i=.int .i64 k∧∃oa oc F,Hid (Ow EEntry 231 wr (.slice oa ((e.entries.take k).filter fun x=>!decide (x.untl≤e.clock+1)).length oc) ((e.entries.take k).filter fun x=>!decide (x.untl≤e.clock+1)) F)∧Hd F∧(∀b,oa=some b→w1.heap.size+1+1≤b.block)∧(∀c∈F,w.heap.size+2≤c∧c≠w1.heap.size∧c≠w1.heap.size+1) ∧
  Row wr (w.heap.size+1) 142 [.int .i64 0,.slice none 0 0]∧Row wr w1.heap.size 142 [.int .i64 e.clock,.slice a2 e.entries.length cap2]∧Row wr (w1.heap.size+1) 142 [.int .i64 (e.clock+1),.slice oa ((e.entries.take k).filter fun x=>!decide (x.untl≤e.clock+1)).length oc]∧Below w1.heap.size w1 wr) (fun i _=>e.entries.length - (intOf i).toNat)
 case atStart=>exact ⟨0,Nat.zero_le _,rfl,none,0,[],Lib.hid (.inl ⟨rfl,by simp,rfl⟩),Hd.nil,by simp,by simp,(r1.alloc _).alloc _,by simp [row_alloc],by simp [row_alloc],((Below.refl _ _).alloc (Nat.le_refl _) _).alloc (by simp) _⟩
 case round =>
  obtain ⟨k,hk,rfl,oa,oc,F2,hO,hd2,hoa,hF2,hr1,hr2,hr3,hB2⟩:=hrel
  have c1:=hr2.cells;have c2:=hr3.cells;have c4:=hr1.cells;have f4:=hr1.frozens
  by_cases hlt:k < e.entries.length
  ·obtain ⟨b,off,_,F1,rfl,hx,hFx,ja⟩:=(hs.below (by decide) hB2).at k hlt
   obtain ⟨u1,rfl,hf⟩:=id hx
   obtain ⟨fa,fc,rfl⟩:=hf.slice
   have a0:=ja 0 (by decide)
   have a1:=ja 1 (by decide)
   have a2:=ja 2 (by decide)
   simp only [show EEntry.sz=3 from rfl,Nat.add_zero,List.getElem?_cons_zero,List.getElem?_cons_succ] at a0 a1 a2
   clear ja
   by_cases hq:e.entries[k].untl > e.clock+1
   ·have hqf:=Lib.hid (filter_take_yes (q:=fun x:Entry=>!decide (x.untl≤e.clock+1)) hlt (by simp;omega))
    generalize hys:((e.entries.take k).filter fun x=>!decide (x.untl≤e.clock+1))=ys at *
    have hys:=Lib.hid hys
    go_wp2_with fail
    go_quiet (fail)
    go_wp2_with fail
    have D1:=show Row (wr.drewN nq) _ _ _ from hr1
    have D2:=show Row (wr.drewN nq) _ _ _ from hr2
    have D3:=show Row (wr.drewN nq) _ _ _ from hr3
    have DO:=Lib.hid (show Ow EEntry 231 (wr.drewN nq) _ _ _ from hO.out.frame fun _ _=>rfl)
    have DX:EEntry.rep (wr.drewN nq) _ _ _:=EEntry.frame hx fun _ _=>rfl
    have DB:=belowDrewN hB2 nq
    have b0:(wr.drewN nq).cell? ⟨b,off+k * 3,none⟩=_:=a0
    have b1:(wr.drewN nq).cell? ⟨b,off+k * 3+1,none⟩=_:=a1
    have b2:(wr.drewN nq).cell? ⟨b,off+k * 3+2,none⟩=_:=a2
    clear hr1 hr2 hr3 hO hx hf hB2 a0 a1 a2 c1 c2 c4 f4
    generalize wr.drewN nq=w2 at *
    have hbb:=World.block_lt_of_cell? w2 _ b0
    simp only at hbb
    have DBs:=DB.size
    have t3:=fun A=>(D3.alloc A).cells 1;have t0:=D3.cells 1
    have o0:=D2.cells 1
    simp only [List.getElem?_cons_zero,List.getElem?_cons_succ] at t3 t0 o0
    have hyl:ys.length≤4294967295:=by have:=congrArg List.length hys.out;have:=List.length_filter_le (fun x:Entry=>!decide (x.untl≤e.clock+1)) (e.entries.take k);simp at this;omega
    have hA:=(Below.refl w2.heap.size w2).alloc (Nat.le_refl _) (.cells #[.int .i64 e.entries[k].number,.slice fa e.entries[k].faces.length fc,.int .i64 e.entries[k].untl] 231)
    have DOd:=Lib.hid ((DO.out.below hA).frame (w':=(w2.alloc (.cells #[.int .i64 e.entries[k].number,.slice fa e.entries[k].faces.length fc,.int .i64 e.entries[k].untl] 231)).drew) fun _ _=>rfl)
    have DXd:=EEntry.frame (w':=(w2.alloc (.cells #[.int .i64 e.entries[k].number,.slice fa e.entries[k].faces.length fc,.int .i64 e.entries[k].untl] 231)).drew) (EEntry.below DX hA) fun _ _=>rfl
    have E0':=kc hA o0;have E0:(w2.alloc (.cells #[.int .i64 e.entries[k].number,.slice fa e.entries[k].faces.length fc,.int .i64 e.entries[k].untl] 231)).drew.cell? _=_:=E0'
    have E1':=kc hA b0;have E1:(w2.alloc (.cells #[.int .i64 e.entries[k].number,.slice fa e.entries[k].faces.length fc,.int .i64 e.entries[k].untl] 231)).drew.cell? _=_:=E1'
    have E2':=kc hA b1;have E2:(w2.alloc (.cells #[.int .i64 e.entries[k].number,.slice fa e.entries[k].faces.length fc,.int .i64 e.entries[k].untl] 231)).drew.cell? _=_:=E2'
    have E3':=kc hA b2;have E3:(w2.alloc (.cells #[.int .i64 e.entries[k].number,.slice fa e.entries[k].faces.length fc,.int .i64 e.entries[k].untl] 231)).drew.cell? _=_:=E3'
    have nob:∀c∈(Value.slice oa ys.length oc).ownBlock.toList,w1.heap.size+1+1≤c:=fun c hc=>by
     cases oa with
     | none=>simp [Value.ownBlock] at hc
     | some b=>simp [Value.ownBlock] at hc;subst hc;exact hoa b rfl
    have D3a:=show Row (w2.alloc (.cells #[.int .i64 e.entries[k].number,.slice fa e.entries[k].faces.length fc,.int .i64 e.entries[k].untl] 231)).drew _ _ _ from D3.alloc (.cells #[.int .i64 e.entries[k].number,.slice fa e.entries[k].faces.length fc,.int .i64 e.entries[k].untl] 231)
    have hFs:∀c∈F1,c < w1.heap.size:=fun c hc=>hs.lt (by decide) c (hFx c hc)
    have hbw:b < w1.heap.size:=hs.lt (by decide) b (hs.headIn k hlt)
    have hn1:¬b=w1.heap.size+1:=by omega
    have hn2:¬w1.heap.size+1=b:=by omega
    go_region_law (first|((refine step_apd one_EEntry (by decide) (by rfl) _ _ _ (by rfl) 231 (.agg #[.int .i64 0,.slice none 0 0,.int .i64 0]) 40 Tryz.underlying140 info_Entry rfl (.slice oa ys.length oc) ys F2 (by rfl) DOd.out hd2 (some ⟨w2.heap.size,0,none⟩) [e.entries[k]] 1 (by rfl) [.int .i64 e.entries[k].number,.slice fa e.entries[k].faces.length fc,.int .i64 e.entries[k].untl] F1 (Flat.one DXd) (.inr ⟨_,rfl,World.news_of_block (w:=(w2.alloc (.cells #[.int .i64 e.entries[k].number,.slice fa e.entries[k].faces.length fc,.int .i64 e.entries[k].untl] 231)).drew) (heap_alloc_new w2 _)⟩) (fun c hc he=>by have h1:=nob c (by rw [he];simp);have h2:=hFs c hc;omega) (by unfold maxLen;simp;omega) (by simp;omega) ?_);intro v4 w4 F4 hA4;obtain ⟨oa2,oc2,rfl⟩:=hA4.val;have D4:=D3a.keepK hA4.keep1 (fun hm=>by have:=nob _ hm;omega);have t4:=D4.cells 1;have f4:=D4.frozens 1;simp only [List.getElem?_cons_zero,List.getElem?_cons_succ] at t4))
    all_goals
     have hn4:w1.heap.size+1 ∉ F4:=fun hm=>by
      rcases hA4.mem _ hm with h|h|h
      ·exact (hF2 _ h).2.2 rfl
      ·have:=hFs _ h;omega
      ·have:=D3.lt;simp at h;omega
     have P1:=Lib.hid (hA4.ow.setFar (p:=⟨w1.heap.size+1,1,none⟩) hn4 (.slice oa2 (ys.length+1) oc2))
     have L1:=((show Row (w2.alloc (.cells #[.int .i64 e.entries[k].number,.slice fa e.entries[k].faces.length fc,.int .i64 e.entries[k].untl] 231)).drew _ _ _ from D1.alloc (.cells #[.int .i64 e.entries[k].number,.slice fa e.entries[k].faces.length fc,.int .i64 e.entries[k].untl] 231)).keepK hA4.keep1 (fun hm=>by have:=nob _ hm;have:=r1.lt;omega)).setOther (p:=⟨w1.heap.size+1,1,none⟩) (by have:=r1.lt;simp;omega) (.slice oa2 (ys.length+1) oc2)
     have L2:=((show Row (w2.alloc (.cells #[.int .i64 e.entries[k].number,.slice fa e.entries[k].faces.length fc,.int .i64 e.entries[k].untl] 231)).drew _ _ _ from D2.alloc (.cells #[.int .i64 e.entries[k].number,.slice fa e.entries[k].faces.length fc,.int .i64 e.entries[k].untl] 231)).keepK hA4.keep1 (fun hm=>by have:=nob _ hm;omega)).setOther (p:=⟨w1.heap.size+1,1,none⟩) (by simp) (.slice oa2 (ys.length+1) oc2)
     have L3:=D4.set 1 (.slice oa2 (ys.length+1) oc2)
     have hoa2:∀b,oa2=some b→w1.heap.size+1+1≤b.block:=fun c hc=>by
      subst hc
      rcases hA4.same with h|h
      ·simp only [Value.ownBlock] at h;exact nob _ (by cases oa <;> simp_all [Value.ownBlock])
      ·simp [Value.ownBlock] at h;have:=D3.lt;omega
     have hF4:∀c∈F4,w.heap.size+2≤c∧c≠w1.heap.size∧c≠w1.heap.size+1:=fun c hc=>by
      have hs3:=D3.lt
      have hsw:=r1.lt
      rcases hA4.mem _ hc with h|h|h
      ·exact hF2 _ h
      ·have h1:=hFs _ h;have h2:w.heap.size+2≤c:=(by simpa using hFo c (hFr c (hFx c h)));exact ⟨h2,by omega,by omega⟩
      ·simp at h;exact ⟨by omega,by omega,by omega⟩
     have hB5:Below w1.heap.size w1 (w4.setCell ⟨w1.heap.size+1,1,none⟩ (.slice oa2 (ys.length+1) oc2)) :=
      Below.setCell ((belowDrewN (tr DB hA (Nat.le_refl _)) 1).trans (hA4.keep1.below (by simp;omega) (fun b hb=>by have:=nob b hb;omega))) (by simp) _
     have hd4:=hA4.hd
     clear hA4 D1 D2 D3 D4
     go_wp2_with fail
     exact ⟨⟨k+1,by omega,by go_num,oa2,oc2,F4,by rw [hqf.out,List.length_append];exact P1,hd4,hoa2,hF4,L1,L2,by rw [hqf.out,List.length_append];exact L3,hB5⟩,by simp [intOf];omega⟩
   ·have hqf:=Lib.hid (filter_take_no (q:=fun x:Entry=>!decide (x.untl≤e.clock+1)) hlt (by simp;omega))
    generalize hys:((e.entries.take k).filter fun x=>!decide (x.untl≤e.clock+1))=ys at *
    have hys:=Lib.hid hys
    go_wp2_with fail
    go_quiet (fail)
    go_wp2_with fail
    refine ⟨⟨k+1,by omega,by go_num,oa,oc,F2,?_,hd2,hoa,hF2,hr1,hr2,?_,belowDrewN hB2 _⟩,by simp [intOf];omega⟩
    ·rw [hqf.out];exact Lib.hid (hO.out.frame fun _ _=>rfl)
    ·rw [hqf.out];exact hr3
  ·have hk:k=e.entries.length:=by omega
   subst hk
   simp only [List.take_length] at hO hr3 c2
   obtain ⟨F3,hF3,hs3⟩:=hO.out.read
   have hB3:=tr hB hB2 (Nat.le_refl _)
   go_wp2_with fail
   refine bodyPost_ret (v:=.agg #[.int .i64 (e.clock+1),.slice oa (e.entries.filter fun x=>!decide (x.untl≤e.clock+1)).length oc]) ?_ rfl ?_
   ·simp [results,Tryz.results158,go_sem,c4,c2,f4]
   ·refine ⟨_,F3,rfl,⟨_,rfl,_,rfl,?_⟩,fun b hb=>by have:=(hF2 b (hF3 b hb)).1;omega,?_⟩
    ·refine hs3.frame fun b hb=>?_
     have h2:=(hF2 b (hF3 b hb)).1
     rw [Below.heap_setCell _ _ _ _ (by simp;omega),Below.heap_setCell _ _ _ _ (by simp;omega)]
    ·repeat refine Below.setCell ?_ (by simp <;> omega) _
     exact hB3
theorem rising_len {lo hi:Int} {zs:List Int} (h:rising lo hi zs=true):(zs.length:Int)≤hi - lo+1∨zs=[]:=by
 by_cases h0:zs=[]
 ·exact .inr h0
 ·left
  have key:∀i (hi':i < zs.length),lo+i≤zs[i]∧zs[i]≤hi:=by
   intro i
   induction i with
   | zero =>
    intro hi'
    have:=allUpTo_get h 0 hi'
    rw [risAt_zero hi'] at this
    simp [btw] at this
    simpa using this
   | succ i ih =>
    intro hi'
    have:=allUpTo_get h (i+1) hi'
    rw [risAt_succ hi'] at this
    have:=ih (by omega)
    simp [btw] at *
    omega
  have hp:=List.length_pos_iff.2 h0
  have:=key (zs.length - 1) (by omega)
  omega
theorem good_room {e:Element} (h:goodElement e=true):isClk e.clock=true∧e.entries.length≤5∧∀x∈e.entries,x.faces.length≤7:=by
 unfold goodElement at h
 simp only [Bool.and_eq_true,decide_eq_true_eq] at h
 refine ⟨h.1.1,h.1.2,fun x hx=>?_⟩
 obtain ⟨i,hi,rfl⟩:=List.getElem_of_mem hx
 have:=allUpTo_get h.2 i hi
 rw [entAt_of hi] at this
 simp [okEntry] at this
 rcases rising_len this.1.2.2.1 with h|h
 ·omega
 ·rw [h];simp
def placeI (l:List Int) (n:Int):Nat:=(l.takeWhile fun x=>decide (x < n)).length
def putI (l:List Int) (n:Int):List Int:=if l[placeI l n]?=some n then l else l.take (placeI l n)++n::l.drop (placeI l n)
def atE (e:Element) (n:Int):Nat:=e.entries.findIdx fun x=>x.number == n
def reqE (e:Element) (n f:Int):Element:=match e.entries[atE e n]? with
 | some x=>⟨e.clock,e.entries.set (atE e n) ⟨x.number,putI x.faces f,x.untl⟩⟩
 | none=>if e.entries.length < 5 then ⟨e.clock,e.entries++[⟨n,[f],e.clock+6⟩]⟩ else e
def fwdE (e:Element) (n:Int):Bool:=!e.entries.any fun x=>x.number == n
def repE (e:Element) (n:Int):Element:=match e.entries[atE e n]? with
 | some _=>⟨e.clock,e.entries.take (atE e n)++e.entries.drop (atE e n+1)⟩
 | none=>e
def facE (e:Element) (n:Int) (below:List Int):List Int:=match e.entries[atE e n]? with
 | some x=>x.faces.filter fun f=>decide (f∈below)
 | none=>if e.entries.length=5 then below else []
theorem findE_or (e:Element) (n:Int):(∃(h:atE e n < e.entries.length),fidx (fun x=>x.number == n) e.entries=(atE e n:Nat)∧e.entries[atE e n].number=n∧fwdE e n=false)∨(fidx (fun x=>x.number == n) e.entries=-1∧e.entries[atE e n]?=none∧fwdE e n=true∧∀x∈e.entries,x.number≠n):=by
 cases h:e.entries.any fun x=>x.number == n
 ·right
  have h':=List.any_eq_false.1 h
  refine ⟨by unfold fidx;rw [h];rfl,?_,by simp [fwdE,h],fun x hx=>by have:=h' x hx;simpa using this⟩
  have:atE e n=e.entries.length:=List.findIdx_eq_length.2 (fun x hx=>by have:=h' x hx;simpa using this)
  rw [this];simp
 ·left
  have h2:atE e n < e.entries.length:=by
   obtain ⟨x,hx,hp⟩:=List.any_eq_true.1 h
   exact List.findIdx_lt_length_of_exists ⟨x,hx,hp⟩
  refine ⟨h2,by unfold fidx;rw [h];rfl,?_,by simp [fwdE,h]⟩
  have:(e.entries[atE e n].number == n)=true:=List.findIdx_getElem (p:=fun x:Entry=>x.number == n) (xs:=e.entries) (w:=h2)
  simpa using this
theorem rising_pw {lo hi:Int} {zs:List Int} (h:rising lo hi zs=true):zs.Pairwise (· < ·)∧∀z∈zs,lo≤z∧z≤hi:=by
 have hb:∀i (hi':i < zs.length),lo≤zs[i]∧zs[i]≤hi:=fun i hi'=>by
  have:=allUpTo_get h i hi'
  unfold risAt btw at this
  simp only [Bool.and_eq_true,decide_eq_true_eq] at this
  rw [List.getD_eq_getElem?_getD,List.getElem?_eq_getElem hi'] at this
  simpa using this.1
 refine ⟨?_,fun z hz=>by obtain ⟨i,hi',rfl⟩:=List.getElem_of_mem hz;exact hb i hi'⟩
 have step:∀i (hi:i+1 < zs.length),zs[i] < zs[i+1]:=fun i hi'=>by
  have:=allUpTo_get h (i+1) hi'
  rw [risAt_succ hi'] at this
  simp only [Bool.and_eq_true,decide_eq_true_eq] at this
  exact this.2
 refine List.pairwise_iff_getElem.2 fun i j hi' hj hij=>?_
 obtain ⟨d,rfl⟩:∃d,j=i+1+d:=⟨j - i - 1,by omega⟩
 clear hij
 induction d with
 | zero=>exact step i hj
 | succ d ih=>exact Int.lt_trans (ih (by omega)) (step (i+1+d) hj)
theorem pw_rising {lo hi:Int} {zs:List Int} (h1:zs.Pairwise (· < ·)) (h2:∀z∈zs,lo≤z∧z≤hi):rising lo hi zs=true:=by
 unfold rising
 refine allUpTo_yes fun i hi'=>?_
 have hb:=h2 zs[i] (List.getElem_mem hi')
 cases i with
 | zero=>rw [risAt_zero hi'];simp [btw,hb]
 | succ i =>
  rw [risAt_succ hi']
  have:=List.pairwise_iff_getElem.1 h1 i (i+1) (by omega) hi' (by omega)
  simp [btw,hb,this]
theorem pw_ext:∀{a b:List Int},a.Pairwise (· < ·)→b.Pairwise (· < ·)→(∀x,x∈a↔x∈b)→a=b
 | [],[],_,_,_=>rfl
 | [],y::b,_,_,h=>absurd ((h y).2 (by simp)) (by simp)
 | x::a,[],_,_,h=>absurd ((h x).1 (by simp)) (by simp)
 | x::a,y::b,h1,h2,h=>by
  have a1:=List.pairwise_cons.1 h1
  have b1:=List.pairwise_cons.1 h2
  have e:x=y:=by
   rcases List.mem_cons.1 ((h x).1 (by simp)) with e|m
   ·exact e
   ·rcases List.mem_cons.1 ((h y).2 (by simp)) with e|m2
    ·exact e.symm
    ·have:=b1.1 x m;have:=a1.1 y m2;omega
  subst e
  congr 1
  refine pw_ext a1.2 b1.2 fun z=>⟨fun hz=>?_,fun hz=>?_⟩
  ·rcases List.mem_cons.1 ((h z).1 (by simp [hz])) with e|m
   ·have:=a1.1 z hz;omega
   ·exact m
  ·rcases List.mem_cons.1 ((h z).2 (by simp [hz])) with e|m
   ·have:=b1.1 z hz;omega
   ·exact m
theorem filter_swap {a b:List Int} (h1:a.Pairwise (· < ·)) (h2:b.Pairwise (· < ·)):(a.filter fun f=>decide (f∈b))=b.filter fun f=>decide (f∈a) :=
 pw_ext (h1.filter _) (h2.filter _) fun x=>by simp [and_comm]
theorem find1_f (x:Entry) (gb:Nat) (n:Int) (u:Value) (G:List Nat):Fn Tryz.prog 323 [u,ptr gb 0 0] [.isv EEntry u x G,.cel gb 0 [.int .i64 n]] [] (fun (_:Unit)=>True) (fun _=>.bool (x.number == n)) (fun _=>[]):=by
 refine enter Tryz.func323 rfl Tryz.ntmps323 fun w0=>?_
 refine openEntry ?_
 rintro a1 c1 F1 rfl l1
 refine go ?_;intros
 refine ret () trivial ?_
 rfl
theorem Efind_f (e:Element) (n:Int) (v:Value) (F:List Nat):Fn Tryz.prog 302 [v,.int .i64 n] [.isv EElement v e F] [] (fun (_:Unit)=>True) (fun _=>.int .i64 (fidx (fun x=>x.number == n) e.entries)) (fun _=>[]):=by
 refine enter Tryz.func302 rfl Tryz.ntmps302 fun w0=>?_
 refine openElement ?_
 rintro a1 c1 F1 rfl l1
 refine go ?_;intros
 rename_i gb
 refine cb (fun w st=>IndexFunc_Entry _ (body_of (by kernel_rfl)) #[ptr gb 0 0] _ e.entries _ (fun x=>x.number == n) w (st.get (p:=.sl EEntry (.slice a1 e.entries.length c1) e.entries F1) (by simp)).2 (fun k hk wr u G hB hu=>(find1_f e.entries[k] gb n u G).val wr (hol2 hu ⟨by simp,row_range ((st.below hB).get (p:=.row gb 3 0 [] [.int .i64 n] []) (by simp))⟩))) ?_
 refine go ?_;intros
 refine ret () trivial rfl
theorem l14Find_f (e:Element) (n:Int) (v:Value) (F:List Nat):Fn Tryz.prog 230 [v,.int .i64 n] [.isv EElement v e F] [] (fun (_:Unit)=>True) (fun _=>.int .i64 (fidx (fun x=>x.number == n) e.entries)) (fun _=>[]):=by
 refine enter Tryz.func230 rfl Tryz.ntmps230 fun w0=>?_
 refine openElement ?_
 rintro a1 c1 F1 rfl l1
 unfold maxLen at l1
 refine go ?_;intros
 refine c_loopR [1,2,4] (fun k:Nat=>[(5,.int .i64 (k:Nat))]) (fun k=>k≤e.entries.length∧∀j (_:j < k) (hj:j < e.entries.length),(e.entries[j].number == n)=false) (fun k=>e.entries.length - k) 0 ⟨Nat.zero_le _,fun j h=>by omega⟩ fun k hk=>?_
 obtain ⟨hk1,hk2⟩:=hk
 refine go ?_;intros
 refine c_if rfl (fun h1=>?_) (fun h1=>?_)
 ·have hh:k < e.entries.length:=by omega
  refine go ?_;intros
  refine atEntry (xs:=e.entries) k ?_
  rintro hi b o a3 c3 F3 e1 l3
  rw [e1]
  refine go ?_;intros
  refine c_if rfl (fun h2=>?_) (fun h2=>?_)
  ·refine go ?_;intros
   refine ret () trivial ?_
   rw [fidx_hit hh hk2 (by simpa using h2)];rfl
  ·refine go ?_;intros
   refine n_lp (k+1) ⟨hh,fun j hj hl=>?_⟩ (by omega)
   rcases Nat.lt_or_eq_of_le (Nat.lt_succ_iff.1 hj) with h|rfl
   ·exact hk2 j h hl
   ·simpa using h2
 ·obtain rfl:k=e.entries.length:=by omega
  refine go ?_;intros
  refine ret () trivial ?_
  rw [fidx_none (fun j hj=>hk2 j hj hj)];rfl
theorem l1Has_f (l:List Int) (n:Int) (a:Option Addr) (c:Nat) (F:List Nat):Fn Tryz.prog 231 [.slice a l.length c,.int .i64 n] [.sl EInt (.slice a l.length c) l F] [] (fun (_:Unit)=>True) (fun _=>.bool (decide (n∈l))) (fun _=>[]):=by
 refine enter Tryz.func231 rfl Tryz.ntmps231 fun w0=>?_
 refine t_sl (xs:=l) ?_
 rintro _ _ _ l2 l3
 refine go ?_;intros
 refine c_loopR [0,1,4] (fun k:Nat=>[(5,.int .i64 (k:Nat))]) (fun k=>k≤l.length∧n ∉ l.take k) (fun k=>l.length - k) 0 ⟨Nat.zero_le _,by simp⟩ fun k hk=>?_
 obtain ⟨hk1,hk2⟩:=hk
 refine go ?_;intros
 refine c_if rfl (fun h1=>?_) (fun h1=>?_)
 ·have hh:k < l.length:=by omega
  refine go ?_;intros
  refine at_int (xs:=l) k ?_
  rintro hi b o e1
  rw [e1]
  refine go ?_;intros
  refine c_if rfl (fun h2=>?_) (fun h2=>?_)
  ·refine go ?_;intros
   refine ret () trivial ?_
   rw [decide_eq_true (h2▸List.getElem_mem hh:n∈l)];rfl
  ·refine go ?_;intros
   refine n_lp (k+1) ⟨hh,fun hm=>?_⟩ (by omega)
   rw [List.take_add_one,List.getElem?_eq_getElem hh] at hm
   rcases List.mem_append.1 hm with h|h
   ·exact hk2 h
   ·simp at h;exact h2 h.symm
 ·obtain rfl:k=l.length:=by omega
  rw [List.take_length] at hk2
  refine go ?_;intros
  refine ret () trivial ?_
  rw [decide_eq_false hk2];rfl
theorem cNaN_f (n:Int):Fn Tryz.prog 346 [.int .i64 n] [] [] (fun (_:Unit)=>True) (fun _=>.bool false) (fun _=>[]):=by
 refine enter Tryz.func346 rfl Tryz.ntmps346 fun w0=>?_
 refine go ?_;intros
 refine ret () trivial ?_
 simp [tup]
theorem sNaN_f (n:Int):Fn Tryz.prog 330 [.int .i64 n] [] [] (fun (_:Unit)=>True) (fun _=>.bool false) (fun _=>[]):=by
 refine enter Tryz.func330 rfl Tryz.ntmps330 fun w0=>?_
 refine go ?_;intros
 refine ret () trivial ?_
 simp [tup]
theorem cLess_f (a b:Int):Fn Tryz.prog 329 [.int .i64 a,.int .i64 b] [] [] (fun (_:Unit)=>True) (fun _=>.bool (decide (a < b))) (fun _=>[]):=by
 refine enter Tryz.func329 rfl Tryz.ntmps329 fun w0=>?_
 refine go ?_;intros
 refine cf (cNaN_f a) fun _ _=>?_
 refine t_app ?_
 refine go ?_;intros
 refine ret () trivial rfl
def atPl (l:List Int) (n:Int):Bool:=decide (l[placeI l n]?=some n)
theorem placeI_eq {l:List Int} {n:Int} {k:Nat} (h1:k≤l.length) (h2:∀j (_:j < k) (h:j < l.length),l[j] < n) (h3:∀h:k < l.length,¬l[k] < n):placeI l n=k:=tw_len h1 (fun j hj h=>by simpa using h2 j hj h) (fun h=>by simpa using h3 h)
theorem bsInt_f (xs:List Int) (n:Int) (a:Option Addr) (c:Nat) (F:List Nat) (hs:xs.Pairwise (· < ·)) (hl:xs.length≤1000000):Fn Tryz.prog 309 [.slice a xs.length c,.int .i64 n] [.sl EInt (.slice a xs.length c) xs F] [] (fun (_:Unit)=>True) (fun _=>.tuple #[.int .i64 (placeI xs n:Nat),.bool (atPl xs n)]) (fun _=>[]):=by
 have hm:=List.pairwise_iff_getElem.1 hs
 refine enter Tryz.func309 rfl Tryz.ntmps309 fun w0=>?_
 refine go ?_;intros
 refine c_loopR [0,1,4,5,6] (fun s:Nat × Nat=>[(7,.int .i64 (s.1:Nat)),(8,.int .i64 (s.2:Nat))]) (fun s=>s.1≤s.2∧s.2≤xs.length∧(∀j (_:j < s.1) (h:j < xs.length),xs[j] < n)∧(∀j (_:s.2≤j) (h:j < xs.length),¬xs[j] < n)) (fun s=>s.2 - s.1) (0,xs.length) ⟨Nat.zero_le _,Nat.le_refl _,fun j h=>by omega,fun j h1 h2=>by omega⟩ fun s hs=>?_
 obtain ⟨i,j⟩:=s
 obtain ⟨h1,h2,h3,h4⟩:=hs
 dsimp only at h1 h2 h3 h4 ⊢
 refine go ?_;intros
 refine c_if rfl (fun h5=>?_) (fun h5=>?_)
 ·have hh:(i+j) / 2 < xs.length:=by omega
  have e2:((i:Int)+(j:Int)) / 2=(((i+j) / 2:Nat):Int):=by omega
  refine go ?_;intros
  apply wO;apply oc;rfl;exact yd_cvu rfl (by omega) (by omega)
  refine go ?_;intros
  apply wO;apply oc;rfl;exact yd_shr1 rfl
  rw [e2]
  apply wO;apply oc;rfl;exact yd_cv rfl (by omega) (by omega)
  generalize hq:(i+j) / 2=q at hh
  refine go ?_;intros
  refine at_int (xs:=xs) q ?_
  rintro hi b o e
  rw [e]
  refine go ?_;intros
  refine cf (cLess_f _ _) fun _ _=>?_
  refine t_app ?_
  refine go ?_;intros
  refine c_if rfl (fun h6=>?_) (fun h6=>?_)
  ·refine go ?_;intros
   refine t_drop ?_
   refine n_lp (hH:=hsub_refl _) (q+1,j) ⟨by show q+1≤j;omega,h2,fun k hk h=>?_,h4⟩ (by show j - (q+1) < j - i;omega)
   rcases Nat.lt_or_eq_of_le (Nat.lt_succ_iff.1 (show k < q+1 from hk)) with hk|rfl
   ·have:=hm k q h hh hk;omega
   ·exact h6
  ·refine go ?_;intros
   refine t_drop ?_
   refine n_lp (hH:=hsub_refl _) (i,q) ⟨by show i≤q;omega,by show q≤xs.length;omega,h3,fun k hk h hn=>h6 ?_⟩ (by show q - i < j - i;omega)
   rcases Nat.lt_or_eq_of_le (show q≤k from hk) with hk|rfl
   ·have:=hm q k hh h hk;omega
   ·exact hn
 ·have hij:i=j:=by omega
  subst hij
  have hk:placeI xs n=i:=placeI_eq h2 h3 (fun h=>h4 i (Nat.le_refl _) h)
  unfold atPl
  rw [hk]
  refine go ?_;intros
  refine wg_if rfl rfl (fun h6=>?_) (fun h6=>?_)
  ·have hh:i < xs.length:=by omega
   rw [List.getElem?_eq_getElem hh]
   refine go ?_;intros
   refine at_int (xs:=xs) i ?_
   rintro hi b o e
   rw [e]
   refine go ?_;intros
   refine wg_if rfl rfl (fun h7=>?_) (fun h7=>?_)
   ·refine go ?_;intros
    refine ret () trivial ?_
    rw [decide_eq_true (by simpa using h7)];rfl
   ·refine go ?_;intros
    refine cf (sNaN_f _) fun _ _=>?_
    refine t_app ?_
    refine go ?_;intros
    refine ret () trivial ?_
    rw [decide_eq_false (by simpa using h7)];rfl
  ·refine go ?_;intros
   refine ret () trivial ?_
   rw [List.getElem?_eq_none (by omega)];rfl
theorem idxI_f (xs:List Int) (n:Int) (a:Option Addr) (c:Nat) (F:List Nat):Fn Tryz.prog 271 [.slice a xs.length c,.int .i64 n] [.sl EInt (.slice a xs.length c) xs F] [] (fun (_:Unit)=>True) (fun _=>.int .i64 (fidx (fun x=>x == n) xs)) (fun _=>[]):=by
 refine enter Tryz.func271 rfl Tryz.ntmps271 fun w0=>?_
 refine t_sl (xs:=xs) ?_
 rintro _ _ - l2 l3
 refine go ?_;intros
 refine c_loopR [0,1,4,7] (fun k:Nat=>[(8,.int .i64 (k:Nat))]) (fun k=>k≤xs.length∧∀j (_:j < k) (hj:j < xs.length),(xs[j] == n)=false) (fun k=>xs.length - k) 0 ⟨Nat.zero_le _,fun j h=>by omega⟩ fun k hk=>?_
 obtain ⟨hk1,hk2⟩:=hk
 refine go ?_;intros
 refine c_if rfl (fun h1=>?_) (fun h1=>?_)
 ·have hh:k < xs.length:=by omega
  refine go ?_;intros
  refine at_int (xs:=xs) k ?_
  rintro hi b o e1
  rw [e1]
  refine go ?_;intros
  refine c_if rfl (fun h2=>?_) (fun h2=>?_)
  ·refine go ?_;intros
   refine ret () trivial ?_
   rw [fidx_hit hh hk2 (by simpa using h2.symm)];rfl
  ·refine go ?_;intros
   refine n_lp (k+1) ⟨hh,fun j hj hl=>?_⟩ (by omega)
   rcases Nat.lt_or_eq_of_le (Nat.lt_succ_iff.1 hj) with h|rfl
   ·exact hk2 j h hl
   ·simpa using fun e=>h2 e.symm
 ·obtain rfl:k=xs.length:=by omega
  refine go ?_;intros
  refine ret () trivial ?_
  rw [fidx_none (fun j hj=>hk2 j hj hj)];rfl
theorem any_mem (l:List Int) (n:Int):(l.any fun x=>x == n)=decide (n∈l):=by
 rw [Bool.eq_iff_iff,List.any_eq_true,decide_eq_true_eq]
 exact ⟨fun ⟨x,hx,h⟩=>by simp at h;exact h▸hx,fun h=>⟨n,h,by simp⟩⟩
theorem conI_f (xs:List Int) (n:Int) (a:Option Addr) (c:Nat) (F:List Nat):Fn Tryz.prog 204 [.slice a xs.length c,.int .i64 n] [.sl EInt (.slice a xs.length c) xs F] [] (fun (_:Unit)=>True) (fun _=>.bool (decide (n∈xs))) (fun _=>[]):=by
 refine enter Tryz.func204 rfl Tryz.ntmps204 fun w0=>?_
 refine go ?_;intros
 refine cf (idxI_f xs n _ _ F) fun _ _=>?_
 refine t_app ?_
 refine go ?_;intros
 refine ret () trivial ?_
 rw [fidx_any,any_mem];rfl
theorem rep1_Int (y:Int) (w:World):Flat EInt w [.int .i64 y] [y] []:=⟨_,[],[],[],by simp,by simp,⟨rfl,rfl⟩,rfl,rfl⟩
theorem InsInt_f (xs:List Int) (y:Int) (i:Nat) (a:Option Addr) (c vb:Nat) (F:List Nat) (hi:i≤xs.length) (hl:xs.length≤1000000) :
  Fn Tryz.prog 310 [.slice a xs.length c,.int .i64 i,.slice (some ⟨vb,0,none⟩) 1 1] [] [.ow EInt 3 (.slice a xs.length c) xs F,.row vb 3 0 [] [.int .i64 y] []] (fun (_:Option Addr × Nat × List Nat)=>True)
   (fun z=>.slice z.1 (xs.take i++y::xs.drop i).length z.2.1) (fun z=>[.ow EInt 3 (.slice z.1 (xs.take i++y::xs.drop i).length z.2.1) (xs.take i++y::xs.drop i) z.2.2]):=by
 have hone:∀w':World,∀cs:List Value,Flat EInt w' cs xs []→∀u∈cs,u.oneCell'=true:=fun w' cs h=>h.one' one_EInt
 have hy:=rep1_Int y
 have h1y:∀u∈([.int .i64 y]:List Value),u.oneCell'=true:=by intro u hu;simp at hu;rcases hu with rfl|rfl|rfl|rfl <;> rfl
 refine enter Tryz.func310 rfl Tryz.ntmps310 fun w0=>?_
 refine t_cap (E:=EInt) fun hc1 hc2=>?_
 refine go ?_;intros
 apply wO
 refine o_slany rfl rfl rfl rfl hi (fun _=>?_) hc1
 refine go ?_;intros
 refine c_if rfl (fun h1=>?_) (fun h1=>?_)
 ·have hin:i=xs.length:=by omega
  subst hin
  have e:xs.take xs.length++y::xs.drop xs.length=xs++[y]:=by simp
  refine go ?_;intros
  apply wO
  refine ap1 hy one_EInt fun a2 c2 F2=>?_
  rw [e]
  refine go ?_;intros
  refine ret (a2,c2,F2) trivial rfl
 ·have hlt:i < xs.length:=by omega
  refine t_rowof (xs:=xs) scal_EInt (by rintro rfl;simp at hlt) ?_
  rintro g cs rest rfl - - - hcl hcr hfl
  rw [show EInt.sz=1 from rfl] at hcl hcr
  have h1c:=hone w0 cs (hfl w0)
  obtain ⟨A,B,hcs,hA,hB⟩:∃A B,cs=A++B∧A=cs.take (i * 1)∧B=cs.drop (i * 1):=⟨_,_,(List.take_append_drop _ _).symm,rfl,rfl⟩
  have hAl:A.length=i * 1:=by rw [hA,List.length_take];omega
  have hBl:B.length=(xs.length - i) * 1:=by rw [hB,List.length_drop];omega
  have hins:∀w,Flat EInt w (A++[.int .i64 y]++B) (xs.take i++y::xs.drop i) []:=fun w=>by rw [hA,hB];exact (hfl w).insL (hy w) i hi
  have h1A:∀u∈A,u.oneCell'=true:=fun u hu=>h1c u (by rw [hcs];simp [hu])
  have h1B:∀u∈B,u.oneCell'=true:=fun u hu=>h1c u (by rw [hcs];simp [hu])
  have hlen:(xs.take i++y::xs.drop i).length=xs.length+1:=by simp;omega
  clear hA hB hfl hone
  subst hcs
  have eA:A=((A++B++rest).drop 0).take (i * 1):=by rw [List.drop_zero,List.append_assoc,List.take_left' hAl]
  have eB:B=((A++B++rest).drop (0+i * 1)).take ((xs.length - i) * 1):=by rw [Nat.zero_add,List.append_assoc,List.drop_left' hAl,List.take_left' hBl]
  rw [hlen]
  refine go ?_;intros
  apply wO;apply oc;rfl;exact yd_cap rfl
  refine go ?_;intros
  refine c_if rfl (fun h2=>?_) (fun h2=>?_)
  ·refine go ?_;intros
   apply wO;apply oc;rfl;exact yd_slt (i:=i) rfl rfl rfl (by omega) (by omega)
   refine go ?_;intros
   apply wO
   refine o_apgz (k:=xs.length+1 - i) (olds:=A) rfl rfl rfl (by omega) (src_row (m:=i * 1) (.head _) eA) (by omega) (by decide) (by omega) (by omega) (by omega) (by omega) fun g' cp' Z rest' h3 h4 h5 h6=>?_
   rw [show i+(xs.length+1 - i)=xs.length+1 by omega] at h3 ⊢
   obtain ⟨Z1,Z2,rfl,hZ1,hZ2⟩:∃Z1 Z2,Z=Z1++Z2∧Z1.length=1∧Z2.length=B.length:=⟨Z.take 1,Z.drop 1,(List.take_append_drop _ _).symm,by rw [List.length_take];omega,by rw [List.length_drop];omega⟩
   refine go ?_;intros
   apply wO;apply oc;rfl;exact yd_slv (i:=i) rfl rfl rfl (by omega) (by omega) (by omega)
   refine go ?_;intros
   apply wO
   refine o_cpy (cs:=[.int .i64 y]) (L':=A++[.int .i64 y]++(Z2++rest')) rfl rfl rfl (src_row (L:=[.int .i64 y]) (o:=0) (m:=1) (by exact memE) rfl) .here (cpyM (M:=Z1) (by simp [List.append_assoc]) (by omega) (by simpa using hZ1)) (by show 1=min 1 (xs.length+1 - i) * 1;omega) (by simp only [List.length_append,List.length_cons,List.length_nil];omega) h1y ?_
   refine go ?_;intros
   refine d_start [] [] ?_
   refine dt4 0 1 2 3 ?_
   refine dt 4 ?_ (hy:=yd_slv (i:=i+1) rfl rfl (by omega) (by omega) (by omega) (by omega))
   refine dt2 5 6 ?_
   refine dt 7 ?_ (hy:=yd_slv (i:=i) rfl rfl (by omega) (by omega) (by omega) (by omega))
   refine dN 8 ?_
   refine o_cpy (cs:=B) (L':=A++[.int .i64 y]++B++rest') rfl rfl rfl (src_row (by exact memE) eB) .here (cpyM (P:=A++[.int .i64 y]) (M:=Z2) (by simp [List.append_assoc]) (by simp only [List.length_append,List.length_cons,List.length_nil];omega) hZ2) (by rw [hBl];congr 1;show _=min (xs.length - i) (xs.length+1 - (i+1));omega) (by simp only [List.length_append,List.length_cons,List.length_nil];omega) h1B ?_
   refine dk ?_
   refine dd ?_
   refine t_owof (cs:=A++[.int .i64 y]++B) (rest:=rest') (xs:=xs.take i++y::xs.drop i) cp' rfl hins (by omega) h4 (by rw [show EInt.sz=1 from rfl];simp only [List.length_append,List.length_cons,List.length_nil] at h6 ⊢;omega) ?_
   rw [hlen]
   refine go ?_;intros
   refine ret (_,cp',[g']) trivial rfl
  ·have hcx:xs.length+1≤c:=by omega
   obtain ⟨X,Y,hXY,hX,hY⟩:=shiftL (B:=B) (R:=rest) 1 (by omega)
   refine go ?_;intros
   apply wO;apply oc;rfl;exact yd_slt (i:=xs.length+1) rfl rfl (by omega) (by omega) (by omega)
   refine go ?_;intros
   apply wO;apply oc;rfl;exact yd_slv (i:=i+1) rfl rfl (by omega) (by omega) (by omega) (by omega)
   refine goN ?_;intros
   apply wO
   refine o_ext rfl evsE (ovl (tS:=22) (tR:=4) (run_callFunc_extern Tryz.func331 (by kernel_rfl) (by kernel_rfl) (by kernel_rfl) (e:=Extern.SlicesOverlaps.overlaps #[22,22] #[4]) (by kernel_rfl)) (.there .here) (.head _) (by intro e;have:=congrArg List.length e;simp only [List.length_append,List.length_nil] at this;omega)) ?_
   refine go ?_;intros
   refine d_start [] [] ?_
   refine dt4 0 1 2 3 ?_
   refine dt 4 ?_ (hy:=yd_slv (i:=i+1) rfl rfl (by omega) (by omega) (by omega) (by omega))
   refine dt2 5 6 ?_
   refine dt 7 ?_ (hy:=yd_slv (i:=i) rfl rfl (by omega) (by omega) (by omega) (by omega))
   refine dN 8 ?_
   refine o_cpy (cs:=B) (L':=A++X++B++rest.drop 1) rfl rfl rfl (src_row (by exact memE) eB) .here (cpyM (P:=A++X) (M:=Y) (by rw [List.append_assoc A B rest,hXY];simp [List.append_assoc]) (by simp only [List.length_append];omega) hY) (by rw [hBl];congr 1;show _=min (xs.length+1 - i) (xs.length+1 - (i+1));omega) (by simp only [List.length_append];omega) h1B ?_
   refine dk ?_
   refine dd ?_
   refine go ?_;intros
   apply wO;apply oc;rfl;exact yd_slv (i:=i) rfl rfl rfl (by omega) (by omega) (by omega)
   refine go ?_;intros
   apply wO
   refine o_cpy (cs:=[.int .i64 y]) (L':=A++[.int .i64 y]++(B++rest.drop 1)) rfl rfl rfl (src_row (L:=[.int .i64 y]) (o:=0) (m:=1) (by exact memE) rfl) .here (cpyM (M:=X) (by simp [List.append_assoc]) (by omega) (by simpa using hX)) (by show 1=min 1 (xs.length+1 - i) * 1;omega) (by simp only [List.length_append,List.length_cons,List.length_nil];omega) h1y ?_
   refine go ?_;intros
   refine t_owof (L:=A++[.int .i64 y]++(B++rest.drop 1)) (cs:=A++[.int .i64 y]++B) (rest:=rest.drop 1) (xs:=xs.take i++y::xs.drop i) c (by simp [List.append_assoc]) hins (by omega) (by omega) (by rw [show EInt.sz=1 from rfl];simp only [List.length_append,List.length_cons,List.length_nil,List.length_drop];omega) ?_
   rw [hlen]
   refine ret (_,c,[g]) trivial rfl
theorem rep_i (n:Int) (w:World):Flat EInt w [.int .i64 n] [n] []:=⟨_,[],[],[],by simp,by simp,⟨rfl,rfl⟩,rfl,rfl⟩
theorem placeI_le (l:List Int) (n:Int):placeI l n≤l.length:=(tw_spec (p:=fun x=>decide (x < n)) (xs:=l)).1
structure PutS where
 a:Option Addr
 c:Nat
 F:List Nat
theorem l1Put_f (l:List Int) (n:Int) (a:Option Addr) (c:Nat) (F:List Nat) (hl:l.length≤1000000):Fn Tryz.prog 234 [.slice a l.length c,.int .i64 n] [] [.ow EInt 3 (.slice a l.length c) l F] (fun (_:PutS)=>True) (fun s=>.slice s.a (putI l n).length s.c) (fun s=>[.ow EInt 3 (.slice s.a (putI l n).length s.c) (putI l n) s.F]):=by
 refine enter Tryz.func234 rfl Tryz.ntmps234 fun w0=>?_
 refine go ?_;intros
 refine c_loopR [0,1,4] (fun k:Nat=>[(5,.int .i64 (k:Nat))]) (fun k=>k≤l.length∧∀j (_:j < k) (hj:j < l.length),l[j] < n) (fun k=>l.length - k) 0 ⟨Nat.zero_le _,fun j h=>by omega⟩ fun k hk=>?_
 obtain ⟨hk1,hk2⟩:=hk
 refine go ?_;intros
 refine wg_if rfl rfl (fun h1=>?_) (fun h1=>?_)
 ·have hh:k < l.length:=by omega
  refine go ?_;intros
  refine focF (m:=1) scal_EInt k ?_ (by repeat (first|exact .here|apply Pick.there)) rfl hh
  rintro _ g A cs B rfl rfl hr hH
  obtain ⟨rfl, -⟩:=hr w0
  refine go ?_;intros
  refine unfF l[k] hH hr ?_
  rw [List.set_getElem_self]
  refine c_if rfl (fun h2=>?_) (fun h2=>?_)
  ·refine go ?_;intros
   refine n_lp (k+1) ⟨hh,fun j hj hl=>?_⟩ (by omega)
   rcases Nat.lt_or_eq_of_le (Nat.lt_succ_iff.1 hj) with h|rfl
   ·exact hk2 j h hl
   ·exact h2
  ·have hp:placeI l n=k:=placeI_eq hk1 hk2 (fun _=>h2)
   refine go ?_;intros
   refine wg_if rfl rfl (fun h4=>?_) (fun h4=>absurd h1 h4)
   refine go ?_;intros
   refine focF (m:=1) scal_EInt k ?_ (by repeat (first|exact .here|apply Pick.there)) rfl hh
   rintro _ g A cs B e1 - hr hH
   cases e1
   obtain ⟨rfl, -⟩:=hr w0
   refine go ?_;intros
   refine unfF l[k] hH hr ?_
   rw [List.set_getElem_self]
   refine c_if rfl (fun h3=>?_) (fun h3=>?_)
   ·have e:putI l n=l:=by unfold putI;rw [hp,List.getElem?_eq_getElem hh,if_pos (by rw [h3])]
    rw [e]
    refine go ?_;intros
    refine ret ⟨_,_,_⟩ trivial rfl
   ·have e:putI l n=l.take k++[n]++l.drop k:=by unfold putI;rw [hp,List.getElem?_eq_getElem hh,if_neg (by simpa using h3)];simp
    refine go ?_;intros
    refine t_read fun F5=>?_
    refine t_stk k (by omega) fun F6 hc1 hc2=>?_
    refine d_start [] [] ?_
    refine dt2 1 2 ?_
    refine dt 3 ?_ (hy:=yd_slt (i:=k) rfl rfl rfl (by omega) (by omega))
    refine dt2 5 8 ?_
    refine dt 9 ?_
    refine dsld 10 k fun a6 c6 F6=>?_
    refine dM 0 6 ?_ ?_
    ·apply o_bs0;rfl;intro _
     refine t_emp EInt ?_
     refine dk ?_
     refine dM 4 6 ?_ ?_
     ·refine aps one_EInt scal_EInt (fun a2 c2 F2=>?_) (hn:=by rw [List.length_take];omega) (h63:=by exact lenE) (hby:=by exact lenE)
      refine dk ?_
      refine dN 6 ?_
      apply o_bs;rfl;rfl;rfl;rfl;exact rptE;exact filE;intro _
      refine dk ?_
      refine dN 7 ?_
      refine ap1 (rep_i n) one_EInt (fun a3 c3 F3=>?_) (h63:=by exact lenE) (hby:=by exact lenE)
      refine dk ?_
      refine dN 11 ?_
      refine aps one_EInt scal_EInt (fun a4 c4 F4=>?_) (h63:=by exact lenE) (hby:=by exact lenE)
      refine dk ?_
      refine dt 12 ?_
      refine dd ?_
      rw [e]
      refine go ?_;intros
      refine ret ⟨_,_,_⟩ trivial rfl
     ·apply o_bs;rfl;rfl;rfl;rfl;exact rptE;exact filE;intro _
      refine dk ?_
      refine dN 4 ?_
      refine aps one_EInt scal_EInt (fun a2 c2 F2=>?_) (hn:=by rw [List.length_take];omega) (h63:=by exact lenE) (hby:=by exact lenE)
      refine dk ?_
      refine dN 7 ?_
      refine ap1 (rep_i n) one_EInt (fun a3 c3 F3=>?_) (h63:=by exact lenE) (hby:=by exact lenE)
      refine dk ?_
      refine dN 11 ?_
      refine aps one_EInt scal_EInt (fun a4 c4 F4=>?_) (h63:=by exact lenE) (hby:=by exact lenE)
      refine dk ?_
      refine dt 12 ?_
      refine dd ?_
      rw [e]
      refine go ?_;intros
      refine ret ⟨_,_,_⟩ trivial rfl
    ·apply o_bs;rfl;rfl;rfl;rfl;exact rptE;exact filE;intro _
     refine dk ?_
     refine dN 0 ?_
     apply o_bs0;rfl;intro _
     refine t_emp EInt ?_
     refine dk ?_
     refine dN 4 ?_
     refine aps one_EInt scal_EInt (fun a2 c2 F2=>?_) (hn:=by rw [List.length_take];omega) (h63:=by exact lenE) (hby:=by exact lenE)
     refine dk ?_
     refine dN 7 ?_
     refine ap1 (rep_i n) one_EInt (fun a3 c3 F3=>?_) (h63:=by exact lenE) (hby:=by exact lenE)
     refine dk ?_
     refine dN 11 ?_
     refine aps one_EInt scal_EInt (fun a4 c4 F4=>?_) (h63:=by exact lenE) (hby:=by exact lenE)
     refine dk ?_
     refine dt 12 ?_
     refine dd ?_
     rw [e]
     refine go ?_;intros
     refine ret ⟨_,_,_⟩ trivial rfl
 ·have hp:placeI l n=k:=placeI_eq hk1 hk2 (fun h=>by omega)
  have e:putI l n=l.take k++[n]++l.drop k:=by unfold putI;rw [hp,List.getElem?_eq_none (by omega)];simp
  refine go ?_;intros
  refine wg_if rfl rfl (fun h4=>absurd h4 h1) (fun h4=>?_)
  refine go ?_;intros
  refine t_read fun F5=>?_
  refine t_stk k (by omega) fun F6 hc1 hc2=>?_
  refine d_start [] [] ?_
  refine dt2 1 2 ?_
  refine dt 3 ?_ (hy:=yd_slt (i:=k) rfl rfl rfl (by omega) (by omega))
  refine dt2 5 8 ?_
  refine dt 9 ?_
  refine dsld 10 k fun a6 c6 F6=>?_
  refine dM 0 6 ?_ ?_
  ·apply o_bs0;rfl;intro _
   refine t_emp EInt ?_
   refine dk ?_
   refine dM 4 6 ?_ ?_
   ·refine aps one_EInt scal_EInt (fun a2 c2 F2=>?_) (hn:=by rw [List.length_take];omega) (h63:=by exact lenE) (hby:=by exact lenE)
    refine dk ?_
    refine dN 6 ?_
    apply o_bs;rfl;rfl;rfl;rfl;exact rptE;exact filE;intro _
    refine dk ?_
    refine dN 7 ?_
    refine ap1 (rep_i n) one_EInt (fun a3 c3 F3=>?_) (h63:=by exact lenE) (hby:=by exact lenE)
    refine dk ?_
    refine dN 11 ?_
    refine aps one_EInt scal_EInt (fun a4 c4 F4=>?_) (h63:=by exact lenE) (hby:=by exact lenE)
    refine dk ?_
    refine dt 12 ?_
    refine dd ?_
    rw [e]
    refine go ?_;intros
    refine ret ⟨_,_,_⟩ trivial rfl
   ·apply o_bs;rfl;rfl;rfl;rfl;exact rptE;exact filE;intro _
    refine dk ?_
    refine dN 4 ?_
    refine aps one_EInt scal_EInt (fun a2 c2 F2=>?_) (hn:=by rw [List.length_take];omega) (h63:=by exact lenE) (hby:=by exact lenE)
    refine dk ?_
    refine dN 7 ?_
    refine ap1 (rep_i n) one_EInt (fun a3 c3 F3=>?_) (h63:=by exact lenE) (hby:=by exact lenE)
    refine dk ?_
    refine dN 11 ?_
    refine aps one_EInt scal_EInt (fun a4 c4 F4=>?_) (h63:=by exact lenE) (hby:=by exact lenE)
    refine dk ?_
    refine dt 12 ?_
    refine dd ?_
    rw [e]
    refine go ?_;intros
    refine ret ⟨_,_,_⟩ trivial rfl
  ·apply o_bs;rfl;rfl;rfl;rfl;exact rptE;exact filE;intro _
   refine dk ?_
   refine dN 0 ?_
   apply o_bs0;rfl;intro _
   refine t_emp EInt ?_
   refine dk ?_
   refine dN 4 ?_
   refine aps one_EInt scal_EInt (fun a2 c2 F2=>?_) (hn:=by rw [List.length_take];omega) (h63:=by exact lenE) (hby:=by exact lenE)
   refine dk ?_
   refine dN 7 ?_
   refine ap1 (rep_i n) one_EInt (fun a3 c3 F3=>?_) (h63:=by exact lenE) (hby:=by exact lenE)
   refine dk ?_
   refine dN 11 ?_
   refine aps one_EInt scal_EInt (fun a4 c4 F4=>?_) (h63:=by exact lenE) (hby:=by exact lenE)
   refine dk ?_
   refine dt 12 ?_
   refine dd ?_
   rw [e]
   refine go ?_;intros
   refine ret ⟨_,_,_⟩ trivial rfl
end Go.Proofs.YtgmbfohkpfineaaGreatDoor
