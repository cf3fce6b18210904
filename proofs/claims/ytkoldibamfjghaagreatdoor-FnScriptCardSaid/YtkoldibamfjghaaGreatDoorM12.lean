/- Part 12 of the proof: 1 texts, one behind the other. -/
import Derived.Test.YtkoldibamfjghaaGreatDoorCards
import Derived.Test.YtkoldibamfjghaaGreatDoorTie
import Derived.LaidMore
import Derived.Lay
import Derived.SevenTiedAt
import Derived.Stop.Joined
import Derived.Test.YtkoldibamfjghaaGreatDoorM11
open _root_.Go.Proofs.Tryz
set_option maxRecDepth 100000
set_option maxHeartbeats 8000000
set_option linter.all false
set_option linter.unusedVariables false
set_option linter.unusedSimpArgs false
namespace Go.Proofs.YtkoldibamfjghaaGreatDoor
open Go.RowKit Go.ChangeShapes Go.WideShapes Go.ChangeAt
theorem Aqf:Al9 prog Jo 5:=fun h=>by
 obtain ⟨n,rfl,_,hw⟩:=DataW.trod_int underlying5 h;have hb:=bounds_u8 hw;exact ⟨n,[],rfl,hb.1,hb.2,rfl⟩
theorem Ak3 (v0:Value) (By:ar) (F0 FT:aq) (w:World) (h0:Sl Jo w v0 By F0) (hT:(E4 FT).P w) :
  Calls prog 3 #[v0] w (RB (.bool true) w):=(Aza v0 By F0 FT).val w (Sz ⟨FA,h0⟩ hT)
theorem Ael (os:Os) (Be:os.Started) (H:Type) (enc:TypeId × Value->H) :
  ReturnsInHanded {} Tryz.checked os 3 .any (fun w args=>(Rows.fnScriptSpec.pre enc prog f3 Rows.fnScriptRow.domain false w args/\laidMetH prog Rows.fnScriptRow.laid w)/\sizedMet enc prog f3 (OpenSpec.ofChange Rows.fnScriptSpec) false w args)
   (Rows.fnScriptSpec.post enc prog f3 false true false false):=by
 have core:∀(W:World) (base:Nat) (args:Array Value) (ds gs:List (DataW H)) (before:List MemPlace),
   (∀(j:Nat) t v,f3.params[j]?=some t->args[j]?=some v->Value.okWide prog W .any base t v)->DataW.Whole enc prog f3.params.toList Rows.fnScriptSpec.vars false W args.toList ds gs before ->
   W.ShapedOpen prog->laidMetH prog Rows.fnScriptRow.laid W->Calls prog 3 args W fun e W'=>∃v,e=.returned v/\Rows.fnScriptSpec.post enc prog f3 false true false false W args v W':=by
  intro W base args ds gs before hval0 hW hsh hL;have hval:∀(j:Nat) t v,f3.params[j]?=some t->args[j]?=some v->Value.okWide prog W .any base t v:=hval0;have hW':=hW;obtain ⟨p,q,hA0,hV,rfl,hfz,hnd⟩:=hW;have hA:DataW.TrodAll enc prog W 0 (fun _=>true) true f3.params.toList args.toList ds p:=hA0;rw [params3] at hA hval;obtain ⟨v0,d0,rfl,rfl,h0⟩:=trodAll_one hA;obtain ⟨a0,l0,c0,rfl⟩:=okWide_slice underlying22 (hval 0 22 v0 rfl rfl);obtain ⟨fuel0,hf0⟩:=h0;obtain ⟨x0,F0,u0,hu0,hs0⟩:=(Aoe underlying22 FC FA Aqf) hf0
  obtain rfl:ab a0 l0 c0=u0:=by simpa [Value.cells] using hu0
  refine (Ak3 _ x0 F0 _ W hs0 (Bd9 hL hsh)).mono fun e W' ⟨he,hB⟩=>⟨_,he,Axu (tb:=4) FC ?_ underlying4 FC rfl rfl hW' hB⟩;rw [params3];simp only [aH,aT,bm,forall_eq];exact ⟨FC,du FC⟩
 refine returnsInHanded_of_calls (C:=Tryz.checked) FC Be FC
  (ChangeSpec.witness_shaped (enc:=enc) (C:=Tryz.checked) (os:=os) (X:=fun w _=>laidMetH prog Rows.fnScriptRow.laid w) false (World.laidAll prog os Rows.fnScriptRow.laid) #[ab none 0 0] 8 (World.laidAll_os _ _ _)
   (World.shaped_of_ZipB FC FC) FC FC FC
   (by rw [MakeChecks.laidMetH_plain _ _ _ FC];exact laidMet_laidAll _ FC FC)) ?_
 intro w tape i _ hsh _ hok hpre _;obtain ⟨_,_,_,fn2,hfn2,_,_,_,_,hval⟩:=hok;obtain rfl:fn2=f3:=Option.some.inj (hfn2.symm.trans func3);obtain ⟨⟨⟨ds,gs,before,hw,_⟩,hL⟩,_⟩:=hpre;have hw2:=DataW.Whole.of_heap (w':=w.forCall tape i) FL hw;refine (core (w.forCall tape i) w.heap.size i.args ds gs before hval hw2 hsh (hL.of_heap FL)).mono fun e W' ⟨v,he,hp⟩=>?_;subst he;exact ChangeSpec.post_blind hp
end Go.Proofs.YtkoldibamfjghaaGreatDoor
