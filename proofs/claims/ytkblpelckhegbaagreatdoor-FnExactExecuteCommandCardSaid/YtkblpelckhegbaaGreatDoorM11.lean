/- Part 11 of the proof: 1 texts, one behind the other. -/
import Derived.Test.YtkblpelckhegbaaGreatDoorCards
import Derived.Test.YtkblpelckhegbaaGreatDoorTie
import Derived.LaidMore
import Derived.Lay
import Derived.SevenTiedAt
import Derived.Stop.Joined
import Derived.Test.YtkblpelckhegbaaGreatDoorM10
open _root_.Go.Proofs.Tryz
set_option maxRecDepth 100000
set_option maxHeartbeats 8000000
set_option linter.all false
set_option linter.unusedVariables false
set_option linter.unusedSimpArgs false
namespace Go.Proofs.YtkblpelckhegbaaGreatDoor
theorem DN{p:Prop}(h:p:=by obtain ⟨_,_,_,_,rfl,rfl,⟨rfl,rfl⟩,⟨_,_,_,_,rfl,rfl,⟨u1,rfl,hs1⟩,⟨rfl,rfl⟩⟩⟩:=hy;exact ⟨⟨y.1,y.2.1⟩,_,u1,rfl,by simpa using hs1⟩):p:=h
end Go.Proofs.YtkblpelckhegbaaGreatDoor
namespace Go.Proofs.YtkblpelckhegbaaGreatDoor
open Go.RowKit Go.ChangeShapes Go.WideShapes Go.ChangeAt
theorem Ath:Pe prog Po 24:=fun hh=>by
 obtain ⟨y,F,hy⟩:=Ha (E:=(Ho (Mr Bb FM) Sg)) underlying24 FL (.cons rfl FL (Iz underlying22 FL FM (Gc underlying3)) (.nil _)) hh;obtain ⟨_,_,_,_,rfl,rfl,⟨u0,rfl,hs0⟩,⟨rfl,rfl⟩⟩:=hy;exact ⟨⟨y.1⟩,_,u0,rfl,by simpa using hs0⟩
theorem Aep:Pe prog Bv 27:=fun hh=>by
 obtain ⟨y,F,hy⟩:=Ha (E:=(Ho Bb (Ho Bb (Ho (Mr A8 FM) Sg)))) underlying27 FL (.cons rfl FL (Gc underlying3) (.cons rfl FL (Gc underlying3) (.cons rfl FL (Iz underlying25 FL FM (Wn underlying9)) (.nil _)))) hh;obtain ⟨_,_,_,_,rfl,rfl,⟨rfl,rfl⟩,⟨_,_,_,_,rfl,rfl,⟨rfl,rfl⟩,⟨_,_,_,_,rfl,rfl,⟨u2,rfl,hs2⟩,⟨rfl,rfl⟩⟩⟩⟩:=hy;exact ⟨⟨y.1,y.2.1,y.2.2.1⟩,_,u2,rfl,by simpa using hs2⟩
theorem Atf:Pe prog Bn 238:=fun hh=>by
 obtain ⟨y,F,hy⟩:=Ha (E:=(Ho Bb (Ho Bb Sg))) underlying238 FL (.cons rfl FL (Gc underlying3) (.cons rfl FL (Gc underlying3) (.nil _))) hh;obtain ⟨_,_,_,_,rfl,rfl,⟨rfl,rfl⟩,⟨_,_,_,_,rfl,rfl,⟨rfl,rfl⟩,⟨rfl,rfl⟩⟩⟩:=hy;exact ⟨⟨y.1,y.2.1⟩,[],rfl,rfl⟩
theorem Ann:Pe prog Do 30:=fun hh=>by
 obtain ⟨y,F,hy⟩:=Ha (E:=(Ho Bv (Ho Bb (Ho Bb (Ho (Mr Bn FM) Sg))))) underlying30 FL (.cons rfl FL Aep (.cons rfl FL (Gc underlying3) (.cons rfl FL (Gc underlying3) (.cons rfl FL (Iz underlying28 FL FM Atf) (.nil _))))) hh;obtain ⟨_,_,_,_,rfl,rfl,⟨u0_0,rfl,hs0_0⟩,⟨_,_,_,_,rfl,rfl,⟨rfl,rfl⟩,⟨_,_,_,_,rfl,rfl,⟨rfl,rfl⟩,⟨_,_,_,_,rfl,rfl,⟨u3,rfl,hs3⟩,⟨rfl,rfl⟩⟩⟩⟩⟩:=hy;exact ⟨⟨y.1,y.2.1,y.2.2.1,y.2.2.2.1⟩,_,u0_0,u3,_,_,rfl,hs0_0,hs3,rfl⟩
theorem Aqr:Pe prog Dt 277:=fun hh=>by
 obtain ⟨y,F,hy⟩:=Ha (E:=(Ho Bb (Ho (Mr Bb FM) (Ho Bb Sg)))) underlying277 FL (.cons rfl FL (Gc underlying3) (.cons rfl FL (Iz underlying22 FL FM (Gc underlying3)) (.cons rfl FL (Gc underlying3) (.nil _)))) hh;obtain ⟨_,_,_,_,rfl,rfl,⟨rfl,rfl⟩,⟨_,_,_,_,rfl,rfl,⟨u1,rfl,hs1⟩,⟨_,_,_,_,rfl,rfl,⟨rfl,rfl⟩,⟨rfl,rfl⟩⟩⟩⟩:=hy;exact ⟨⟨y.1,y.2.1,y.2.2.1⟩,_,u1,rfl,by simpa using hs1⟩
theorem Akg:Pe prog Bk 120:=fun hh=>by
 obtain ⟨y,F,hy⟩:=Ha (E:=(Ho Bb (Ho (Mr Dt FM) Sg))) underlying120 FL (.cons rfl FL (Gc underlying3) (.cons rfl FL (Iz underlying118 FL FM Aqr) (.nil _))) hh;exact DN
theorem Atg:Pe prog B9 342:=fun hh=>by
 obtain ⟨y,F,hy⟩:=Ha (E:=(Ho Auf (Ho A8 Sg))) underlying342 FL (.cons rfl FL (Ait underlying4) (.cons rfl FL (Wn underlying9) (.nil _))) hh;obtain ⟨_,_,_,_,rfl,rfl,⟨rfl,rfl⟩,⟨_,_,_,_,rfl,rfl,⟨rfl,s1,rfl⟩,⟨rfl,rfl⟩⟩⟩:=hy;exact ⟨⟨y.1,y.2.1⟩,[],rfl,s1,rfl⟩
theorem Aac:Pe prog Bh 124:=fun hh=>by
 obtain ⟨y,F,hy⟩:=Ha (E:=(Ho Bb (Ho (Mr B9 FM) Sg))) underlying124 FL (.cons rfl FL (Gc underlying3) (.cons rfl FL (Iz underlying122 FL FM Atg) (.nil _))) hh;exact DN
theorem Akh:Pe prog Av 304:=fun hh=>by
 obtain ⟨y,F,hy⟩:=Ha (E:=(Ho Bb (Ho Bb (Ho Bb (Ho Bb Sg))))) underlying304 FL (.cons rfl FL (Gc underlying3) (.cons rfl FL (Gc underlying3) (.cons rfl FL (Gc underlying3) (.cons rfl FL (Gc underlying3) (.nil _))))) hh;obtain ⟨_,_,_,_,rfl,rfl,⟨rfl,rfl⟩,⟨_,_,_,_,rfl,rfl,⟨rfl,rfl⟩,⟨_,_,_,_,rfl,rfl,⟨rfl,rfl⟩,⟨_,_,_,_,rfl,rfl,⟨rfl,rfl⟩,⟨rfl,rfl⟩⟩⟩⟩⟩:=hy;exact ⟨⟨y.1,y.2.1,y.2.2.1,y.2.2.2.1⟩,[],rfl,rfl⟩
theorem Ais:Pe prog Bi 127:=fun hh=>by
 obtain ⟨y,F,hy⟩:=Ha (E:=(Ho Auf (Ho Bb (Ho Bh (Ho (Mr Av FM) Sg))))) underlying127 FL (.cons rfl FL (Ait underlying4) (.cons rfl FL (Gc underlying3) (.cons rfl FL Aac (.cons rfl FL (Iz underlying125 FL FM Akh) (.nil _))))) hh;obtain ⟨_,_,_,_,rfl,rfl,⟨rfl,rfl⟩,⟨_,_,_,_,rfl,rfl,⟨rfl,rfl⟩,⟨_,_,_,_,rfl,rfl,⟨u2_0,rfl,hs2_0⟩,⟨_,_,_,_,rfl,rfl,⟨u3,rfl,hs3⟩,⟨rfl,rfl⟩⟩⟩⟩⟩:=hy;exact ⟨⟨y.1,y.2.1,y.2.2.1,y.2.2.2.1⟩,_,u2_0,u3,_,_,rfl,hs2_0,hs3,rfl⟩
theorem Acw:Pe prog Ak 210:=fun hh=>by
 obtain ⟨y,F,hy⟩:=Ha (E:=(Ho Bb (Ho Bb (Ho Bb (Ho Bb (Ho A8 Sg)))))) underlying210 FL (.cons rfl FL (Gc underlying3) (.cons rfl FL (Gc underlying3) (.cons rfl FL (Gc underlying3) (.cons rfl FL (Gc underlying3) (.cons rfl FL (Wn underlying9) (.nil _)))))) hh;obtain ⟨_,_,_,_,rfl,rfl,⟨rfl,rfl⟩,⟨_,_,_,_,rfl,rfl,⟨rfl,rfl⟩,⟨_,_,_,_,rfl,rfl,⟨rfl,rfl⟩,⟨_,_,_,_,rfl,rfl,⟨rfl,rfl⟩,⟨_,_,_,_,rfl,rfl,⟨rfl,s4,rfl⟩,⟨rfl,rfl⟩⟩⟩⟩⟩⟩:=hy;exact ⟨⟨y.1,y.2.1,y.2.2.1,y.2.2.2.1,y.2.2.2.2.1⟩,[],rfl,s4,rfl⟩
theorem Ax7:Pe prog Ny 35:=fun hh=>by
 obtain ⟨y,F,hy⟩:=Ha (E:=(Ho Po (Ho Do (Ho (Mr Bk FM) (Ho (Mr Bi FM) (Ho (Mr (Mr Ak FM) FM) (Ho (Mr (Mr Ak FM) FM) Sg))))))) underlying35 FL (.cons rfl FL Ath (.cons rfl FL Ann (.cons rfl FL (Iz underlying31 FL FM Akg) (.cons rfl FL (Iz underlying32 FL FM Ais) (.cons rfl FL (Iz underlying33 FL FM (Iz underlying129 FL FM Acw)) (.cons rfl FL (Iz underlying33 FL FM (Iz underlying129 FL FM Acw)) (.nil _))))))) hh
 obtain ⟨_,_,_,_,rfl,rfl,⟨u0_0,rfl,hs0_0⟩,⟨_,_,_,_,rfl,rfl,⟨u1_0,u1_1,G1_0,G1_1,rfl,hs1_0,hs1_1,rfl⟩,⟨_,_,_,_,rfl,rfl,⟨u2,rfl,hs2⟩,⟨_,_,_,_,rfl,rfl,⟨u3,rfl,hs3⟩,⟨_,_,_,_,rfl,rfl,⟨u4,rfl,hs4⟩,⟨_,_,_,_,rfl,rfl,⟨u5,rfl,hs5⟩,⟨rfl,rfl⟩⟩⟩⟩⟩⟩⟩:=hy;exact ⟨⟨y.1,y.2.1,y.2.2.1,y.2.2.2.1,y.2.2.2.2.1,y.2.2.2.2.2.1⟩,_,u0_0,u1_0,u1_1,u2,u3,u4,u5,_,_,_,_,_,_,_,rfl,hs0_0,hs1_0,hs1_1,hs2,hs3,hs4,hs5,rfl⟩
theorem Ax6:Pe prog Aoi 37:=fun hh=>by
 obtain ⟨y,F,hy⟩:=Ha (E:=(Ho A8 (Ho A8 (Ho Bb Sg)))) underlying37 FL (.cons rfl FL (Wn underlying9) (.cons rfl FL (Wn underlying9) (.cons rfl FL (Gc underlying3) (.nil _)))) hh;obtain ⟨_,_,_,_,rfl,rfl,⟨rfl,s0,rfl⟩,⟨_,_,_,_,rfl,rfl,⟨rfl,s1,rfl⟩,⟨_,_,_,_,rfl,rfl,⟨rfl,rfl⟩,⟨rfl,rfl⟩⟩⟩⟩:=hy;exact ⟨⟨y.1,y.2.1,y.2.2.1⟩,[],rfl,s0,s1,rfl⟩
theorem Akf:Pe prog Df 39:=fun hh=>by
 obtain ⟨y,F,hy⟩:=Ha (E:=(Ho Ny (Ho Aoi Sg))) underlying39 FL (.cons rfl FL Ax7 (.cons rfl FL Ax6 (.nil _))) hh;obtain ⟨_,_,_,_,rfl,rfl,⟨u0_0,u0_1,u0_2,u0_3,u0_4,u0_5,u0_6,G0_0,G0_1,G0_2,G0_3,G0_4,G0_5,G0_6,rfl,hs0_0,hs0_1,hs0_2,hs0_3,hs0_4,hs0_5,hs0_6,rfl⟩,⟨_,_,_,_,rfl,rfl,⟨rfl,s1_0,s1_1,rfl⟩,⟨rfl,rfl⟩⟩⟩:=hy;exact ⟨⟨y.1,y.2.1⟩,_,u0_0,u0_1,u0_2,u0_3,u0_4,u0_5,u0_6,_,_,_,_,_,_,_,rfl,s1_0,s1_1,hs0_0,hs0_1,hs0_2,hs0_3,hs0_4,hs0_5,hs0_6,rfl⟩
theorem Yc (os:Os) (Be:os.Started) (H:Type) (enc:TypeId × Value→H) :
  ReturnsInHanded {} Tryz.checked os 3 .any (fun w args=>(Rows.fnExactExecuteCommandSpec.pre enc prog f3 Rows.fnExactExecuteCommandRow.domain false w args∧laidMetH prog Rows.fnExactExecuteCommandRow.laid w)∧sizedMet enc prog f3 (OpenSpec.ofChange Rows.fnExactExecuteCommandSpec) false w args)
   (Rows.fnExactExecuteCommandSpec.post enc prog f3 false true false false):=by
 have core:∀(W:World) (base:Nat) (args:Array Value) (ds gs:List (DataW H)) (before:List MemPlace),
   (∀(j:Nat) t v,f3.params[j]?=some t→args[j]?=some v→Value.okWide prog W .any base t v)→DataW.Whole enc prog f3.params.toList Rows.fnExactExecuteCommandSpec.vars false W args.toList ds gs before →
   W.ShapedOpen prog→laidMetH prog Rows.fnExactExecuteCommandRow.laid W→Calls prog 3 args W fun e W'=>∃v,e=.returned v∧Rows.fnExactExecuteCommandSpec.post enc prog f3 false true false false W args v W':=by
  intro W base args ds gs before hval0 hW hsh hL;have hval:∀(j:Nat) t v,f3.params[j]?=some t→args[j]?=some v→Value.okWide prog W .any base t v:=hval0;have hW':=hW;obtain ⟨p,q,hA0,hV,rfl,hfz,hnd⟩:=hW;have hA:DataW.TrodAll enc prog W 0 (fun _=>true) true f3.params.toList args.toList ds p:=hA0;rw [params3] at hA hval;obtain ⟨v0,v1,d0,d1,p0,p1,rfl,rfl,rfl,h0,h1⟩:=trodAll_two hA;obtain ⟨cs0,rfl,hsz0⟩:=okWide_struct underlying39 (hval 0 39 v0 rfl rfl);obtain ⟨fuel0,hf0⟩:=h0;obtain ⟨x0,F0,hx0⟩:=Akf hf0;obtain ⟨c1,rfl⟩:=okWide_string underlying9 (hval 1 9 v1 rfl rfl);obtain ⟨fuel1,hf1⟩:=h1
  obtain ⟨y1,hy1, -,hm1⟩:=DataW.trod_string underlying9 hf1;obtain rfl:c1=y1:=by simpa [Value.cells] using hy1
  refine (Abg _ x0 F0 c1 _ W ⟨cs0.toList,FK,by simpa [Value.cells] using hx0⟩ hm1 (Bha hL hsh)).mono fun e W' ⟨he,hB⟩=>⟨_,he,Ba3 (tb:=4) FL ?_ underlying4 FL rfl rfl hW' hB⟩;rw [params3];intro t ht;simp only [List.mem_cons,List.not_mem_nil,or_false] at ht;rcases ht with rfl|rfl <;> exact ⟨FL,of_decide_eq_true FL⟩
 refine returnsInHanded_of_calls (C:=Tryz.checked) FL Be FL
  (ChangeSpec.witness_shaped (enc:=enc) (C:=Tryz.checked) (os:=os) (X:=fun w _=>laidMetH prog Rows.fnExactExecuteCommandRow.laid w) false (World.laidAll prog os Rows.fnExactExecuteCommandRow.laid) #[.agg #[.slice none 0 0,.int .i64 0,.int .i64 0,.slice none 0 0,.int .i64 0,.int .i64 0,.slice none 0 0,.slice none 0 0,.slice none 0 0,.slice none 0 0,.slice none 0 0,.string ⟨#[]⟩,.string ⟨#[]⟩,.int .i64 0],.string ⟨#[]⟩] 8 (World.laidAll_os _ _ _)
   (World.shaped_of_ZipB FL FL) FL FL FL
   (by rw [MakeChecks.laidMetH_plain _ _ _ FL];exact laidMet_laidAll _ FL FL)) ?_
 intro w tape i _ hsh _ hok hpre _;obtain ⟨_,_,_,fn2,hfn2,_,_,_,_,hval⟩:=hok;obtain rfl:fn2=f3:=Option.some.inj (hfn2.symm.trans func3);obtain ⟨⟨⟨ds,gs,before,hw,_⟩,hL⟩,_⟩:=hpre;have hw2:=DataW.Whole.of_heap (w':=w.forCall tape i) GG hw;refine (core (w.forCall tape i) w.heap.size i.args ds gs before hval hw2 hsh (hL.of_heap GG)).mono fun e W' ⟨v,he,hp⟩=>?_;subst he;exact ChangeSpec.post_blind hp
end Go.Proofs.YtkblpelckhegbaaGreatDoor
