/- Part 11 of the proof: 1 texts, one behind the other. -/
import Derived.Test.YtcmighgaiacgoaaGreatDoorCards
import Derived.Test.YtcmighgaiacgoaaGreatDoorTie
import Derived.LaidMore
import Derived.Lay
import Derived.SevenTiedAt
import Derived.Stop.Joined
import Derived.Test.YtcmighgaiacgoaaGreatDoorM10
open _root_.Go.Proofs.Tryz
set_option maxRecDepth 100000
set_option maxHeartbeats 8000000
set_option linter.all false
set_option linter.unusedVariables false
set_option linter.unusedSimpArgs false
namespace Go.Proofs.YtcmighgaiacgoaaGreatDoor
theorem DL{p:Prop}(h:p:=by obtain ⟨_,_,_,_,rfl,rfl,⟨rfl,rfl⟩,⟨_,_,_,_,rfl,rfl,⟨u1,rfl,hs1⟩,⟨rfl,rfl⟩⟩⟩:=hy;exact ⟨⟨y.1,y.2.1⟩,_,u1,rfl,by simpa using hs1⟩):p:=h
end Go.Proofs.YtcmighgaiacgoaaGreatDoor
namespace Go.Proofs.YtcmighgaiacgoaaGreatDoor
open Go.RowKit Go.ChangeShapes Go.WideShapes Go.ChangeAt
theorem Atg:O6 prog P0 24:=fun hh=>by
 obtain ⟨y,F,hy⟩:=Gm (E:=(Hc (Ml Bb FK) R6)) underlying24 FJ (.cons rfl FJ (Ir underlying22 FJ FK (Fm underlying3)) (.nil _)) hh;obtain ⟨_,_,_,_,rfl,rfl,⟨u0,rfl,hs0⟩,⟨rfl,rfl⟩⟩:=hy;exact ⟨⟨y.1⟩,_,u0,rfl,by simpa using hs0⟩
theorem Aeh:O6 prog Bw 27:=fun hh=>by
 obtain ⟨y,F,hy⟩:=Gm (E:=(Hc Bb (Hc Bb (Hc (Ml A8 FK) R6)))) underlying27 FJ (.cons rfl FJ (Fm underlying3) (.cons rfl FJ (Fm underlying3) (.cons rfl FJ (Ir underlying25 FJ FK (Wf underlying9)) (.nil _)))) hh;obtain ⟨_,_,_,_,rfl,rfl,⟨rfl,rfl⟩,⟨_,_,_,_,rfl,rfl,⟨rfl,rfl⟩,⟨_,_,_,_,rfl,rfl,⟨u2,rfl,hs2⟩,⟨rfl,rfl⟩⟩⟩⟩:=hy;exact ⟨⟨y.1,y.2.1,y.2.2.1⟩,_,u2,rfl,by simpa using hs2⟩
theorem Ate:O6 prog Bm 229:=fun hh=>by
 obtain ⟨y,F,hy⟩:=Gm (E:=(Hc Bb (Hc Bb R6))) underlying229 FJ (.cons rfl FJ (Fm underlying3) (.cons rfl FJ (Fm underlying3) (.nil _))) hh;obtain ⟨_,_,_,_,rfl,rfl,⟨rfl,rfl⟩,⟨_,_,_,_,rfl,rfl,⟨rfl,rfl⟩,⟨rfl,rfl⟩⟩⟩:=hy;exact ⟨⟨y.1,y.2.1⟩,[],rfl,rfl⟩
theorem Ano:O6 prog Dp 30:=fun hh=>by
 obtain ⟨y,F,hy⟩:=Gm (E:=(Hc Bw (Hc Bb (Hc Bb (Hc (Ml Bm FK) R6))))) underlying30 FJ (.cons rfl FJ Aeh (.cons rfl FJ (Fm underlying3) (.cons rfl FJ (Fm underlying3) (.cons rfl FJ (Ir underlying28 FJ FK Ate) (.nil _))))) hh;obtain ⟨_,_,_,_,rfl,rfl,⟨u0_0,rfl,hs0_0⟩,⟨_,_,_,_,rfl,rfl,⟨rfl,rfl⟩,⟨_,_,_,_,rfl,rfl,⟨rfl,rfl⟩,⟨_,_,_,_,rfl,rfl,⟨u3,rfl,hs3⟩,⟨rfl,rfl⟩⟩⟩⟩⟩:=hy;exact ⟨⟨y.1,y.2.1,y.2.2.1,y.2.2.2.1⟩,_,u0_0,u3,_,_,rfl,hs0_0,hs3,rfl⟩
theorem Aqv:O6 prog Ds 274:=fun hh=>by
 obtain ⟨y,F,hy⟩:=Gm (E:=(Hc Bb (Hc (Ml Bb FK) (Hc Bb R6)))) underlying274 FJ (.cons rfl FJ (Fm underlying3) (.cons rfl FJ (Ir underlying22 FJ FK (Fm underlying3)) (.cons rfl FJ (Fm underlying3) (.nil _)))) hh;obtain ⟨_,_,_,_,rfl,rfl,⟨rfl,rfl⟩,⟨_,_,_,_,rfl,rfl,⟨u1,rfl,hs1⟩,⟨_,_,_,_,rfl,rfl,⟨rfl,rfl⟩,⟨rfl,rfl⟩⟩⟩⟩:=hy;exact ⟨⟨y.1,y.2.1,y.2.2.1⟩,_,u1,rfl,by simpa using hs1⟩
theorem Akb:O6 prog Bk 118:=fun hh=>by
 obtain ⟨y,F,hy⟩:=Gm (E:=(Hc Bb (Hc (Ml Ds FK) R6))) underlying118 FJ (.cons rfl FJ (Fm underlying3) (.cons rfl FJ (Ir underlying116 FJ FK Aqv) (.nil _))) hh;exact DL
theorem Atf:O6 prog Bz 330:=fun hh=>by
 obtain ⟨y,F,hy⟩:=Gm (E:=(Hc Aue (Hc A8 R6))) underlying330 FJ (.cons rfl FJ (Aio underlying4) (.cons rfl FJ (Wf underlying9) (.nil _))) hh;obtain ⟨_,_,_,_,rfl,rfl,⟨rfl,rfl⟩,⟨_,_,_,_,rfl,rfl,⟨rfl,s1,rfl⟩,⟨rfl,rfl⟩⟩⟩:=hy;exact ⟨⟨y.1,y.2.1⟩,[],rfl,s1,rfl⟩
theorem Z6:O6 prog Bg 122:=fun hh=>by
 obtain ⟨y,F,hy⟩:=Gm (E:=(Hc Bb (Hc (Ml Bz FK) R6))) underlying122 FJ (.cons rfl FJ (Fm underlying3) (.cons rfl FJ (Ir underlying120 FJ FK Atf) (.nil _))) hh;exact DL
theorem Akc:O6 prog Av 292:=fun hh=>by
 obtain ⟨y,F,hy⟩:=Gm (E:=(Hc Bb (Hc Bb (Hc Bb (Hc Bb R6))))) underlying292 FJ (.cons rfl FJ (Fm underlying3) (.cons rfl FJ (Fm underlying3) (.cons rfl FJ (Fm underlying3) (.cons rfl FJ (Fm underlying3) (.nil _))))) hh;obtain ⟨_,_,_,_,rfl,rfl,⟨rfl,rfl⟩,⟨_,_,_,_,rfl,rfl,⟨rfl,rfl⟩,⟨_,_,_,_,rfl,rfl,⟨rfl,rfl⟩,⟨_,_,_,_,rfl,rfl,⟨rfl,rfl⟩,⟨rfl,rfl⟩⟩⟩⟩⟩:=hy;exact ⟨⟨y.1,y.2.1,y.2.2.1,y.2.2.2.1⟩,[],rfl,rfl⟩
theorem Ain:O6 prog Bi 125:=fun hh=>by
 obtain ⟨y,F,hy⟩:=Gm (E:=(Hc Aue (Hc Bb (Hc Bg (Hc (Ml Av FK) R6))))) underlying125 FJ (.cons rfl FJ (Aio underlying4) (.cons rfl FJ (Fm underlying3) (.cons rfl FJ Z6 (.cons rfl FJ (Ir underlying123 FJ FK Akc) (.nil _))))) hh;obtain ⟨_,_,_,_,rfl,rfl,⟨rfl,rfl⟩,⟨_,_,_,_,rfl,rfl,⟨rfl,rfl⟩,⟨_,_,_,_,rfl,rfl,⟨u2_0,rfl,hs2_0⟩,⟨_,_,_,_,rfl,rfl,⟨u3,rfl,hs3⟩,⟨rfl,rfl⟩⟩⟩⟩⟩:=hy;exact ⟨⟨y.1,y.2.1,y.2.2.1,y.2.2.2.1⟩,_,u2_0,u3,_,_,rfl,hs2_0,hs3,rfl⟩
theorem Acl:O6 prog Ak 200:=fun hh=>by
 obtain ⟨y,F,hy⟩:=Gm (E:=(Hc Bb (Hc Bb (Hc Bb (Hc Bb (Hc A8 R6)))))) underlying200 FJ (.cons rfl FJ (Fm underlying3) (.cons rfl FJ (Fm underlying3) (.cons rfl FJ (Fm underlying3) (.cons rfl FJ (Fm underlying3) (.cons rfl FJ (Wf underlying9) (.nil _)))))) hh;obtain ⟨_,_,_,_,rfl,rfl,⟨rfl,rfl⟩,⟨_,_,_,_,rfl,rfl,⟨rfl,rfl⟩,⟨_,_,_,_,rfl,rfl,⟨rfl,rfl⟩,⟨_,_,_,_,rfl,rfl,⟨rfl,rfl⟩,⟨_,_,_,_,rfl,rfl,⟨rfl,s4,rfl⟩,⟨rfl,rfl⟩⟩⟩⟩⟩⟩:=hy;exact ⟨⟨y.1,y.2.1,y.2.2.1,y.2.2.2.1,y.2.2.2.2.1⟩,[],rfl,s4,rfl⟩
theorem Ax8:O6 prog Ny 35:=fun hh=>by
 obtain ⟨y,F,hy⟩:=Gm (E:=(Hc P0 (Hc Dp (Hc (Ml Bk FK) (Hc (Ml Bi FK) (Hc (Ml (Ml Ak FK) FK) (Hc (Ml (Ml Ak FK) FK) R6))))))) underlying35 FJ (.cons rfl FJ Atg (.cons rfl FJ Ano (.cons rfl FJ (Ir underlying31 FJ FK Akb) (.cons rfl FJ (Ir underlying32 FJ FK Ain) (.cons rfl FJ (Ir underlying33 FJ FK (Ir underlying127 FJ FK Acl)) (.cons rfl FJ (Ir underlying33 FJ FK (Ir underlying127 FJ FK Acl)) (.nil _))))))) hh
 obtain ⟨_,_,_,_,rfl,rfl,⟨u0_0,rfl,hs0_0⟩,⟨_,_,_,_,rfl,rfl,⟨u1_0,u1_1,G1_0,G1_1,rfl,hs1_0,hs1_1,rfl⟩,⟨_,_,_,_,rfl,rfl,⟨u2,rfl,hs2⟩,⟨_,_,_,_,rfl,rfl,⟨u3,rfl,hs3⟩,⟨_,_,_,_,rfl,rfl,⟨u4,rfl,hs4⟩,⟨_,_,_,_,rfl,rfl,⟨u5,rfl,hs5⟩,⟨rfl,rfl⟩⟩⟩⟩⟩⟩⟩:=hy;exact ⟨⟨y.1,y.2.1,y.2.2.1,y.2.2.2.1,y.2.2.2.2.1,y.2.2.2.2.2.1⟩,_,u0_0,u1_0,u1_1,u2,u3,u4,u5,_,_,_,_,_,_,_,rfl,hs0_0,hs1_0,hs1_1,hs2,hs3,hs4,hs5,rfl⟩
theorem Ax7:O6 prog Aok 37:=fun hh=>by
 obtain ⟨y,F,hy⟩:=Gm (E:=(Hc A8 (Hc A8 (Hc Bb R6)))) underlying37 FJ (.cons rfl FJ (Wf underlying9) (.cons rfl FJ (Wf underlying9) (.cons rfl FJ (Fm underlying3) (.nil _)))) hh;obtain ⟨_,_,_,_,rfl,rfl,⟨rfl,s0,rfl⟩,⟨_,_,_,_,rfl,rfl,⟨rfl,s1,rfl⟩,⟨_,_,_,_,rfl,rfl,⟨rfl,rfl⟩,⟨rfl,rfl⟩⟩⟩⟩:=hy;exact ⟨⟨y.1,y.2.1,y.2.2.1⟩,[],rfl,s0,s1,rfl⟩
theorem Aka:O6 prog Dd 39:=fun hh=>by
 obtain ⟨y,F,hy⟩:=Gm (E:=(Hc Ny (Hc Aok R6))) underlying39 FJ (.cons rfl FJ Ax8 (.cons rfl FJ Ax7 (.nil _))) hh;obtain ⟨_,_,_,_,rfl,rfl,⟨u0_0,u0_1,u0_2,u0_3,u0_4,u0_5,u0_6,G0_0,G0_1,G0_2,G0_3,G0_4,G0_5,G0_6,rfl,hs0_0,hs0_1,hs0_2,hs0_3,hs0_4,hs0_5,hs0_6,rfl⟩,⟨_,_,_,_,rfl,rfl,⟨rfl,s1_0,s1_1,rfl⟩,⟨rfl,rfl⟩⟩⟩:=hy;exact ⟨⟨y.1,y.2.1⟩,_,u0_0,u0_1,u0_2,u0_3,u0_4,u0_5,u0_6,_,_,_,_,_,_,_,rfl,s1_0,s1_1,hs0_0,hs0_1,hs0_2,hs0_3,hs0_4,hs0_5,hs0_6,rfl⟩
theorem Ad5 (os:Os) (Bd:os.Started) (H:Type) (enc:TypeId × Value→H) :
  ReturnsInHanded {} Tryz.checked os 3 .any (fun w args=>(Rows.fnExactRunScriptSpec.pre enc prog f3 Rows.fnExactRunScriptRow.domain false w args∧laidMetH prog Rows.fnExactRunScriptRow.laid w)∧sizedMet enc prog f3 (OpenSpec.ofChange Rows.fnExactRunScriptSpec) false w args)
   (Rows.fnExactRunScriptSpec.post enc prog f3 false true false false):=by
 have core:∀(W:World) (base:Nat) (args:Array Value) (ds gs:List (DataW H)) (before:List MemPlace),
   (∀(j:Nat) t v,f3.params[j]?=some t→args[j]?=some v→Value.okWide prog W .any base t v)→DataW.Whole enc prog f3.params.toList Rows.fnExactRunScriptSpec.vars false W args.toList ds gs before →
   W.ShapedOpen prog→laidMetH prog Rows.fnExactRunScriptRow.laid W→Calls prog 3 args W fun e W'=>∃v,e=.returned v∧Rows.fnExactRunScriptSpec.post enc prog f3 false true false false W args v W':=by
  intro W base args ds gs before hval0 hW hsh hL;have hval:∀(j:Nat) t v,f3.params[j]?=some t→args[j]?=some v→Value.okWide prog W .any base t v:=hval0;have hW':=hW;obtain ⟨p,q,hA0,hV,rfl,hfz,hnd⟩:=hW;have hA:DataW.TrodAll enc prog W 0 (fun _=>true) true f3.params.toList args.toList ds p:=hA0;rw [params3] at hA hval;obtain ⟨v0,v1,d0,d1,p0,p1,rfl,rfl,rfl,h0,h1⟩:=trodAll_two hA;obtain ⟨cs0,rfl,hsz0⟩:=okWide_struct underlying39 (hval 0 39 v0 rfl rfl);obtain ⟨fuel0,hf0⟩:=h0;obtain ⟨x0,F0,hx0⟩:=Aka hf0;obtain ⟨c1,rfl⟩:=okWide_string underlying9 (hval 1 9 v1 rfl rfl);obtain ⟨fuel1,hf1⟩:=h1
  obtain ⟨y1,hy1, -,hm1⟩:=DataW.trod_string underlying9 hf1;obtain rfl:c1=y1:=by simpa [Value.cells] using hy1
  refine (Aj3 _ x0 F0 c1 _ W ⟨cs0.toList,FI,by simpa [Value.cells] using hx0⟩ hm1 (Bha hL hsh)).mono fun e W' ⟨he,hB⟩=>⟨_,he,Ba4 (tb:=4) FJ ?_ underlying4 FJ rfl rfl hW' hB⟩;rw [params3];intro t ht;simp only [List.mem_cons,List.not_mem_nil,or_false] at ht;rcases ht with rfl|rfl <;> exact ⟨FJ,of_decide_eq_true FJ⟩
 refine returnsInHanded_of_calls (C:=Tryz.checked) FJ Bd FJ
  (ChangeSpec.witness_shaped (enc:=enc) (C:=Tryz.checked) (os:=os) (X:=fun w _=>laidMetH prog Rows.fnExactRunScriptRow.laid w) false (World.laidAll prog os Rows.fnExactRunScriptRow.laid) #[.agg #[.slice none 0 0,.int .i64 0,.int .i64 0,.slice none 0 0,.int .i64 0,.int .i64 0,.slice none 0 0,.slice none 0 0,.slice none 0 0,.slice none 0 0,.slice none 0 0,.string ⟨#[]⟩,.string ⟨#[]⟩,.int .i64 0],.string ⟨#[]⟩] 8 (World.laidAll_os _ _ _)
   (World.shaped_of_ZipB FJ FJ) FJ FJ FJ
   (by rw [MakeChecks.laidMetH_plain _ _ _ FJ];exact laidMet_laidAll _ FJ FJ)) ?_
 intro w tape i _ hsh _ hok hpre _;obtain ⟨_,_,_,fn2,hfn2,_,_,_,_,hval⟩:=hok;obtain rfl:fn2=f3:=Option.some.inj (hfn2.symm.trans func3);obtain ⟨⟨⟨ds,gs,before,hw,_⟩,hL⟩,_⟩:=hpre;have hw2:=DataW.Whole.of_heap (w':=w.forCall tape i) GE hw;refine (core (w.forCall tape i) w.heap.size i.args ds gs before hval hw2 hsh (hL.of_heap GE)).mono fun e W' ⟨v,he,hp⟩=>?_;subst he;exact ChangeSpec.post_blind hp
end Go.Proofs.YtcmighgaiacgoaaGreatDoor
