/- Part 7 of the proof: 1 texts, one behind the other. -/
import Derived.Test.YtkoldibamfjghaaGreatDoorM6
open _root_.Go.Proofs.Tryz
set_option maxRecDepth 100000
set_option maxHeartbeats 8000000
set_option linter.all false
set_option linter.unusedVariables false
set_option linter.unusedSimpArgs false
namespace Go.Proofs.YtkoldibamfjghaaGreatDoor
open Go.RowKit
def Wv (t:Q0) (f y:Int):Dt:=⟨t,⟨⟨f,y,[]⟩,0,0,[]⟩,List.replicate t.Ad.length ⟨0,[]⟩,List.replicate t.Ad.length Bdd,List.replicate t.Ad.length [],List.replicate t.Ad.length []⟩
def Kk (t:Q0) (f y:Int):Dt × Bool:=if Hj t && Cr ⟨⟨f,y,[]⟩,0,0,[]⟩ then (Wv t f y,true) else (Sh,false)
structure NwN where
 g:Nat
 a:aj
 c:Nat
 F:aq
 g1:Nat
 g2:Nat
 g3:Nat
 g4:Nat
end Go.Proofs.YtkoldibamfjghaaGreatDoor
