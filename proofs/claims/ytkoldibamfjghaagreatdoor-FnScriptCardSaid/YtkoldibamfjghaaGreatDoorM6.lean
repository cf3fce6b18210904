/- Part 6 of the proof: 1 texts, one behind the other. -/
import Derived.Test.YtkoldibamfjghaaGreatDoorM5
open _root_.Go.Proofs.Tryz
set_option maxRecDepth 100000
set_option maxHeartbeats 8000000
set_option linter.all false
set_option linter.unusedVariables false
set_option linter.unusedSimpArgs false
namespace Go.Proofs.YtkoldibamfjghaaGreatDoor
open Go.RowKit
def Wp (t:Pv) (f y:Int):Du:=⟨t,⟨⟨f,y,[]⟩,0,0,[]⟩,List.replicate t.Ac.length ⟨0,[]⟩,List.replicate t.Ac.length Bc7,List.replicate t.Ac.length [],List.replicate t.Ac.length []⟩
def Kh (t:Pv) (f y:Int):Du × Bool:=if Hj t && Ck ⟨⟨f,y,[]⟩,0,0,[]⟩ then (Wp t f y,true) else (Sb,false)
structure NwN where
 g:Nat
 a:aj
 c:Nat
 F:aq
 g1:Nat
 g2:Nat
 g3:Nat
 g4:Nat
end Go.Proofs.YtkoldibamfjghaaGreatDoor
