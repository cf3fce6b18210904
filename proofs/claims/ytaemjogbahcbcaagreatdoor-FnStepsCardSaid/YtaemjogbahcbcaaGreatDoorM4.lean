/- Part 4 of the proof: 1 texts, one behind the other. -/
import Derived.Test.YtaemjogbahcbcaaGreatDoorM3
open _root_.Go.Proofs.Tryz
set_option maxRecDepth 100000
set_option maxHeartbeats 8000000
set_option linter.all false
set_option linter.unusedVariables false
set_option linter.unusedSimpArgs false
namespace Go.Proofs.YtaemjogbahcbcaaGreatDoor
open Go.RowKit
def Rn (t:Oq) (f y:Int):En:=⟨t,⟨⟨f,y,[]⟩,0,0,[]⟩,List.replicate t.Ad.length ⟨0,[]⟩,List.replicate t.Ad.length Am3,List.replicate t.Ad.length [],List.replicate t.Ad.length []⟩
def J8 (t:Oq) (f y:Int):En × Bool:=if Et t && Cb ⟨⟨f,y,[]⟩,0,0,[]⟩ then (Rn t f y,true) else (Kd,false)
structure NwN where
 g:Nat
 a:Option Addr
 c:Nat
 F:List Nat
 g1:Nat
 g2:Nat
 g3:Nat
 g4:Nat
end Go.Proofs.YtaemjogbahcbcaaGreatDoor
