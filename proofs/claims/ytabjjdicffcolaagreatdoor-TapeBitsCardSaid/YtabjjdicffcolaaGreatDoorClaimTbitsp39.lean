/- Plain mathematics, no program: the inputs that an out of a tape leans on: tape.Uses as a Lean function; its numbers rise. -/
import Derived.Test.YtabjjdicffcolaaGreatDoorClaimTbitsp33
import Derived.Lib.SlicesCompact
set_option maxRecDepth 100000
set_option maxHeartbeats 16000000
namespace Go.Proofs.YtabjjdicffcolaaGreatDoor
open Go.Lib
def stepU (ls:List Ln) (i:Nat) (st:List Bool × List Int):List Bool × List Int :=
 match ls[i]? with
 | none=>st
 | some l => if st.1.getD i false = false then st else if l.op = 4 then (st.1, st.2 ++ [l.a]) else
   if 0<partsP l.op then ((st.1.set l.a.toNat true).set l.b.toNat ((st.1.set l.a.toNat true).getD l.b.toNat false||decide (1<partsP l.op)),st.2) else st
def backU (ls:List Ln):Nat→List Bool × List Int→List Bool × List Int
 | 0,st=>st
 | i+1,st=>backU ls i (stepU ls i st)
def outU (ls:List Ln) (o:Nat):List Int:=(backU ls ls.length ((List.replicate ls.length false).set o true,[])).2
def big:Int:=9223372036854775807
def usesP (ls:List Ln) (outs:List Int) (k:Int):List Int :=
 if mayT ls outs big big big=true∧0≤k∧k<outs.length then compact ((outU ls (outs.getD k.toNat 0).toNat).mergeSort fun x y=>decide (x≤y)) else []
end Go.Proofs.YtabjjdicffcolaaGreatDoor
