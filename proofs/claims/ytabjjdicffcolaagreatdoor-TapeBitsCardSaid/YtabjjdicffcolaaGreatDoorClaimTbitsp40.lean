/- Reckoned facts of the tape that layer 8's law asks after. -/
import Derived.Test.YtabjjdicffcolaaGreatDoorClaimTbitsp38
import Derived.Test.YtabjjdicffcolaaGreatDoorClaimTbitsp39
set_option maxRecDepth 100000
set_option maxHeartbeats 16000000
namespace Go.Proofs.YtabjjdicffcolaaGreatDoor
open Go.Lib
def o1R:RawI:=⟨⟨false,[1],0⟩,⟨false,[1],0⟩⟩
def t8L:List Ln:=[⟨3,0,0,rzI⟩,⟨1,0,0,o1R⟩,⟨6,0,1,rzI⟩,⟨4,1,0,rzI⟩]
def e8E:En:=⟨rzI,[⟨rz,⟨false,[1],0⟩⟩],[o1R,o1R],[]⟩
theorem t8_eval:evalI ovI t8L [2,3] e8E 20=⟨[⟨⟨false,[1],0⟩,⟨false,[1],1⟩⟩,o1R],0⟩:=by kernel_rfl
theorem t8_none:evalI ovI t8L [2,3] ⟨rzI,[],[],[]⟩ 20=⟨[],1⟩:=by kernel_rfl
theorem t8_may:mayT t8L [2,3] 1 2 0=true:=by kernel_rfl
theorem t8_may1:mayT t8L [2,3] 1 1 0=false:=by kernel_rfl
theorem t8_may0:mayT [] [0] 0 0 0=false:=by kernel_rfl
theorem t8_big:mayT t8L [2,3] big big big=true:=by kernel_rfl
theorem t8_out1:outU t8L 3=[1]:=by kernel_rfl
theorem t8_out0:outU t8L 2=[]:=by kernel_rfl
theorem t8_uses1:usesP t8L [2,3] 1=[1]:=by
 unfold usesP;rw [if_pos ⟨t8_big,by decide,by decide⟩]
 show compact ((outU t8L 3).mergeSort fun x y=>decide (x≤y))=[1]
 rw [t8_out1,List.mergeSort_singleton]
 decide
theorem t8_uses0:usesP t8L [2,3] 0=[]:=by
 unfold usesP;rw [if_pos ⟨t8_big,by decide,by decide⟩]
 show compact ((outU t8L 2).mergeSort fun x y=>decide (x≤y))=[]
 rw [t8_out0,List.mergeSort_nil]
 decide
end Go.Proofs.YtabjjdicffcolaaGreatDoor
