/- Reckoned facts of the tape that layer 8's law asks after. -/
import Derived.Test.YtabjjdicffcolaaGreatDoorClaimTusesp38
import Derived.Test.YtabjjdicffcolaaGreatDoorClaimTusesp39
set_option maxRecDepth 100000
set_option maxHeartbeats 16000000
namespace Go.Proofs.YtabjjdicffcolaaGreatDoor
open Go.Lib
def o1R:RawI:=⟨⟨false,[1],0⟩,⟨false,[1],0⟩⟩
def t8L:List Ln:=[⟨3,0,0,rzI⟩,⟨1,0,0,o1R⟩,⟨6,0,1,rzI⟩,⟨4,1,0,rzI⟩]
def e8E:En:=⟨rzI,[⟨rz,⟨false,[1],0⟩⟩],[o1R,o1R],[]⟩
theorem Agg:Mq ovI t8L [2,3] e8E 20=⟨[⟨⟨false,[1],0⟩,⟨false,[1],1⟩⟩,o1R],0⟩:=by kernel_rfl
theorem Afx:Mq ovI t8L [2,3] ⟨rzI,[],[],[]⟩ 20=⟨[],1⟩:=by kernel_rfl
theorem Ajh:Ex t8L [2,3] 1 2 0=true:=by kernel_rfl
theorem Ag5:Ex t8L [2,3] 1 1 0=false:=by kernel_rfl
theorem Agu:Ex [] [0] 0 0 0=false:=by kernel_rfl
theorem Aed:Ex t8L [2,3] big big big=true:=by kernel_rfl
theorem Ag4:Tu t8L 3=[1]:=by kernel_rfl
theorem Agv:Tu t8L 2=[]:=by kernel_rfl
theorem Aeq:Ic t8L [2,3] 1=[1]:=by
 unfold Ic;rw [if_pos ⟨Aed,by decide,by decide⟩]
 show compact ((Tu t8L 3).mergeSort fun x y=>decide (x≤y))=[1]
 rw [Ag4,List.mergeSort_singleton]
 decide
theorem Ab5:Ic t8L [2,3] 0=[]:=by
 unfold Ic;rw [if_pos ⟨Aed,by decide,by decide⟩]
 show compact ((Tu t8L 2).mergeSort fun x y=>decide (x≤y))=[]
 rw [Agv,List.mergeSort_nil]
 decide
end Go.Proofs.YtabjjdicffcolaaGreatDoor
