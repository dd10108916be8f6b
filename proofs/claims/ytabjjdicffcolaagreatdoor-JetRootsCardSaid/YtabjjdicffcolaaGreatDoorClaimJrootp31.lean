/- Words and contracts, part 31. -/
import Derived.Test.YtabjjdicffcolaaGreatDoorClaimJrootp22
import Derived.Test.YtabjjdicffcolaaGreatDoorClaimJrootp30
set_option maxRecDepth 100000
set_option maxHeartbeats 0
namespace Go.Proofs.YtabjjdicffcolaaGreatDoor
open Go.ChangeShapes Go.WideShapes Go.RowKit
section
variable {H:Type} {enc:TypeId × Value→H} {w:World} {base:Nat} {spare:Nat→Bool} {held:Bool}
theorem Ag9 {r:Reach}{b0:Nat}{v:Value}{d:DataW H}{p:List MemPlace}(hv:Value.okWide Tryz.prog w r b0 23 v)(h:DataW.Trod enc Tryz.prog w base spare held 23 v d p):∃ ns,InS w v ns:=by
 obtain ⟨a0,len0,cap0,rfl⟩:=okWide_slice Tryz.underlying23 hv;obtain ⟨fuel,hf⟩:=h;rcases open_ints Tryz.underlying23 Tryz.underlying3 (by kernel_rfl) hf with ⟨hcs,-⟩ | ⟨a,len,cap,zs,hcs,-,hl,-,hz,-,hc,-⟩
 ·simp only [Value.cells,List.cons.injEq,and_true] at hcs;rw [hcs];exact ⟨[],none,0,rfl,Nat.le_refl _,fun h=>absurd h (by simp)⟩
 ·simp only [Value.cells,List.cons.injEq,and_true] at hcs;rw [hcs];have hlz:len≤zs.length:=by rw [hz];split<;>omega
  have hlen:(zs.take len).length=len:=by rw [List.length_take];omega
  refine ⟨zs.take len,some a,cap,by rw [hlen],by omega,fun h0=>?_⟩;obtain ⟨b,off,rfl,hcc⟩:=ints_at hc (by omega);refine ⟨b,off,rfl,fun i n hn=>?_⟩;have hi:i<len:=by have:=(List.getElem?_eq_some_iff.1 hn).1;omega
  rw [hcc i (by omega)];rw [List.getElem?_take_of_lt hi] at hn;rw [List.getD_eq_getElem?_getD,hn];rfl
end
theorem Aed:∀ t∈[23,3],Tryz.prog.readableRec t=true∧t<Tryz.prog.types.size:=by
 intro t ht;simp only [List.mem_cons,List.not_mem_nil,or_false] at ht;rcases ht with rfl | rfl
 ·exact ⟨by kernel_rfl,of_decide_eq_true (by kernel_rfl)⟩
 ·exact ⟨by kernel_rfl,of_decide_eq_true (by kernel_rfl)⟩
end Go.Proofs.YtabjjdicffcolaaGreatDoor
