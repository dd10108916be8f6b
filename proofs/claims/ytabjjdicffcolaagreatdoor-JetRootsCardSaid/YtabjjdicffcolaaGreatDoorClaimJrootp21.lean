/- Words and contracts, part 21. -/
import Derived.Test.YtabjjdicffcolaaGreatDoorClaimJrootp20
import Derived.OpenShut
import Derived.ChangeSlices
import Derived.SizedLaws
import Derived.WideKeyArgs
set_option maxRecDepth 100000
set_option maxHeartbeats 0
namespace Go.Proofs.YtabjjdicffcolaaGreatDoor
open Go.ChangeShapes Go.WideShapes Go.RowKit
section
variable {H:Type} {enc:TypeId × Value→H} {w:World} {base:Nat} {spare:Nat→Bool} {held:Bool} {fuel:Nat} {cs:List Value} {x:DataW H × List MemPlace}
end
theorem Og {H:Type}{enc:TypeId × Value→H}{P:Program}{base:Nat}{W W':World}{sp:Nat→Bool}(hl:laidOutB P=true) :
 ∀ {ts : List TypeId} {vs : List Value} {ds : List (DataW H)} {ps : List MemPlace}, (∀ t ∈ ts, P.readableRec t = true ∧ t < P.types.size) →
   DataW.TrodAll enc P W base (fun _=>true) true ts vs ds ps→(∀ p∈ps,W.sameAt W' p)→(∀ p∈ps,sp p.block=true)→DataW.TrodAll enc P W' base sp true ts vs ds ps
 | [],[],[],ps,_,h,_,_=>h
 | t :: ts, v :: vs, d :: ds, ps, ha, h, hsame, hs => by
   obtain ⟨p,q,h1,h2,rfl⟩:=h;refine ⟨p,q,Go.WideElems.Trod_stays hl (ha t (List.mem_cons_self ..)).1 (ha t (List.mem_cons_self ..)).2 h1 (fun x hx=>hsame x (List.mem_append_left _ hx)) (fun x hx=>hs x (List.mem_append_left _ hx)),?_,rfl⟩;exact Og hl (fun t ht=>ha t (List.mem_cons_of_mem _ ht)) h2 (fun x hx=>hsame x (List.mem_append_right _ hx)) (fun x hx=>hs x (List.mem_append_right _ hx))
 | [],[],_::_,_,_,h,_,_=>h.elim
 | [],_::_,[],_,_,h,_,_=>h.elim
 | [],_::_,_::_,_,_,h,_,_=>h.elim
 | _::_,[],_,_,_,h,_,_=>by cases h
 | _::_,_::_,[],_,_,h,_,_=>by cases h
end Go.Proofs.YtabjjdicffcolaaGreatDoor
