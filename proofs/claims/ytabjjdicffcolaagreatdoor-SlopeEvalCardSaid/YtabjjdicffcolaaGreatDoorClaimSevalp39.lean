/- Words and contracts, part 39. -/
import Derived.Test.YtabjjdicffcolaaGreatDoorClaimSevalp37
import Derived.Shelf.Sort.Plain
import Derived.Shelf.Slices.In.CompactI
import Derived.Shelf.Slices.In.SortNone
import Derived.Sort.OwnSortedInts
import Derived.Lib.OwnBridge
set_option maxRecDepth 100000
set_option maxHeartbeats 0
namespace Go.Proofs.YtabjjdicffcolaaGreatDoor
open Go.RowKit Go.Shelf
def BRow (w:World) (b:Nat) (l:List Bool):Prop:=w.heap[b]?=some (.cells ((l.map Value.bool).toArray) 4 (0,0))
theorem BRow.lt {w:World}{b:Nat}{l:List Bool}(h:BRow w b l):b<w.heap.size:=(Array.getElem?_eq_some_iff.1 h).1
theorem BRow.cell {w:World}{b:Nat}{l:List Bool}(h:BRow w b l){i:Nat}(hi:i<l.length):w.cell? ⟨b,i,none⟩=some (.bool (l.getD i false)) :=
 Ae h i _ (by simp [List.getD,hi])
theorem BRow.free {w:World}{b:Nat}{l:List Bool}(h:BRow w b l)(i:Nat):w.frozen? ⟨b,i,none⟩=false:=Au h i
theorem BRow.kept {w w':World}{b:Nat}{l:List Bool}(h:BRow w b l)(k:Kept w w'):BRow w' b l:=(k.block b h.lt).trans h
theorem BRow.grown {w w':World}{b:Nat}{l:List Bool}{row:Option Nat}(h:BRow w b l)(k:w.grownBy w' row)(hne:some b≠row):BRow w' b l:=(k.block b h.lt hne).trans h
theorem BRow.set {w:World}{b:Nat}{l:List Bool}(h:BRow w b l)(i:Nat)(x:Bool):BRow (w.setCell ⟨b,i,none⟩ (.bool x)) b (l.set i x):=by
 have:=Az (i:=i) h (.bool x);unfold BRow;rw [this,List.map_set,List.setIfInBounds_toArray]
def OwnN (w:World) (base:Nat) (v:Value) (ns:List Int):Prop:=w.ownsRow base 3 1 v ns.length (ns.map (Value.int .i64))
theorem OwnN.nil (w:World)(base:Nat):OwnN w base (.slice none 0 0) []:=World.ownsRow_nil _ _ _ _
theorem OwnN.block {w w':World}{base:Nat}{v:Value}{ns:List Int}(h:OwnN w base v ns)(k:∀ g,v.ownBlock=some g→w'.heap[g]?=w.heap[g]?):OwnN w' base v ns:=by
 obtain ⟨h1,h2⟩:=h;refine ⟨h1,?_⟩;rcases h2 with hn | ⟨g,cap,cur,rfl,hb,hg,rest⟩
 ·exact .inl hn
 ·exact .inr ⟨g,cap,cur,rfl,hb,(k g rfl).trans hg,rest⟩
theorem OwnN.kept {w w':World}{base:Nat}{v:Value}{ns:List Int}(h:OwnN w base v ns)(k:Kept w w'):OwnN w' base v ns:=h.block fun g hg=>k.block g (h.lt g hg).2
theorem OwnN.set {w:World}{base b i:Nat}{v x:Value}{ns:List Int}(h:OwnN w base v ns)(hb:b<base):OwnN (w.setCell ⟨b,i,none⟩ x) base v ns :=
 h.block fun g hg=>Below.heap_setCell _ _ _ _ (by have:=(h.lt g hg).1;show g≠b;omega)
def RetN (ns:List Int) (w:World) (e:Ending) (w':World):Prop:=Kept w w'∧∃ v,e=.returned v∧InS w' v ns
end Go.Proofs.YtabjjdicffcolaaGreatDoor
