/- Words and contracts, part 4. -/
import Derived.Test.YtmgaloopddiekaaGreatDoorClaimFargsp02
import Derived.WalkKit
import Derived.WalkSmall
import Derived.Lib.Hide
set_option maxRecDepth 100000
set_option maxHeartbeats 0
namespace Go.Proofs.YtmgaloopddiekaaGreatDoor
open Go.RowKit
def Lim (w:World) (v:Value) (xs:List Nat):Prop :=
 Small xs∧∃ A c,v=.slice A xs.length c∧xs.length≤c∧(0<xs.length→∃ b off,A=some ⟨b,off,none⟩∧b<w.heap.size∧∀ i,i<xs.length→w.cell? ⟨b,off+i,none⟩=some (.int .u64 (nth xs i)))
abbrev Kept (w w':World):Prop:=Below w.heap.size w w'
theorem Kept.trans {a b c:World}(h:Kept a b)(k:Kept b c):Kept a c:=Below.trans h (Below.mono k h.size)
theorem Lim.kept {w w':World}{v:Value}{xs:List Nat}(h:Lim w v xs)(k:Kept w w'):Lim w' v xs:=by
 obtain ⟨hs,A,c,rfl,hc,hA⟩:=h;refine ⟨hs,A,c,rfl,hc,fun h0=>?_⟩;obtain ⟨b,off,rfl,hb,hcell⟩:=hA h0;exact ⟨b,off,rfl,Nat.lt_of_lt_of_le hb k.size,fun i hi=>(k.cell (p:=⟨b,off+i,none⟩) hb).trans (hcell i hi)⟩
theorem Lim.drewN {w:World}{v:Value}{xs:List Nat}(h:Lim w v xs)(n:Nat):Lim (w.drewN n) v xs:=h
theorem Lim.take {w:World}{A:Option Addr}{n c:Nat}{xs:List Nat}(h:Lim w (.slice A n c) xs)(k:Nat)(hk:k≤xs.length):Lim w (.slice A k c) (xs.take k):=by
 obtain ⟨hs,A',c',he,hc,hA⟩:=h;injection he with h1 h2 h3
 subst h1;subst h3;have hl:(xs.take k).length=k:=by rw [List.length_take];omega
 refine ⟨fun x hx=>hs x (List.mem_of_mem_take hx),A,c,by rw [hl],by omega,fun h0=>?_⟩;obtain ⟨b,off,rfl,hb,hcell⟩:=hA (by omega);refine ⟨b,off,rfl,hb,fun i hi=>?_⟩;rw [hl] at hi;rw [hcell i (by omega)];have:nth (xs.take k) i=nth xs i:=by
  unfold nth;rw [List.getD_eq_getElem?_getD,List.getD_eq_getElem?_getD,List.getElem?_take,if_pos hi]
 rw [this]
theorem Lim.trimmed {w:World}{A:Option Addr}{n c:Nat}{xs:List Nat}(h:Lim w (.slice A n c) xs):Lim w (.slice A (tl xs) c) (limbs (val xs)):=by
 have:=h.take (tl xs) (Vu xs);rwa [Ng xs h.1] at this
theorem Lim.nil (w:World)(A:Option Addr)(c:Nat):Lim w (.slice A 0 c) [] :=
 ⟨(fun x hx=>by cases hx),A,c,rfl,Nat.zero_le _,fun h=>absurd h (by decide)⟩
def RetQ (v:Value) (w:World) (e:Ending) (w':World):Prop:=e=.returned v∧∃ n,w'=w.drewN n
theorem RetQ.mk0 (v:Value)(w:World):RetQ v w (.returned v) w:=⟨rfl,0,rfl⟩
theorem Kept.drewN {w w':World}(h:Kept w w')(n:Nat):Kept w (w'.drewN n):=⟨h.os,h.tape,h.output,h.size,h.block⟩
theorem Aid {P:Program}{f:FuncId}{args:Array Value}{w:World}{a:Nat}{v:Value}(h:Calls P f args (w.drewN a) (RetQ v (w.drewN a))) :
 Calls P f args (w.drewN a) fun e w''=>e=.returned v∧∃ n,w''=w.drewN n :=
 h.mono fun _ _ ⟨he,m,hm⟩=>⟨he,a+m,by rw [hm,World.drewN_drewN]⟩
theorem Xe {P:Program}{f:FuncId}{args:Array Value}{w:World}{k a:Nat}{v:Value}(h:Calls P f args (w.drewN (k+a)) (RetQ v (w.drewN (k+a)))) :
 Calls P f args (w.drewN (k+a)) fun e w''=>e=.returned v∧∃ n,w''=w.drewN (k+n) :=
 h.mono fun _ _ ⟨he,m,hm⟩=>⟨he,a+m,by rw [hm,World.drewN_drewN,Nat.add_assoc]⟩
def RetLim (xs:List Nat) (w:World) (e:Ending) (w':World):Prop:=∃ v,e=.returned v∧Lim w' v xs∧Kept w w'
def Sa (xs:List Nat) (w:World) (e:Ending) (w':World):Prop:=∃ v,e=.returned v∧Lim w v xs∧w=w'
end Go.Proofs.YtmgaloopddiekaaGreatDoor
