/- Words and contracts, part 14. -/
import Derived.Test.YtmgaloopddiekaaGreatDoorClaimFargsp13
import Derived.Deep.LoopGhost
set_option maxRecDepth 100000
set_option maxHeartbeats 0
namespace Go.Proofs.YtmgaloopddiekaaGreatDoor
open Go.Lib (hid)
open Go.RowKit
theorem Mz {a b:Nat}(h:a≤b):(limbs a).length≤(limbs b).length:=Dw a _ (Nat.lt_of_le_of_lt h (Ci b))
def DyR (w:World) (v:Value) (r:Raw):Prop:=∃ s,v=.agg #[.bool r.neg,s,.int .i64 r.e]∧Lim w s r.m∧-9223372036854775808≤r.e∧r.e≤9223372036854775807
theorem DyR.kept {w w':World}{v:Value}{r:Raw}(h:DyR w v r)(k:Kept w w'):DyR w' v r:=by
 obtain ⟨s,rfl,hs,h1,h2⟩:=h;exact ⟨s,rfl,hs.kept k,h1,h2⟩
theorem DyR.drewN {w:World}{v:Value}{r:Raw}(h:DyR w v r)(n:Nat):DyR (w.drewN n) v r:=h
def Ch (T:TypeId) (k:Int):List PanicEntry:=[{ v:=.iface T (.agg #[.int .i64 k]),recovered:=false }]
theorem Af4 (k:Int)(w:World):Calls Tryz.prog 103 #[.bool true,.int .i64 k] w fun e w'=>e=.returned (.tuple #[])∧w=w':=by
 go_enter Tryz.func103,Tryz.ntmps103;go_wp2
 go_end0
 exact ⟨rfl,rfl⟩
theorem Ac3 (k:Int)(w:World):Calls Tryz.prog 103 #[.bool false,.int .i64 k] w fun e w'=>e=.panicked (Ch 155 k)∧w=w':=by
 go_enter Tryz.func103,Tryz.ntmps103;go_wp2;exact ⟨rfl,rfl,rfl⟩
def RetK (v:Value) (w:World) (e:Ending) (w':World):Prop:=e=.returned v∧Kept w w'
theorem RetK.mk {v:Value}{w w':World}(h:Kept w w'):RetK v w (.returned v) w':=⟨rfl,h⟩
theorem J9 {w:World}{v:Value}{r:Raw}(hv:DyR w v r)(hl:r.m.length≤17592186044416) :
 Calls Tryz.prog 51 #[v] w (RetK (.bool (Di r)) w):=by
 obtain ⟨neg,m,e⟩:=r;obtain ⟨s,rfl,hs,h1,h2⟩:=hv;simp only at hs h1 h2 hl ⊢;have hm:=fun w1 (k:Kept w w1)=>Ah5 (hs.kept k) hl
 obtain ⟨hsm,A,c,rfl,hc,hA⟩:=hs;unfold Di;simp only;by_cases h0:m.length=0
 ·rw [if_pos h0];clear hsm hA hm;rw [h0];have HL:=hid h0;clear h0 hl hc
  cases neg<;>(
   go_enter Tryz.func51,Tryz.ntmps51;go_wp2_with fail;go_ret;exact ⟨rfl,(Below.refl _ _).alloc (Nat.le_refl _) _⟩)
 ·rw [if_neg h0];obtain ⟨b,off,rfl,hb,hcell⟩:=hA (by omega);have hc0:=hcell 0 (by omega);have hlt0:=nth_lt hsm 0;have e0:(((m.length:Nat):Int)==0)=false:=by rw [beq_eq_false_iff_ne];omega
  have HM:=hid hm;have hl0:0<m.length:=by omega
  clear hcell hA hsm hm h0;have eand:bits .and .u64 ((nth m 0:Nat):Int) 1=((nth m 0%2:Nat):Int):=by
   have h:=bits_and_u64_nat (nth m 0) 1 hlt0 (by omega);rw [Nat.and_one_is_mod] at h;exact h
  rw [Nat.add_zero] at hc0;generalize nth m 0=x at *;generalize m.length=l at *;generalize Ll m=bm at *;cases bm
  ·rw [Bool.false_and,Bool.false_and,Bool.false_and];go_enter Tryz.func51,Tryz.ntmps51
   go_wp2_with (go_at_call 88;refine (HM.out _ ((Below.refl _ _).alloc (Nat.le_refl _) _)).mono ?_;rintro e w1 ⟨rfl,q,rfl⟩)
   go_ret;exact ⟨rfl,below_drewN ((Below.refl _ _).alloc (Nat.le_refl _) _) _⟩
  ·rw [Bool.true_and];by_cases h3:x%2=1
   ·have d3:(x%2==1)=true:=by simp [h3]
    rw [d3,Bool.true_and];clear d3;rw [h3] at eand;have eand1:bits .and .u64 ((x:Nat):Int) 1=1:=eand;clear h3 eand;by_cases h4:-1048576≤e
    ·have d4:decide (-1048576≤e)=true:=by simp [h4]
     rw [d4,Bool.true_and];have d5:decide (e≤1048576)=true∨decide (e≤1048576)=false:=Ay _
     rcases d5 with d5 | d5<;>(
      rw [d5];go_enter Tryz.func51,Tryz.ntmps51
      go_wp2_with (go_at_call 88;refine (HM.out _ ((Below.refl _ _).alloc (Nat.le_refl _) _)).mono ?_;rintro e w1 ⟨rfl,q,rfl⟩)
      go_ret;exact ⟨rfl,below_drewN ((Below.refl _ _).alloc (Nat.le_refl _) _) _⟩)
    ·have d4:decide (-1048576≤e)=false:=by simp [h4]
     rw [d4,Bool.false_and];go_enter Tryz.func51,Tryz.ntmps51
     go_wp2_with (go_at_call 88;refine (HM.out _ ((Below.refl _ _).alloc (Nat.le_refl _) _)).mono ?_;rintro e w1 ⟨rfl,q,rfl⟩)
     go_ret;exact ⟨rfl,below_drewN ((Below.refl _ _).alloc (Nat.le_refl _) _) _⟩
   ·have h3':x%2=0:=by omega
    have d3:(x%2==1)=false:=by simp [h3]
    rw [d3,Bool.false_and,Bool.false_and];rw [h3'] at eand;have eand1:bits .and .u64 ((x:Nat):Int) 1=0:=eand;clear d3 h3 h3' eand;go_enter Tryz.func51,Tryz.ntmps51
    go_wp2_with (go_at_call 88;refine (HM.out _ ((Below.refl _ _).alloc (Nat.le_refl _) _)).mono ?_;rintro e w1 ⟨rfl,q,rfl⟩)
    go_ret;exact ⟨rfl,below_drewN ((Below.refl _ _).alloc (Nat.le_refl _) _) _⟩
end Go.Proofs.YtmgaloopddiekaaGreatDoor
