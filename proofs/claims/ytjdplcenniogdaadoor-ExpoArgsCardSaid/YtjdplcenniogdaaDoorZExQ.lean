/- Words that the texts of expo share with those of arith (after those texts, without them). -/
import Derived.Test.YtjdplcenniogdaaDoorClaimTurnsp31
import Derived.Test.YtjdplcenniogdaaDoorClaimTurnsp26
import Derived.Test.YtjdplcenniogdaaDoorClaimTurnsp14
import Derived.Test.YtjdplcenniogdaaDoorClaimTurnsp20
namespace Go.Proofs.YtjdplcenniogdaaDoor
open Go.RowKit

theorem tz_oddN {n : Nat} (h : n % 2 = 1) : tz n = 0 := tz_unique n 0 n h (by simp)
theorem fitD_self {d : Dy} (h : d.Ok) : fitD d.neg d.m d.e = ⟨d, 0⟩ := by
  unfold fitD
  by_cases h0 : d.m = 0
  · rw [if_pos h0]
    obtain ⟨a, b⟩ := h.zero h0
    cases d with | mk n m e =>
      simp only at a b h0
      subst a b h0
      rfl
  · rw [if_neg h0, tz_oddN (h.odd h0)]
    have hl := h.len
    have h1 := h.lo
    have h2 := h.hi
    rw [if_neg (by simpa using hl), if_neg (by simp; omega), if_neg (by simp; omega)]
    simp [good]
theorem dyR_zero (w : World) : DyR w (.agg #[.bool false, .slice none 0 0, .int .i64 0]) rz := ⟨_, rfl, Lim.nil _ _ _, by decide, by decide⟩
theorem DyR.dyW {w : World} {v : Value} {r : Raw} {b : Nat} {x y z : Value} (h : DyR w v r) (h0 : Blk w b x y z) (hx : NoLimb x) (hy : NoLimb y) (hz : NoLimb z) (x' y' z' : Value) : DyR (Go.Proofs.YtjdplcenniogdaaDoor.dyW w b x' y' z') v r := by
  obtain ⟨s, rfl, hs, h1, h2⟩ := h
  exact ⟨s, rfl, hs.dyW h0 hx hy hz, h1, h2⟩
/-- A new box, filled. -/
theorem boxF (w : World) (x y z : Value) : ∃ V, V = w.alloc (.cells #[x, y, z] 24) ∧ Kept w V ∧ Blk V w.heap.size x y z ∧ w.heap.size < V.heap.size :=
  ⟨_, rfl, kept_alloc _ _, blk_new _ _ _ _, by simp⟩
theorem limbs1 : limbs 1 = [1] := by rw [limbs_pos 1 (by decide)]; simp [limbs_zero]
def d1 : Dy := ⟨false, 1, 0⟩
theorem one_ok (n : Bool) (e : Int) (h1 : -1048576 ≤ e) (h2 : e ≤ 1048576) : (Dy.mk n 1 e).Ok := ⟨by simp [limbs1], fun h => absurd h (by simp), fun _ => rfl, h1, h2⟩
theorem d1_ok : d1.Ok := one_ok _ _ (by decide) (by decide)
theorem fit_1 : fitD false 1 0 = ⟨d1, 0⟩ := fitD_self d1_ok
theorem d1_raw : d1.raw = ⟨false, [1], 0⟩ := by unfold Dy.raw d1; simp only [limbs1]
/-- A new list of one limb. -/
theorem lim_new1 {w : World} {b : Nat} {T : TypeId} (h : w.heap[b]? = some (.cells #[.int .u64 1] T (0, 0))) : Lim w (.slice (some ⟨b, 0, none⟩) 1 1) [1] := by
  refine ⟨fun n hn => by simp at hn; omega, _, _, rfl, Nat.le_refl _, fun _ => ⟨b, 0, rfl, (Array.getElem?_eq_some_iff.1 h).1, fun i hi => ?_⟩⟩
  have : i = 0 := by simpa using hi
  subst this
  exact cell_of_block h 0 _ rfl
/-- A new box of an interval, filled. -/
theorem boxG (w : World) (x y z x' y' z' : Value) : ∃ V, V = w.alloc (.cells #[x, y, z, x', y', z'] 26) ∧ Kept w V ∧ BlkI V w.heap.size x y z x' y' z' ∧ w.heap.size < V.heap.size :=
  ⟨_, rfl, kept_alloc _ _, blkI_new _ _ _ _ _ _ _, by simp⟩

end Go.Proofs.YtjdplcenniogdaaDoor
