/- Laws of layer 6: what the laws share. -/
import Derived.Test.YtjdplcenniogdaaDoorClaimTurnsp43
import Derived.Test.YtjdplcenniogdaaDoorClaimTurnsp20
namespace Go.Proofs.YtjdplcenniogdaaDoor
open Go.RowKit

theorem n_of (p : Int) (c m : Nat) (hm : 0 < m) (hs : c + m ≤ 1000) : ∃ n : Nat, wrap64 ((c : Int) + wrap64 ((IntKind.u64.wrap p).tmod (m : Int))) = (n : Int) ∧ c ≤ n ∧ n < c + m := by
  rw [IntKind.wrap_u64]
  have h0 : 0 ≤ p % 18446744073709551616 := Int.emod_nonneg _ (by decide)
  rw [Int.tmod_eq_emod_of_nonneg h0]
  have h1 : 0 ≤ p % 18446744073709551616 % (m : Int) := Int.emod_nonneg _ (by omega)
  have h2 : p % 18446744073709551616 % (m : Int) < m := Int.emod_lt_of_pos _ (by omega)
  generalize p % 18446744073709551616 % (m : Int) = x at *
  refine ⟨(c + x).toNat, ?_, by omega, by omega⟩
  unfold wrap64
  omega
theorem sameR_self (a : Raw) : sameR a a = true := by unfold sameR; simp
theorem isameT {w : World} {v u : Value} {a : RawI} (hv : IvR w v a) (hu : IvR w u a) (hl : a.lens 17592186044416) : Calls Tryd.prog 26 #[v, u] w (RetK (.bool true) w) := by
  have h := isame_c hv hu hl
  rwa [sameR_self, sameR_self] at h
theorem okI_lens {o : Outc Iv} (h : OkI o) : (rawO o).v.lens 17592186044416 := iv_lens h.1
theorem withinT {w : World} {v u : Value} {a b : Iv} (hv : IvC w v a) (hu : IvC w u b) (ha : a.Ok) (hb : b.Ok) (h : b.lo.q ≤ a.lo.q ∧ a.hi.q ≤ b.hi.q) :
    Calls Tryd.prog 19 #[v, u] w (RetK (.bool true) w) := by
  have h1 := within_c hv hu ha hb
  rwa [(withinI_iff _ _).2 h] at h1

end Go.Proofs.YtjdplcenniogdaaDoor
