/- tape's map of numbers: what is read out of it. -/
import Derived.Test.YtgododcbmkpbjaaGreatDoorClaimJexpp34
import Derived.Maps.OwnSet
set_option maxRecDepth 100000
set_option maxHeartbeats 16000000
namespace Go.Proofs.YtgododcbmkpbjaaGreatDoor
open Go.RowKit Go.Maps
def mapD (x u p : Int) : DataW Unit := (((DataW.map []).put (.int .i64 3) (.lit (.int .i64 x))).put (.int .i64 4) (.lit (.int .i64 u))).put (.int .i64 5) (.lit (.int .i64 p))
/-- v reads as the map of the numbers of states, inputs, parameters. -/
def MapR (w : World) (v : Value) (x u p : Int) : Prop := ∃ b n, v = .map (some b) ∧ w.ownsMap Tryz.prog 3 (plainElem Tryz.prog 3) b n (mapD x u p)
def manyP (op x u p : Int) : Int := if op = 3 then x else if op = 4 then u else if op = 5 then p else 0
def isP (op : Int) : Bool := decide (op = 3) || decide (op = 4) || decide (op = 5)
theorem MapR.kept {w w' : World} {v : Value} {x u p : Int} (h : MapR w v x u p) (k : Kept w w') : MapR w' v x u p := by
 obtain ⟨b, n, rfl, h⟩ := h
 exact ⟨b, n, rfl, h.kept (row := none) ⟨k.os, k.tape, k.output, k.size, fun b hb _ => k.block b hb⟩ (by simp)⟩
theorem mapD_at (x u p op : Int) : (mapD x u p).atKey (.int .i64 op) (.lit (.int .i64 0)) = .lit (.int .i64 (manyP op x u p)) ∧ Maps.has (mapD x u p) (.int .i64 op) = isP op := by
 have e : mapD x u p = .map [(.int .i64 3, .lit (.int .i64 x)), (.int .i64 4, .lit (.int .i64 u)), (.int .i64 5, .lit (.int .i64 p))] := by rfl
 rw [e]
 unfold manyP isP
 by_cases h3 : op = 3
 ·subst h3; exact ⟨rfl, rfl⟩
 ·by_cases h4 : op = 4
  ·subst h4; exact ⟨rfl, rfl⟩
  ·by_cases h5 : op = 5
   ·subst h5; exact ⟨rfl, rfl⟩
   ·have g3 : ¬ (3 : Int) = op := fun h => h3 h.symm
    have g4 : ¬ (4 : Int) = op := fun h => h4 h.symm
    have g5 : ¬ (5 : Int) = op := fun h => h5 h.symm
    constructor
    ·rw [if_neg h3, if_neg h4, if_neg h5]
     simp [DataW.atKey, Lit.sameKey, g3, g4, g5]
    ·simp [Maps.has, Lit.sameKey, g3, g4, g5, h3, h4, h5]
theorem MapR.look {w : World} {v : Value} {x u p op : Int} (h : MapR w v x u p) (h1 : -9223372036854775808 ≤ op) (h2 : op ≤ 9223372036854775807) :
 (Instr.lookup 119 v (.int .i64 op) true).run Tryz.prog w = .ok (.tuple #[.int .i64 (manyP op x u p), .bool (isP op)]) w := by
 obtain ⟨b, n, rfl, hown⟩ := h
 have hz : (zeroValue 3).run Tryz.prog w = .ok (.int .i64 0) w := by kernel_rfl
 have hw0 : (Lit.int .i64 0).wf = true := by decide
 have hop : (Lit.int .i64 op).wf = true := WalkArith.wf_i64 ⟨h1, h2⟩
 obtain ⟨v, ps, hrun, hv⟩ := hown.look_ok (int_keyed Tryz.underlying3) Tryz.underlying119 hz (plainElem_int Tryz.underlying3 hw0) (keyOf_int_mk Tryz.underlying3 hop)
 obtain ⟨c, rfl, hc, -⟩ := plainElem_int_inv Tryz.underlying3 hv
 obtain ⟨a1, a2⟩ := mapD_at x u p op
 simp only [Prod.mk.injEq] at hc
 rw [a1] at hc
 have e : c = manyP op x u p := by
  have h := hc.1
  simp only [DataW.lit.injEq, Lit.int.injEq, true_and] at h
  exact h.symm
 rw [hrun, a2, e]
/-- The map that May makes. -/
theorem mapR_made (w : World) {x u p : Int} (hx1 : -9223372036854775808 ≤ x) (hx2 : x ≤ 9223372036854775807) (hu1 : -9223372036854775808 ≤ u) (hu2 : u ≤ 9223372036854775807) (hp1 : -9223372036854775808 ≤ p) (hp2 : p ≤ 9223372036854775807) :
 ∃ w1 w2 w3, (Instr.mapUpdate 119 (.map (some w.heap.size)) (.int .i64 3) (.int .i64 x)).run Tryz.prog (w.alloc (.map #[] 0)) = .ok () w1 ∧
   (Instr.mapUpdate 119 (.map (some w.heap.size)) (.int .i64 4) (.int .i64 u)).run Tryz.prog w1 = .ok () w2 ∧
   (Instr.mapUpdate 119 (.map (some w.heap.size)) (.int .i64 5) (.int .i64 p)).run Tryz.prog w2 = .ok () w3 ∧
   MapR w3 (.map (some w.heap.size)) x u p ∧ Kept w w3 := by
 have K : Keyed Tryz.prog 3 := int_keyed Tryz.underlying3
 have o0 := World.ownsMap_made (H := Unit) w Tryz.prog 3 (plainElem Tryz.prog 3)
 obtain ⟨w1, r1, o1, g1⟩ := o0.update K Tryz.underlying119 (by unfold maxLen; decide) (keyOf_int_mk (a := 3) Tryz.underlying3 (by decide)) (plainElem_int Tryz.underlying3 (WalkArith.wf_i64 ⟨hx1, hx2⟩))
 obtain ⟨w2, r2, o2, g2⟩ := o1.update K Tryz.underlying119 (by unfold maxLen; decide) (keyOf_int_mk (a := 4) Tryz.underlying3 (by decide)) (plainElem_int Tryz.underlying3 (WalkArith.wf_i64 ⟨hu1, hu2⟩))
 obtain ⟨w3, r3, o3, g3⟩ := o2.update K Tryz.underlying119 (by unfold maxLen; decide) (keyOf_int_mk (a := 5) Tryz.underlying3 (by decide)) (plainElem_int Tryz.underlying3 (WalkArith.wf_i64 ⟨hp1, hp2⟩))
 refine ⟨w1, w2, w3, r1, r2, r3, ⟨_, _, rfl, o3⟩, ?_⟩
 have k0 := kept_alloc w (.map #[] 0)
 have st : ∀ a b : World, Kept w a → a.grownBy b (some w.heap.size) → Kept w b := fun a b k g =>
  ⟨g.os.trans k.os, g.tape.trans k.tape, g.output.trans k.output, Nat.le_trans k.size g.size, fun i hi => (g.block i (Nat.lt_of_lt_of_le hi k.size) (by intro h; injection h with h; omega)).trans (k.block i hi)⟩
 exact st _ _ (st _ _ (st _ _ k0 g1) g2) g3
end Go.Proofs.YtgododcbmkpbjaaGreatDoor
