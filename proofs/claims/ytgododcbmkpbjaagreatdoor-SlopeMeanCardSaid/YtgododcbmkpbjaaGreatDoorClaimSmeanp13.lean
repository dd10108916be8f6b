/- Contracts of package nat: QuoRem (quotient and rest). Conditions: canonical limbs, the divisor not nought, lengths of memory. -/
import Derived.Test.YtgododcbmkpbjaaGreatDoorClaimSmeanp11
import Derived.Test.YtgododcbmkpbjaaGreatDoorClaimSmeanp12
import Derived.Deep.DeepCutAuto
import Derived.Deep.CutBlock
set_option maxRecDepth 100000
set_option maxHeartbeats 16000000
namespace Go.Proofs.YtgododcbmkpbjaaGreatDoor
open Go.RowKit
theorem nth_mid (pre wl post : List Nat) (k : Nat) (hk : k < wl.length) : nth (pre ++ (wl ++ post)) (pre.length + k) = nth wl k := by
 unfold nth
 rw [List.getD_eq_getElem?_getD, List.getD_eq_getElem?_getD, List.getElem?_append_right (by omega), Nat.add_sub_cancel_left, List.getElem?_append_left hk]
theorem set_mid (pre wl post : List Nat) (k y : Nat) (hk : k < wl.length) : (pre ++ (wl ++ post)).set (pre.length + k) y = pre ++ (wl.set k y ++ post) := by
 rw [List.set_append_right _ _ (by omega), Nat.add_sub_cancel_left, List.set_append_left _ _ hk]
/-- The window wl stands at place j of a row that the call owns. -/
def Win (w : World) (base g N cap : Nat) (pre wl post : List Nat) : Prop := Own w base (.slice (some ⟨g, 0, none⟩) N cap) (pre ++ (wl ++ post))
theorem Win.cell {w : World} {base g N cap : Nat} {pre wl post : List Nat} (h : Win w base g N cap pre wl post) (k : Nat) (hk : k < wl.length) : w.cell? ⟨g, pre.length + k, none⟩ = some (.int .u64 (nth wl k)) := by
 rw [← nth_mid pre wl post k hk]
 exact Own.cell h _ (by simp; omega)
theorem Win.frozen {w : World} {base g N cap : Nat} {pre wl post : List Nat} (h : Win w base g N cap pre wl post) (k : Nat) : w.frozen? ⟨g, k, none⟩ = false := Own.frozen h k
theorem Win.stored {w : World} {base g N cap : Nat} {pre wl post : List Nat} (h : Win w base g N cap pre wl post) (k y : Nat) (hk : k < wl.length) : Win (w.setCell ⟨g, pre.length + k, none⟩ (U y)) base g N cap pre (wl.set k y) post := by
 unfold Win
 rw [← set_mid pre wl post k y hk]
 exact Own.stored h _ y
theorem Win.drewN {w : World} {base g N cap : Nat} {pre wl post : List Nat} (h : Win w base g N cap pre wl post) (n : Nat) : Win (w.drewN n) base g N cap pre wl post := h
/-- Only block g has turned. -/
structure Only (g : Nat) (w w' : World) : Prop where
 os : w'.os = w.os
 tape : w'.tape = w.tape
 output : w'.output = w.output
 size : w'.heap.size = w.heap.size
 block : ∀ k, k ≠ g → w'.heap[k]? = w.heap[k]?
theorem Only.refl (g : Nat) (w : World) : Only g w w := ⟨rfl, rfl, rfl, rfl, fun _ _ => rfl⟩
theorem Only.drewN {g : Nat} {a w : World} (h : Only g a w) (n : Nat) : Only g a (w.drewN n) := ⟨h.os, h.tape, h.output, h.size, h.block⟩
theorem Only.setCell {g : Nat} {a w : World} (h : Only g a w) (k : Nat) (u : Value) : Only g a (w.setCell ⟨g, k, none⟩ u) :=
 ⟨h.os, h.tape, h.output, by rw [← h.size]; simp [World.setCell], fun j hj => (Below.heap_setCell w ⟨g, k, none⟩ u j hj).trans (h.block j hj)⟩
theorem Only.cell {g : Nat} {a w : World} (h : Only g a w) {b k : Nat} (hb : b ≠ g) : w.cell? ⟨b, k, none⟩ = a.cell? ⟨b, k, none⟩ := World.cell?_of_block (h.block b hb)
theorem Only.below {g B : Nat} {a b w : World} (h : Only g b w) (k : Below B a b) (hg : B ≤ g) : Below B a w :=
 k.trans ⟨h.os, h.tape, h.output, Nat.le_of_eq h.size.symm, fun j hj => h.block j (by omega)⟩
/-- It returns quotient and rest. -/
def RetQR (n m : Nat) (w : World) (e : Ending) (w' : World) : Prop :=
 ∃ v1 v2, e = .returned (.tuple #[v1, v2]) ∧ Lim w' v1 (limbs (n / m)) ∧ Lim w' v2 (limbs (n % m)) ∧ Kept w w'
theorem limbs_one (m : Nat) (h0 : m ≠ 0) (h : m < 18446744073709551616) : limbs m = [m] := by
 rw [limbs_pos m h0, Nat.mod_eq_of_lt h, Nat.div_eq_of_lt h, limbs_zero]
/-- Below block B only block g has turned. -/
structure OnlyB (B g : Nat) (w w' : World) : Prop where
 os : w'.os = w.os
 tape : w'.tape = w.tape
 output : w'.output = w.output
 size : w.heap.size ≤ w'.heap.size
 block : ∀ k, k < B → k ≠ g → w'.heap[k]? = w.heap[k]?
theorem OnlyB.refl (B g : Nat) (w : World) : OnlyB B g w w := ⟨rfl, rfl, rfl, Nat.le_refl _, fun _ _ _ => rfl⟩
theorem OnlyB.only {B g : Nat} {a b c : World} (h : OnlyB B g a b) (k : Only g b c) : OnlyB B g a c :=
 ⟨k.os.trans h.os, k.tape.trans h.tape, k.output.trans h.output, by rw [k.size]; exact h.size, fun i hi hne => (k.block i hne).trans (h.block i hi hne)⟩
theorem OnlyB.setCell {B g : Nat} {a w : World} (h : OnlyB B g a w) {x : Nat} (hx : B ≤ x) (k : Nat) (u : Value) : OnlyB B g a (w.setCell ⟨x, k, none⟩ u) :=
 ⟨h.os, h.tape, h.output, by have := h.size; simp [World.setCell]; exact this, fun j hj hne => (Below.heap_setCell w ⟨x, k, none⟩ u j (by simp only; omega)).trans (h.block j hj hne)⟩
theorem OnlyB.drewN {B g : Nat} {a w : World} (h : OnlyB B g a w) (n : Nat) : OnlyB B g a (w.drewN n) := ⟨h.os, h.tape, h.output, h.size, h.block⟩
theorem OnlyB.grown {B g : Nat} {a w : World} (h : a.grownBy w none) (hB : B ≤ a.heap.size) : OnlyB B g a w := ⟨h.os, h.tape, h.output, h.size, fun k hk _ => h.block k (by omega) (by simp)⟩
theorem OnlyB.cell {B g : Nat} {a w : World} (h : OnlyB B g a w) {b k : Nat} (hb : b < B) (hg : b ≠ g) : w.cell? ⟨b, k, none⟩ = a.cell? ⟨b, k, none⟩ := World.cell?_of_block (h.block b hb hg)
theorem OnlyB.kept {B g : Nat} {a b w : World} (h : OnlyB B g b w) (k : Kept a b) (hg : a.heap.size ≤ g) (hB : a.heap.size ≤ B) : Kept a w :=
 ⟨h.os.trans k.os, h.tape.trans k.tape, h.output.trans k.output, Nat.le_trans k.size h.size, fun j hj => (h.block j (by omega) (by omega)).trans (k.block j hj)⟩
theorem Only.own {g : Nat} {a w : World} (h : Only g a w) {base gq n cap : Nat} {xs : List Nat} (ho : Own a base (.slice (some ⟨gq, 0, none⟩) n cap) xs) (hne : gq ≠ g) : Own w base (.slice (some ⟨gq, 0, none⟩) n cap) xs :=
 World.ownsRow.kept (row := some g) ho ⟨h.os, h.tape, h.output, Nat.le_of_eq h.size.symm, fun k _ hk => h.block k (fun e => hk (by rw [e]))⟩ (Or.inr (by simp only [Value.ownBlock]; intro e; exact hne (Option.some.inj e)))
end Go.Proofs.YtgododcbmkpbjaaGreatDoor
