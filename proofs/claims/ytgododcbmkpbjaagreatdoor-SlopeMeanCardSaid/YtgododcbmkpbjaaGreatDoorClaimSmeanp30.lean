/- Own rows of any type: appended to amidst others, stored into a box. -/
import Derived.Test.YtgododcbmkpbjaaGreatDoorClaimSmeanp18
import Derived.Test.YtgododcbmkpbjaaGreatDoorClaimSmeanp19
import Derived.Test.YtgododcbmkpbjaaGreatDoorClaimSmeanp28
import Derived.Test.YtgododcbmkpbjaaGreatDoorClaimSmeanp29
set_option maxRecDepth 100000
set_option maxHeartbeats 16000000
namespace Go.Proofs.YtgododcbmkpbjaaGreatDoor
open Go.RowKit
/-- The cells from an address on are a line. -/
def LnAt (w : World) (b o : Nat) (l : Ln) : Prop := w.cell? ⟨b, o, none⟩ = some (.int .i64 l.op) ∧ w.cell? ⟨b, o + 1, none⟩ = some (.int .i64 l.a) ∧ w.cell? ⟨b, o + 2, none⟩ = some (.int .i64 l.b) ∧ IvAt w b (o + 3) l.k
def LnS (w : World) (v : Value) (ls : List Ln) : Prop := ∃ A c, v = .slice A ls.length c ∧ ls.length ≤ c ∧ (0 < ls.length → ∃ b off, A = some ⟨b, off, none⟩ ∧ ∀ i l, ls[i]? = some l → LnAt w b (off + i * 9) l)
def InS (w : World) (v : Value) (ns : List Int) : Prop := ∃ A c, v = .slice A ns.length c ∧ ns.length ≤ c ∧ (0 < ns.length → ∃ b off, A = some ⟨b, off, none⟩ ∧ ∀ i n, ns[i]? = some n → w.cell? ⟨b, off + i, none⟩ = some (.int .i64 n))
theorem LnAt.kept {w w' : World} {b o : Nat} {l : Ln} (h : LnAt w b o l) (k : Kept w w') : LnAt w' b o l := by
 obtain ⟨h0, h1, h2, h3⟩ := h
 have hb := lt_of_cell h0
 exact ⟨(k.cell (p := ⟨b, o, none⟩) hb).trans h0, (k.cell (p := ⟨b, o + 1, none⟩) hb).trans h1, (k.cell (p := ⟨b, o + 2, none⟩) hb).trans h2, h3.kept k⟩
theorem LnS.kept {w w' : World} {v : Value} {l : List Ln} (h : LnS w v l) (k : Kept w w') : LnS w' v l := by
 obtain ⟨A, c, rfl, hc, hA⟩ := h
 refine ⟨A, c, rfl, hc, fun h0 => ?_⟩
 obtain ⟨b, off, rfl, hd⟩ := hA h0
 exact ⟨b, off, rfl, fun i d hi => (hd i d hi).kept k⟩
theorem InS.kept {w w' : World} {v : Value} {l : List Int} (h : InS w v l) (k : Kept w w') : InS w' v l := by
 obtain ⟨A, c, rfl, hc, hA⟩ := h
 refine ⟨A, c, rfl, hc, fun h0 => ?_⟩
 obtain ⟨b, off, rfl, hd⟩ := hA h0
 exact ⟨b, off, rfl, fun i d hi => (k.cell (p := ⟨b, off + i, none⟩) (lt_of_cell (hd i d hi))).trans (hd i d hi)⟩
/-- v reads as a tape, as an environment. -/
def TpR (w : World) (v : Value) (ls : List Ln) (outs : List Int) : Prop := ∃ s o, v = .agg #[s, o] ∧ LnS w s ls ∧ InS w o outs
def EnR (w : World) (v : Value) (e : En) : Prop := ∃ x y z x' y' z' sx su sp, v = .agg #[x, y, z, x', y', z', sx, su, sp] ∧ IvR w (.agg #[x, y, z, x', y', z']) e.t ∧ IvS w sx e.x ∧ IvS w su e.u ∧ IvS w sp e.p
theorem TpR.kept {w w' : World} {v : Value} {ls : List Ln} {outs : List Int} (h : TpR w v ls outs) (k : Kept w w') : TpR w' v ls outs := by
 obtain ⟨s, o, rfl, h1, h2⟩ := h
 exact ⟨s, o, rfl, h1.kept k, h2.kept k⟩
theorem EnR.kept {w w' : World} {v : Value} {e : En} (h : EnR w v e) (k : Kept w w') : EnR w' v e := by
 obtain ⟨x, y, z, x', y', z', sx, su, sp, rfl, h1, h2, h3, h4⟩ := h
 exact ⟨x, y, z, x', y', z', sx, su, sp, rfl, h1.kept k, h2.kept k, h3.kept k, h4.kept k⟩
/-- The cells of an interval are no limbs. -/
theorem IvR.cells {w : World} {x y z x' y' z' : Value} {a : RawI} (h : IvR w (.agg #[x, y, z, x', y', z']) a) : ∀ u ∈ [x, y, z, x', y', z'], NoLimb u ∧ u.oneCell' = true := by
 obtain ⟨A, l, c, A', l', c', e, -, -⟩ := ivR_split h
 injection e with e; injection e with e
 simp only [List.cons.injEq, and_true] at e
 obtain ⟨rfl, rfl, rfl, rfl, rfl, rfl⟩ := e
 intro u hu
 simp at hu
 rcases hu with rfl | rfl | rfl | rfl | rfl | rfl
 ·exact ⟨noLimb_bool _, rfl⟩
 ·exact ⟨noLimb_slice _ _ _, rfl⟩
 ·exact ⟨noLimb_i64 _, rfl⟩
 ·exact ⟨noLimb_bool _, rfl⟩
 ·exact ⟨noLimb_slice _ _ _, rfl⟩
 ·exact ⟨noLimb_i64 _, rfl⟩
theorem IvR.grown {w w' : World} {v : Value} {a : RawI} {row : Option Nat} (h : IvR w v a) (hg : w.grownBy w' row) (hN : ∀ g, row = some g → NoL w g) : IvR w' v a := by
 obtain ⟨x, y, z, x', y', z', rfl, h1, h2⟩ := h
 exact ⟨x, y, z, x', y', z', rfl, h1.grown hg hN, h2.grown hg hN⟩
/-- A list of intervals of one's own. -/
structure OwnI (w : World) (base : Nat) (v : Value) (l : List RawI) (xs : List Value) : Prop where
 row : w.ownsRow base 32 6 v l.length xs
 nl : ∀ u ∈ xs, NoLimb u
 one : ∀ u ∈ xs, u.oneCell' = true
 blk : ∀ g, v.ownBlock = some g → NoL w g
 ivs : ∀ i a, l[i]? = some a → ∃ x y z x' y' z', xs[i * 6]? = some x ∧ xs[i * 6 + 1]? = some y ∧ xs[i * 6 + 2]? = some z ∧ xs[i * 6 + 3]? = some x' ∧ xs[i * 6 + 4]? = some y' ∧ xs[i * 6 + 5]? = some z' ∧ IvR w (.agg #[x, y, z, x', y', z']) a
theorem OwnI.nil (w : World) (base : Nat) : OwnI w base (.slice none 0 0) [] [] :=
 ⟨World.ownsRow_nil _ _ _ _, by simp, by simp, (by intro g h; simp [Value.ownBlock] at h), by simp⟩
theorem OwnI.kept {w w' : World} {base : Nat} {v : Value} {l : List RawI} {xs : List Value} (h : OwnI w base v l xs) (k : Kept w w') : OwnI w' base v l xs := by
 obtain ⟨h1, h2, h2', h3, h4⟩ := h
 refine ⟨⟨h1.1, ?_⟩, h2, h2', ?_, ?_⟩
 ·rcases h1.2 with hn | ⟨g, cap, cur, rfl, hb, hg, rest⟩
  ·exact .inl hn
  ·exact .inr ⟨g, cap, cur, rfl, hb, (k.block g (Array.getElem?_eq_some_iff.1 hg).1).trans hg, rest⟩
 ·intro g hg
  have := h3 g hg
  obtain ⟨cur, e, q1, q2⟩ := this
  exact ⟨cur, e, (k.block g (Array.getElem?_eq_some_iff.1 q1).1).trans q1, q2⟩
 ·intro i d hi
  obtain ⟨x, y, z, x', y', z', a0, a1, a2, a3, a4, a5, hd⟩ := h4 i d hi
  exact ⟨x, y, z, x', y', z', a0, a1, a2, a3, a4, a5, hd.kept k⟩
theorem OwnI.ivS {w : World} {base : Nat} {v : Value} {l : List RawI} {xs : List Value} (h : OwnI w base v l xs) : IvS w v l := by
 obtain ⟨h1, h2, h2', h3, h4⟩ := h
 have hc := h1.2
 rcases hc with ⟨rfl, h0⟩ | ⟨g, cap, cur, rfl, hb, hg, hn, -⟩
 ·obtain rfl : l = [] := List.eq_nil_of_length_eq_zero h0
  exact ⟨none, 0, rfl, Nat.le_refl _, fun h => absurd h (by simp)⟩
 ·refine ⟨_, cap, rfl, hn, fun _ => ⟨g, 0, rfl, fun i d hi => ?_⟩⟩
  obtain ⟨x, y, z, x', y', z', a0, a1, a2, a3, a4, a5, hd⟩ := h4 i d hi
  have cl := h1.cells (g := g) rfl
  have ad : ∀ j, (⟨g, 0, none⟩ : Addr).add j = ⟨g, j, none⟩ := by intro j; unfold Addr.add; split <;> simp_all
  refine ⟨x, y, z, x', y', z', ?_, ?_, ?_, ?_, ?_, ?_, hd⟩
  ·have := cl _ _ a0; rw [ad] at this; simpa using this
  ·have := cl _ _ a1; rw [ad] at this; simpa using this
  ·have := cl _ _ a2; rw [ad] at this; simpa using this
  ·have := cl _ _ a3; rw [ad] at this; simpa using this
  ·have := cl _ _ a4; rw [ad] at this; simpa using this
  ·have := cl _ _ a5; rw [ad] at this; simpa using this
theorem OwnI.snoc {w w' : World} {base : Nat} {v v' : Value} {l : List RawI} {xs : List Value} {a : RawI} {x y z x' y' z' : Value} {g' : Nat} (h : OwnI w base v l xs)
 (hd : IvR w (.agg #[x, y, z, x', y', z']) a)
 (hr : w'.ownsRow base 32 6 v' (l.length + 1) (xs ++ [x, y, z, x', y', z'])) (hg : w.grownBy w' v.ownBlock) (hv' : v'.ownBlock = some g') (hN : NoL w' g') :
 OwnI w' base v' (l ++ [a]) (xs ++ [x, y, z, x', y', z']) := by
 have hcl := hd.cells
 obtain ⟨h1, h2, h2', h3, h4⟩ := h
 refine ⟨by simpa using hr, ?_, ?_, ?_, ?_⟩
 ·intro u hu
  rcases List.mem_append.1 hu with hu | hu
  ·exact h2 u hu
  ·exact (hcl u hu).1
 ·intro u hu
  rcases List.mem_append.1 hu with hu | hu
  ·exact h2' u hu
  ·exact (hcl u hu).2
 ·intro g hg
  rw [hv'] at hg
  cases hg
  exact hN
 ·intro i e hi
  have hxl := h1.1
  by_cases hlt : i < l.length
  ·rw [List.getElem?_append_left hlt] at hi
   obtain ⟨x, y, z, x', y', z', a0, a1, a2, a3, a4, a5, hd'⟩ := h4 i e hi
   have hh := (List.getElem?_eq_some_iff.1 a5).1
   refine ⟨x, y, z, x', y', z', ?_, ?_, ?_, ?_, ?_, ?_, hd'.grown hg h3⟩
   ·rw [List.getElem?_append_left (by omega)]; exact a0
   ·rw [List.getElem?_append_left (by omega)]; exact a1
   ·rw [List.getElem?_append_left (by omega)]; exact a2
   ·rw [List.getElem?_append_left (by omega)]; exact a3
   ·rw [List.getElem?_append_left (by omega)]; exact a4
   ·rw [List.getElem?_append_left (by omega)]; exact a5
  ·rw [List.getElem?_append_right (by omega)] at hi
   obtain ⟨hz, he⟩ := List.getElem?_eq_some_iff.1 hi
   simp at hz
   have hi' : i = l.length := by omega
   subst hi'
   simp at he
   subst he
   refine ⟨x, y, z, x', y', z', ?_, ?_, ?_, ?_, ?_, ?_, hd.grown hg h3⟩
   ·rw [List.getElem?_append_right (by omega), hxl, show l.length * 6 - l.length * 6 = 0 by omega]; rfl
   ·rw [List.getElem?_append_right (by omega), hxl, show l.length * 6 + 1 - l.length * 6 = 1 by omega]; rfl
   ·rw [List.getElem?_append_right (by omega), hxl, show l.length * 6 + 2 - l.length * 6 = 2 by omega]; rfl
   ·rw [List.getElem?_append_right (by omega), hxl, show l.length * 6 + 3 - l.length * 6 = 3 by omega]; rfl
   ·rw [List.getElem?_append_right (by omega), hxl, show l.length * 6 + 4 - l.length * 6 = 4 by omega]; rfl
   ·rw [List.getElem?_append_right (by omega), hxl, show l.length * 6 + 5 - l.length * 6 = 5 by omega]; rfl
theorem iinfo : (Tryz.prog.info? 32).map (fun i => (i.zero, i.size, i.bytes)) = some (some (.agg #[.bool false, .slice none 0 0, .int .i64 0, .bool false, .slice none 0 0, .int .i64 0]), 6, 80) := by kernel_rfl
theorem zcells_nl : ∀ u ∈ (Value.agg #[.bool false, .slice none 0 0, .int .i64 0, .bool false, .slice none 0 0, .int .i64 0]).cells.toList, NoLimb u := by
 intro u hu
 simp [Value.cells] at hu
 rcases hu with rfl | rfl | rfl | rfl | rfl | rfl
 ·exact noLimb_bool _
 ·exact noLimb_slice _ _ _
 ·exact noLimb_i64 _
 ·exact noLimb_bool _
 ·exact noLimb_slice _ _ _
 ·exact noLimb_i64 _
/-- Old memory is as it was, but for the blocks X; all limbs are. -/
structure KB (W : World) (X : List Nat) (w : World) : Prop where
 os : w.os = W.os
 tape : w.tape = W.tape
 output : w.output = W.output
 size : W.heap.size ≤ w.heap.size
 block : ∀ b, b < W.heap.size → b ∉ X → w.heap[b]? = W.heap[b]?
 limb : ∀ b i x, W.cell? ⟨b, i, none⟩ = some (.int .u64 x) → w.cell? ⟨b, i, none⟩ = some (.int .u64 x)
theorem cell_in {w : World} {b i : Nat} {v : Value} {cur : Array Value} {T : TypeId} {z : Nat × Nat} (h : w.heap[b]? = some (.cells cur T z)) (hc : w.cell? ⟨b, i, none⟩ = some v) : cur[i]? = some v := by
 simpa [World.cell?, h] using hc
theorem Kept.kb {w w' : World} (k : Kept w w') (X : List Nat) : KB w X w' :=
 ⟨k.os, k.tape, k.output, k.size, fun b hb _ => k.block b hb, fun b i _ h => (k.cell (p := ⟨b, i, none⟩) (lt_of_cell h)).trans h⟩
theorem KB.refl (w : World) (X : List Nat) : KB w X w := Kept.kb (Below.refl _ _) X
theorem KB.trans {a b c : World} {X Y : List Nat} (h : KB a X b) (k : KB b Y c) (hY : ∀ y ∈ Y, y ∈ X ∨ a.heap.size ≤ y) : KB a X c :=
 ⟨k.os.trans h.os, k.tape.trans h.tape, k.output.trans h.output, Nat.le_trans h.size k.size, fun i hi hn => by
  rw [k.block i (Nat.lt_of_lt_of_le hi h.size) (fun hy => by rcases hY i hy with q | q; exact hn q; omega), h.block i hi hn], fun b i x hp => k.limb b i x (h.limb b i x hp)⟩
theorem KB.step {a b c : World} {X : List Nat} (h : KB a X b) (k : Kept b c) : KB a X c := h.trans (k.kb []) (by simp)
theorem KB.drew {a b : World} {X : List Nat} (h : KB a X b) : KB a X b.drew := ⟨h.os, h.tape, h.output, h.size, h.block, h.limb⟩
theorem KB.kept {W0 W w : World} {X : List Nat} (h : Kept W0 W) (k : KB W X w) (hX : ∀ x ∈ X, W0.heap.size ≤ x) : Kept W0 w :=
 ⟨k.os.trans h.os, k.tape.trans h.tape, k.output.trans h.output, Nat.le_trans h.size k.size, fun i hi => by
  rw [k.block i (Nat.lt_of_lt_of_le hi h.size) (fun hx => by have := hX i hx; omega), h.block i hi]⟩
theorem KB.nil {W w : World} (k : KB W [] w) : Kept W w := KB.kept (Below.refl _ _) k (by simp)
theorem KB.setCell {W w : World} {X : List Nat} {b i : Nat} {x : Value} (h : KB W X w) (hb : b ∈ X) (hc : w.cell? ⟨b, i, none⟩ = some x) (hx : NoLimb x) (y : Value) : KB W X (w.setCell ⟨b, i, none⟩ y) :=
 ⟨h.os, h.tape, h.output, by simpa [World.setCell] using h.size, fun k hk hn => by rw [Below.heap_setCell _ _ _ _ (fun e => hn (by subst e; exact hb))]; exact h.block k hk hn, fun p j v hp => by
  have h1 := h.limb p j v hp
  rw [World.cell?_setCell_other]
  ·exact h1
  ·intro e
   injection e with e1 e2
   subst e1; subst e2
   rw [h1] at hc
   exact hx v (by injection hc with e; exact e.symm)⟩
theorem KB.grown {W w w' : World} {X : List Nat} {row : Option Nat} (h : KB W X w) (hg : w.grownBy w' row) (hX : ∀ g, row = some g → g ∈ X ∨ W.heap.size ≤ g) (hN : ∀ g, row = some g → NoL w g) : KB W X w' := by
 refine ⟨hg.os.trans h.os, hg.tape.trans h.tape, hg.output.trans h.output, Nat.le_trans h.size hg.size, fun b hb hn => ?_, fun p j x hp => ?_⟩
 ·rw [hg.block b (Nat.lt_of_lt_of_le hb h.size) (fun e => by rcases hX b e.symm with q | q; exact hn q; omega)]
  exact h.block b hb hn
 ·have h1 := h.limb p j x hp
  refine hg.cell h1 ?_
  intro he
  obtain ⟨cur, e, q1, q2⟩ := hN p he.symm
  have h4 := cell_in q1 h1
  exact q2 _ (Array.mem_toList_iff.2 (Array.mem_of_getElem? h4)) _ rfl
theorem Lim.kb {W w : World} {X : List Nat} {v : Value} {xs : List Nat} (h : Lim W v xs) (k : KB W X w) : Lim w v xs := by
 obtain ⟨hs, A, c, rfl, hc, hA⟩ := h
 refine ⟨hs, A, c, rfl, hc, fun h0 => ?_⟩
 obtain ⟨b, off, rfl, hb, hd⟩ := hA h0
 exact ⟨b, off, rfl, Nat.lt_of_lt_of_le hb k.size, fun i hi => k.limb _ _ _ (hd i hi)⟩
theorem DyR.kb {W w : World} {X : List Nat} {v : Value} {r : Raw} (h : DyR W v r) (k : KB W X w) : DyR w v r := by
 obtain ⟨s, rfl, hs, h1, h2⟩ := h
 exact ⟨s, rfl, hs.kb k, h1, h2⟩
theorem IvR.kb {W w : World} {X : List Nat} {v : Value} {a : RawI} (h : IvR W v a) (k : KB W X w) : IvR w v a := by
 obtain ⟨x, y, z, x', y', z', rfl, h1, h2⟩ := h
 exact ⟨x, y, z, x', y', z', rfl, h1.kb k, h2.kb k⟩
theorem IvC.kb {W w : World} {X : List Nat} {v : Value} {a : Iv} (h : IvC W v a) (k : KB W X w) : IvC w v a := IvR.kb h k
theorem KB.cell {W w : World} {X : List Nat} (k : KB W X w) {b i : Nat} {v : Value} (h : W.cell? ⟨b, i, none⟩ = some v) (hn : b ∉ X) : w.cell? ⟨b, i, none⟩ = some v := by
 have hb := lt_of_cell h
 rw [World.cell?_of_block (k.block b hb hn)]; exact h
theorem IvAt.kb {W w : World} {X : List Nat} {b o : Nat} {a : RawI} (h : IvAt W b o a) (k : KB W X w) (hn : b ∉ X) : IvAt w b o a := by
 obtain ⟨x, y, z, x', y', z', h0, h1, h2, h3, h4, h5, hd⟩ := h
 exact ⟨x, y, z, x', y', z', k.cell h0 hn, k.cell h1 hn, k.cell h2 hn, k.cell h3 hn, k.cell h4 hn, k.cell h5 hn, hd.kb k⟩
/-- The row's block is none of these. -/
def OffX (v : Value) (X : List Nat) : Prop := ∀ g, v.ownBlock = some g → g ∉ X
theorem IvS.kb {W w : World} {X : List Nat} {v : Value} {l : List RawI} (h : IvS W v l) (k : KB W X w) (hn : OffX v X) : IvS w v l := by
 obtain ⟨A, c, rfl, hc, hA⟩ := h
 refine ⟨A, c, rfl, hc, fun h0 => ?_⟩
 obtain ⟨b, off, rfl, hd⟩ := hA h0
 exact ⟨b, off, rfl, fun i d hi => (hd i d hi).kb k (hn b rfl)⟩
theorem LnS.kb {W w : World} {X : List Nat} {v : Value} {l : List Ln} (h : LnS W v l) (k : KB W X w) (hn : OffX v X) : LnS w v l := by
 obtain ⟨A, c, rfl, hc, hA⟩ := h
 refine ⟨A, c, rfl, hc, fun h0 => ?_⟩
 obtain ⟨b, off, rfl, hd⟩ := hA h0
 refine ⟨b, off, rfl, fun i d hi => ?_⟩
 obtain ⟨a0, a1, a2, a3⟩ := hd i d hi
 exact ⟨k.cell a0 (hn b rfl), k.cell a1 (hn b rfl), k.cell a2 (hn b rfl), a3.kb k (hn b rfl)⟩
theorem InS.kb {W w : World} {X : List Nat} {v : Value} {l : List Int} (h : InS W v l) (k : KB W X w) (hn : OffX v X) : InS w v l := by
 obtain ⟨A, c, rfl, hc, hA⟩ := h
 refine ⟨A, c, rfl, hc, fun h0 => ?_⟩
 obtain ⟨b, off, rfl, hd⟩ := hA h0
 exact ⟨b, off, rfl, fun i d hi => k.cell (hd i d hi) (hn b rfl)⟩
theorem BlkI.kb {W w : World} {X : List Nat} {b : Nat} {x y z x' y' z' : Value} (h : BlkI W b x y z x' y' z') (k : KB W X w) (hn : b ∉ X) : BlkI w b x y z x' y' z' :=
 (k.block b (Array.getElem?_eq_some_iff.1 h).1 hn).trans h
theorem Blk.kb {W w : World} {X : List Nat} {b : Nat} {x y z : Value} (h : Blk W b x y z) (k : KB W X w) (hn : b ∉ X) : Blk w b x y z :=
 (k.block b (Array.getElem?_eq_some_iff.1 h).1 hn).trans h
theorem KB.blk {W w : World} {X : List Nat} (k : KB W X w) {b : Nat} {o : Obj} (h : W.heap[b]? = some o) (hn : b ∉ X) : w.heap[b]? = some o :=
 (k.block b (Array.getElem?_eq_some_iff.1 h).1 hn).trans h
theorem Tab.kb {W w : World} {X : List Nat} (h : Tab W) (k : KB W X w) (hX : 0 ∉ X) : Tab w := fun j hj => k.cell (h j hj) hX
theorem Tab.ne {w : World} {b : Nat} {v : Value} (h : Tab w) (hc : w.cell? ⟨b, 0, none⟩ = some v) (hv : ∀ y, v ≠ .int .u8 y) : 0 ≠ b := by
 intro e
 subst e
 have h0 := h 0 (by decide)
 rw [hc] at h0
 injection h0 with h0
 exact hv _ h0
theorem Tab.lt {w : World} (h : Tab w) : 0 < w.heap.size := lt_of_cell (h 0 (by decide))
theorem cell_atX {W w : World} {X : List Nat} {b : Nat} {cs : Array Value} {T : TypeId} (h : W.heap[b]? = some (.cells cs T (0, 0))) (k : KB W X w) (hn : b ∉ X) (i : Nat) (v : Value) (hi : cs[i]? = some v) : w.cell? ⟨b, i, none⟩ = some v :=
 cell_of_block ((k.block b (Array.getElem?_eq_some_iff.1 h).1 hn).trans h) i v hi
/-- A struct laid into a block of X. -/
theorem KB.ivW {W w : World} {X : List Nat} {b : Nat} {n n' : Bool} {A A' : Option Addr} {l c l' c' : Nat} {e e' : Int} (h : KB W X w) (hb : BlkI w b (.bool n) (.slice A l c) (.int .i64 e) (.bool n') (.slice A' l' c') (.int .i64 e')) (hX : b ∈ X) (x y z x' y' z' : Value) :
 KB W X (Go.Proofs.YtgododcbmkpbjaaGreatDoor.ivW w b x y z x' y' z') := by
 have k0 : Below 0 w (Go.Proofs.YtgododcbmkpbjaaGreatDoor.ivW w b x y z x' y' z') :=
  ((((((Below.refl 0 w).setCell (p := ⟨b, 0, none⟩) (Nat.zero_le _) x).setCell (p := ⟨b, 1, none⟩) (Nat.zero_le _) y).setCell (p := ⟨b, 2, none⟩) (Nat.zero_le _) z).setCell (p := ⟨b, 3, none⟩) (Nat.zero_le _) x').setCell (p := ⟨b, 4, none⟩) (Nat.zero_le _) y').setCell (p := ⟨b, 5, none⟩) (Nat.zero_le _) z'
 have ho := fun k (hk : k ≠ b) => ivW_other w b k x y z x' y' z' hk
 generalize Go.Proofs.YtgododcbmkpbjaaGreatDoor.ivW w b x y z x' y' z' = w' at *
 refine ⟨k0.os.trans h.os, k0.tape.trans h.tape, k0.output.trans h.output, Nat.le_trans h.size k0.size, fun k hk hn => (ho k (fun e => hn (by subst e; exact hX))).trans (h.block k hk hn), fun p j v hp => ?_⟩
 have h1 := h.limb p j v hp
 have hne : p ≠ b := by
  rintro rfl
  exact hb.noLimb _ _ (cell_in hb h1) _ rfl
 rw [World.cell?_of_block (ho p hne)]
 exact h1
section
variable {P : Program} {ops : Array Oper} {Q : Exit → Act → World → Prop} {md : Region.Mode}
/-- An operation that keeps old memory. -/
theorem stepG_kept {J : (Nat → Bool) → World → Prop} {V : Nat → Value → World → Prop} {L : Nat → Bool} {i : Nat} {o : Oper} {a : Act} {w : World}
 (hV : ∀ j u w w', Kept w w' → V j u w → V j u w') (hJ : ∀ w', Kept w w' → J (upd L i true) w') (h : StepOK P ops Q V i o a w) : StepG P ops Q J V L i o a w := by
 unfold StepOK at h
 unfold StepG
 by_cases hw : Region.wanted o (yielded ops a.tmps) = true
 ·rw [if_pos hw] at h ⊢
  refine Oper.wp_mono (fun a' w' q => ?_) h
  obtain ⟨v, rfl, k, hv⟩ := q
  exact ⟨v, rfl, ⟨hJ w' k, fun j _ u hu => hV j u _ _ k hu⟩, hv⟩
 ·rw [if_neg hw] at h ⊢
  exact ⟨hJ w (Below.refl _ _), h⟩
theorem stepG_set {J : (Nat → Bool) → World → Prop} {V : Nat → Value → World → Prop} {L : Nat → Bool} {i : Nat} {o : Oper} {a : Act} {w w' : World} {v : Value} (hw : Region.wanted o (yielded ops a.tmps) = true)
 (h : (execOp a.eval o).run P w = .ok (.value v) w') (hJ : J (upd L i true) w') (hV : ∀ j, j ≠ i → ∀ u, V j u w → V j u w') (hv : V i v w') : StepG P ops Q J V L i o a w := by
 unfold StepG
 rw [if_pos hw]
 unfold Oper.wp
 rw [h]
 exact ⟨v, rfl, ⟨hJ, hV⟩, hv⟩
theorem stepG_store {J : (Nat → Bool) → World → Prop} {V : Nat → Value → World → Prop} {L : Nat → Bool} {i : Nat} {o : Oper} {a : Act} {w w' : World} (hw : Region.wanted o (yielded ops a.tmps) = true)
 (h : (execOp a.eval o).run P w = .ok .skip w') (hJ : J (upd L i true) w') (hV : ∀ j, j ≠ i → ∀ u, V j u w → V j u w') (hv : V i undef w') : StepG P ops Q J V L i o a w := by
 unfold StepG
 rw [if_pos hw]
 unfold Oper.wp
 rw [h]
 exact ⟨undef, rfl, ⟨hJ, hV⟩, hv⟩
theorem stepG_call {J : (Nat → Bool) → World → Prop} {V : Nat → Value → World → Prop} {L : Nat → Bool} {i : Nat} {o : Oper} {a : Act} {w : World} {f : FuncId} {args : Array Value} {R : Ending → World → Prop} (hw : Region.wanted o (yielded ops a.tmps) = true)
 (h : (execOp a.eval o).run P w = .ok (.enter f args) w) (hc : Calls P f args w R)
 (hr : ∀ e w', R e w' → ∃ v, e = .returned v ∧ (J (upd L i true) w' ∧ ∀ j, j ≠ i → ∀ u, V j u w → V j u w') ∧ V i v w') : StepG P ops Q J V L i o a w := by
 unfold StepG
 rw [if_pos hw]
 unfold Oper.wp
 rw [h]
 refine Calls.mono hc (fun e w' he => ?_)
 obtain ⟨v, rfl, hk, hv⟩ := hr e w' he
 exact ⟨v, rfl, hk, hv⟩
/-- An operation that keeps old memory, or any one. -/
def StepX (P : Program) (ops : Array Oper) (Q : Exit → Act → World → Prop) (J : (Nat → Bool) → World → Prop) (V : Nat → Value → World → Prop) (L : Nat → Bool) (i : Nat) (o : Oper) (a : Act) (w : World) : Prop :=
 ((∀ w', Kept w w' → J (upd L i true) w') ∧ StepOK P ops Q V i o a w) ∨ StepG P ops Q J V L i o a w
/-- The steps of the operations of a list. -/
def StepsX (P : Program) (md : Region.Mode) (ops : Array Oper) (Q : Exit → Act → World → Prop) (m : Nat) (J : (Nat → Bool) → World → Prop) (V : Nat → Value → World → Prop) (a0 : Act) : Nat → Nat → List Oper → Prop
 | _, 0, _ => True
 | _, _ + 1, [] => True
 | i, k + 1, o :: l => (∀ L a w, FindsG md ops m J V a0 L i a w → StepX P ops Q J V L i o a w) ∧ StepsX P md ops Q m J V a0 (i + 1) k l
theorem stepsX_at {m : Nat} {J : (Nat → Bool) → World → Prop} {V : Nat → Value → World → Prop} {a0 : Act} : ∀ (k i0 : Nat) (l : List Oper), StepsX P md ops Q m J V a0 i0 k l →
 ∀ i o, i < k → l[i]? = some o → ∀ L a w, FindsG md ops m J V a0 L (i0 + i) a w → StepX P ops Q J V L (i0 + i) o a w
 | 0, _, _, _, _, _, hi, _ => absurd hi (Nat.not_lt_zero _)
 | k + 1, _, [], _, _, _, _, ho => by simp at ho
 | k + 1, i0, x :: l, h, 0, o, _, ho => by
   simp at ho; subst ho
   exact h.1
 | k + 1, i0, x :: l, h, i + 1, o, hi, ho => by
   have := stepsX_at k (i0 + 1) l h.2 i o (by omega) (by simpa using ho)
   have e : i0 + 1 + i = i0 + (i + 1) := by omega
   rw [e] at this
   exact this
theorem region_linX {id m : Nat} {J : (Nat → Bool) → World → Prop} {l : List (Value → World → Prop)} {a0 : Act} {W : World} (hm : P.follows .mixedOrders = true)
 (hsz : m = ops.size) (hap : apartSlots ops m = true) (hin : slotsIn ops m a0.tmps.size = true) (hbk : backOk .any ops = true) (hM : MonoL l)
 (hJ : J (fun _ => false) W.drew) (hstep : StepsX P .any ops Q m J (VL l) a0 0 m ops.toList)
 (hend : ∀ u w L, (∀ i, i < m → L i = true) → J L w → (∀ i, i < m → VL l i (u i) w) → Q .normal (puts ops (fun _ => true) u m a0) w) :
 (Code.region id ops true).wp P Q a0 W := by
 refine region_linG (J := J) (V := VL l) hm hsz hap hin hbk hJ (fun i o hi ho L a w F => ?_) hend
 have h := stepsX_at m 0 ops.toList hstep i o hi (by simpa using ho) L a w (by simpa using F)
 rw [Nat.zero_add] at h
 rcases h with ⟨h1, h2⟩ | h
 ·exact stepG_kept (mono_of l hM) h1 h2
 ·exact h
/-- What the others have yielded stays so. -/
def StabX (w w' : World) (s : Nat) : Nat → List (Value → World → Prop) → Prop
 | _, [] => True
 | i, p :: l => (i = s ∨ ∀ u, p u w → p u w') ∧ StabX w w' s (i + 1) l
theorem stabX_at {w w' : World} {s : Nat} : ∀ (l : List (Value → World → Prop)) (i0 : Nat), StabX w w' s i0 l → ∀ j, i0 + j ≠ s → ∀ u, VL l j u w → VL l j u w'
 | [], _, _, _, _, _, _ => trivial
 | _ :: _, _, h, 0, hj, u, hu => (h.1.resolve_left (by simpa using hj)) u hu
 | _ :: l, i0, h, j + 1, hj, u, hu => stabX_at l (i0 + 1) h.2 j (by omega) u hu
theorem stab_of {w w' : World} {s : Nat} (l : List (Value → World → Prop)) (h : StabX w w' s 0 l) : ∀ j, j ≠ s → ∀ u, VL l j u w → VL l j u w' :=
 fun j hj u hu => stabX_at l 0 h j (by omega) u hu
theorem vS {x : Value} {w w' : World} : ∀ u, vE x u w → vE x u w' := fun _ h => by
 unfold vE at h ⊢
 exact h
variable {m i : Nat} {J : (Nat → Bool) → World → Prop} {l : List (Value → World → Prop)} {a0 a : Act} {w : World} {L : Nat → Bool}
theorem FindsG.v (F : FindsG md ops m J (VL l) a0 L i a w) (j t : Nat) {x : Value} (h : l.getD j (fun _ _ => True) = vE x := by exact rfl) (h1 : waitsFor md ops i j = true := by kernel_rfl) (h2 : slotOf ops j = some t := by exact rfl) : a.tmps.getD t undef = x := by
 have h3 := F.done j t h1 h2
 unfold VL at h3
 rw [h] at h3
 exact h3
theorem FindsG.p (F : FindsG md ops m J (VL l) a0 L i a w) (j t : Nat) {p : Value → World → Prop} (h : l.getD j (fun _ _ => True) = p := by exact rfl) (h1 : waitsFor md ops i j = true := by kernel_rfl) (h2 : slotOf ops j = some t := by exact rfl) : p (a.tmps.getD t undef) w := by
 have h3 := F.done j t h1 h2
 unfold VL at h3
 rw [h] at h3
 exact h3
theorem FindsG.o {V : Nat → Value → World → Prop} (F : FindsG md ops m J V a0 L i a w) (t : Nat) (h : untouched md ops m i t = true := by kernel_rfl) : a.tmps.getD t undef = a0.tmps.getD t undef := F.old t h
end
/-- An own row: cells none of which is a limb. -/
structure OwnG (w : World) (base : Nat) (T : TypeId) (s : Nat) (v : Value) (n : Nat) (xs : List Value) : Prop where
 row : w.ownsRow base T s v n xs
 nl : ∀ u ∈ xs, NoLimb u
 one : ∀ u ∈ xs, u.oneCell' = true
 blk : ∀ g, v.ownBlock = some g → NoL w g
theorem OwnG.nil (w : World) (base : Nat) (T : TypeId) (s : Nat) : OwnG w base T s (.slice none 0 0) 0 [] :=
 ⟨World.ownsRow_nil _ _ _ _, by simp, by simp, by intro g h; simp [Value.ownBlock] at h⟩
theorem OwnG.same {w w' : World} {base : Nat} {T : TypeId} {s : Nat} {v : Value} {n : Nat} {xs : List Value} (h : OwnG w base T s v n xs) (e : ∀ g, v.ownBlock = some g → w'.heap[g]? = w.heap[g]?) : OwnG w' base T s v n xs := by
 obtain ⟨h1, h2, h3, h4⟩ := h
 refine ⟨⟨h1.1, ?_⟩, h2, h3, fun g hg => (h4 g hg).of_block (e g hg)⟩
 rcases h1.2 with hn | ⟨g, cap, cur, rfl, hb, hg, rest⟩
 ·exact .inl hn
 ·exact .inr ⟨g, cap, cur, rfl, hb, (e g rfl).trans hg, rest⟩
theorem OwnG.kb {w w' : World} {X : List Nat} {base : Nat} {T : TypeId} {s : Nat} {v : Value} {n : Nat} {xs : List Value} (h : OwnG w base T s v n xs) (k : KB w X w') (hn : OffX v X) : OwnG w' base T s v n xs :=
 h.same fun g hg => by
  obtain ⟨cur, e, hc, -⟩ := h.blk g hg
  rw [k.blk hc (hn g hg), hc]
theorem offX_nil (v : Value) : OffX v [] := fun _ _ h => by cases h
theorem OwnG.kept {w w' : World} {base : Nat} {T : TypeId} {s : Nat} {v : Value} {n : Nat} {xs : List Value} (h : OwnG w base T s v n xs) (k : Kept w w') : OwnG w' base T s v n xs := h.kb (k.kb []) (offX_nil v)
theorem OwnG.lt {w : World} {base : Nat} {T : TypeId} {s : Nat} {v : Value} {n : Nat} {xs : List Value} (h : OwnG w base T s v n xs) (g : Nat) (hg : v.ownBlock = some g) : g < w.heap.size ∧ base ≤ g := by
 obtain ⟨cur, e, hc, -⟩ := h.blk g hg
 refine ⟨(Array.getElem?_eq_some_iff.1 hc).1, ?_⟩
 rcases h.row.2 with ⟨rfl, -⟩ | ⟨g', cap, cur, rfl, hb, -⟩
 ·simp [Value.ownBlock] at hg
 ·simp [Value.ownBlock] at hg; subst hg; exact hb
theorem OwnG.shape {w : World} {base : Nat} {T : TypeId} {s : Nat} {v : Value} {n : Nat} {xs : List Value} (h : OwnG w base T s v n xs) : ∃ A c, v = .slice A n c ∧ n ≤ c := by
 rcases h.row.2 with ⟨rfl, rfl⟩ | ⟨g, cap, cur, rfl, -, -, hc, -⟩
 ·exact ⟨none, 0, rfl, Nat.le_refl _⟩
 ·exact ⟨_, cap, rfl, hc⟩
theorem OwnG.at {w : World} {base : Nat} {T : TypeId} {s : Nat} {v : Value} {n : Nat} {xs : List Value} (h : OwnG w base T s v n xs) (h0 : 0 < n) : ∃ b c, v = .slice (some ⟨b, 0, none⟩) n c ∧ n ≤ c ∧ ∀ (j : Nat) u, xs[j]? = some u → w.cell? ⟨b, j, none⟩ = some u := by
 rcases h.row.2 with ⟨rfl, rfl⟩ | ⟨g, cap, cur, rfl, hb, hg, hc, -⟩
 ·omega
 ·refine ⟨g, cap, rfl, hc, fun j u hu => ?_⟩
  have := h.row.cells (g := g) rfl j u hu
  rw [show (⟨g, 0, none⟩ : Addr).add j = ⟨g, j, none⟩ by unfold Addr.add; split <;> simp_all] at this
  exact this
theorem OwnG.append {P : Program} {w : World} {base : Nat} {t e : TypeId} (ty : TypeId) {i : TypeInfo} {z : Value} {size bytes : Nat} (ht : P.underlying t = some (.slice e)) (hi : P.info? e = some i) (hz : i.zero = some z)
 (hsize : i.size = size) (hby : i.bytes = bytes) (hzs : z.cells.size = size) (hsz : 0 < size) (h2 : bytes ≤ 1000) (hzl : ∀ u ∈ z.cells.toList, NoLimb u)
 {v : Value} {n : Nat} {xs : List Value} (h : OwnG w base e size v n xs)
 {b m c : Nat} {news : List Value} (hl : news.length = m * size) (hnews : ∀ j u, news[j]? = some u → w.cell? ⟨b, j, none⟩ = some u) (h1 : ∀ u ∈ news, u.oneCell' = true)
 (hnl : ∀ u ∈ news, NoLimb u) (hm : 0 < m) (hn : n + m ≤ 1000) (hbase : base ≤ w.heap.size) :
 ∃ v' w' g', (Builtin.append_ #[t, t] ty #[v, .slice (some ⟨b, 0, none⟩) m c]).run P w = .ok v' w' ∧ OwnG w' base e size v' (n + m) (xs ++ news) ∧ w.grownBy w' v.ownBlock ∧
   v'.ownBlock = some g' ∧ (v.ownBlock = some g' ∨ w.heap.size ≤ g') := by
 have ad : ∀ j, (⟨b, 0, none⟩ : Addr).add j = ⟨b, j, none⟩ := by intro j; unfold Addr.add; split <;> simp_all
 have hnews' : ∀ j u, news[j]? = some u → w.cell? ((⟨b, 0, none⟩ : Addr).add j) = some u := fun j u hu => by rw [ad]; exact hnews j u hu
 have h63 : n + m ≤ maxLen := by unfold maxLen; omega
 have hbytes : (n + m) * bytes ≤ 140737488355328 := Nat.le_trans (Nat.mul_le_mul hn h2) (by decide)
 have hxs : ∀ u ∈ xs ++ news, NoLimb u := fun u hu => (List.mem_append.1 hu).elim (h.nl u) (hnl u)
 have hx1 : ∀ u ∈ xs ++ news, u.oneCell' = true := fun u hu => (List.mem_append.1 hu).elim (h.one u) (h1 u)
 obtain ⟨v', w', g', hr, q1, q2, q3, q4⟩ := run_append_nol (P := P) w base t ty e i z size bytes ht hi hz hsize hby hzs hsz v n xs h.row ⟨b, 0, none⟩ m c news hl hnews' h1 h63 hbytes hbase hm h.nl hnl hzl h.blk
 refine ⟨v', w', g', hr, ⟨q1, hxs, hx1, fun g hg => by rw [q3] at hg; cases hg; exact q4⟩, q2, q3, ?_⟩
 subst hsize
 subst hby
 have hown := h.row
 rcases hown.2 with ⟨rfl, rfl⟩ | ⟨g, cap, cur, rfl, hbg, hg, hnc, hcm, hcs, htake⟩
 ·have hr2 := run_append_nil (P := P) w t ty e i z ht hi hz ⟨b, 0, none⟩ m c news hl hnews' (by omega) (by simp only [maxLen] at h63; omega) (by have hb := hbytes; simp only [Nat.zero_add] at hb; omega)
  rw [hr2] at hr
  injection hr with e1 e2
  subst e1
  simp [Value.ownBlock] at q3
  right; omega
 ·by_cases hroom : n + m ≤ cap
  ·have hfit : n * i.size + news.length ≤ cur.size := by rw [hl, hcs, ← Nat.add_mul]; exact Nat.mul_le_mul_right _ hroom
   have hr2 := run_append_room (P := P) w t ty e i ht hi g n cap cur hg ⟨b, 0, none⟩ m c news hl hnews' h1 hroom hfit
   rw [hr2] at hr
   injection hr with e1 e2
   subst e1
   simp [Value.ownBlock] at q3
   left; simp [Value.ownBlock, q3]
  ·have holds : ∀ j u, xs[j]? = some u → w.cell? ((⟨g, 0, none⟩ : Addr).add j) = some u := hown.cells (g := g) rfl
   have hr2 := run_append_grow (P := P) w t ty e i z ht hi hz ⟨g, 0, none⟩ n cap xs hown.1 holds ⟨b, 0, none⟩ m c news hl hnews' (by omega) (by simp only [maxLen] at h63; omega) (growslice_fits (by omega) hbytes)
   rw [hr2] at hr
   injection hr with e1 e2
   subst e1
   simp [Value.ownBlock] at q3
   right; omega
/-- Cells read one behind the other as a list. -/
def RowC {α : Type} (R : List Value → α → Prop) : List Value → List α → Prop
 | xs, [] => xs = []
 | xs, a :: l => ∃ c rest, xs = c ++ rest ∧ R c a ∧ RowC R rest l
theorem RowC.append {α : Type} {R : List Value → α → Prop} : ∀ {l m : List α} {xs ys : List Value}, RowC R xs l → RowC R ys m → RowC R (xs ++ ys) (l ++ m)
 | [], m, xs, ys, h, g => by cases h; exact g
 | a :: l, m, xs, ys, h, g => by
   obtain ⟨c, rest, rfl, hc, hr⟩ := h
   exact ⟨c, rest ++ ys, by rw [List.append_assoc], hc, hr.append g⟩
theorem RowC.one {α : Type} {R : List Value → α → Prop} {c : List Value} {a : α} (h : R c a) : RowC R c [a] := ⟨c, [], by rw [List.append_nil], h, rfl⟩
theorem RowC.mono {α : Type} {R S : List Value → α → Prop} (hs : ∀ c a, R c a → S c a) : ∀ {l : List α} {xs : List Value}, RowC R xs l → RowC S xs l
 | [], xs, h => h
 | a :: l, xs, h => by
   obtain ⟨c, rest, rfl, hc, hr⟩ := h
   exact ⟨c, rest, rfl, hs c a hc, hr.mono hs⟩
theorem RowC.at {α : Type} {R : List Value → α → Prop} {s : Nat} (hs : ∀ c a, R c a → c.length = s) : ∀ {l : List α} {xs : List Value}, RowC R xs l → ∀ (i : Nat) (a : α), l[i]? = some a → ∃ c, R c a ∧ ∀ j, j < s → xs[i * s + j]? = c[j]?
 | [], xs, h, i, a, hi => by simp at hi
 | b :: l, xs, h, 0, a, hi => by
   obtain ⟨c, rest, rfl, hc, hr⟩ := h
   cases hi
   exact ⟨c, hc, fun j hj => by rw [Nat.zero_mul, Nat.zero_add, List.getElem?_append_left (by rw [hs c _ hc]; exact hj)]⟩
 | b :: l, xs, h, i + 1, a, hi => by
   obtain ⟨c, rest, rfl, hc, hr⟩ := h
   obtain ⟨d, hd, hj⟩ := hr.at hs i a hi
   refine ⟨d, hd, fun j hj' => ?_⟩
   rw [← hj j hj', List.getElem?_append_right (by rw [hs c _ hc, Nat.succ_mul]; omega), hs c _ hc, Nat.succ_mul]
   congr 1; omega
/-- The cells of a Dyad, an interval, a line. -/
def CellD (w : World) (c : List Value) (d : Raw) : Prop := ∃ x y z, c = [x, y, z] ∧ DyR w (.agg #[x, y, z]) d
def CellI (w : World) (c : List Value) (a : RawI) : Prop := ∃ x y z x' y' z', c = [x, y, z, x', y', z'] ∧ IvR w (.agg #[x, y, z, x', y', z']) a
def CellL (w : World) (c : List Value) (l : Ln) : Prop := ∃ x y z x' y' z', c = [.int .i64 l.op, .int .i64 l.a, .int .i64 l.b, x, y, z, x', y', z'] ∧ IvR w (.agg #[x, y, z, x', y', z']) l.k
theorem CellD.kb {w w' : World} {X : List Nat} {c : List Value} {d : Raw} (h : CellD w c d) (k : KB w X w') : CellD w' c d := by
 obtain ⟨x, y, z, e, h⟩ := h
 exact ⟨x, y, z, e, h.kb k⟩
theorem CellI.kb {w w' : World} {X : List Nat} {c : List Value} {d : RawI} (h : CellI w c d) (k : KB w X w') : CellI w' c d := by
 obtain ⟨x, y, z, x', y', z', e, h⟩ := h
 exact ⟨x, y, z, x', y', z', e, h.kb k⟩
theorem CellL.kb {w w' : World} {X : List Nat} {c : List Value} {d : Ln} (h : CellL w c d) (k : KB w X w') : CellL w' c d := by
 obtain ⟨x, y, z, x', y', z', e, h⟩ := h
 exact ⟨x, y, z, x', y', z', e, h.kb k⟩
theorem CellL.nl {w : World} {c : List Value} {l : Ln} (h : CellL w c l) : ∀ u ∈ c, NoLimb u ∧ u.oneCell' = true := by
 obtain ⟨x, y, z, x', y', z', rfl, hI⟩ := h
 have hc := hI.cells
 intro u hu
 simp only [List.mem_cons, List.not_mem_nil, or_false] at hu hc
 rcases hu with rfl | rfl | rfl | hu
 ·exact ⟨noLimb_i64 _, rfl⟩
 ·exact ⟨noLimb_i64 _, rfl⟩
 ·exact ⟨noLimb_i64 _, rfl⟩
 ·exact hc u hu
theorem CellI.nl {w : World} {c : List Value} {a : RawI} (h : CellI w c a) : ∀ u ∈ c, NoLimb u ∧ u.oneCell' = true := by
 obtain ⟨x, y, z, x', y', z', rfl, hI⟩ := h
 exact hI.cells
theorem CellD.nl {w : World} {c : List Value} {d : Raw} (h : CellD w c d) : ∀ u ∈ c, NoLimb u ∧ u.oneCell' = true := by
 obtain ⟨x, y, z, rfl, hd⟩ := h
 obtain ⟨A, l, c, e, -⟩ := rawR_split hd
 injection e with e; injection e with e
 simp only [List.cons.injEq, and_true] at e
 obtain ⟨rfl, rfl, rfl⟩ := e
 intro u hu
 simp only [List.mem_cons, List.not_mem_nil, or_false] at hu
 rcases hu with rfl | rfl | rfl
 ·exact ⟨noLimb_bool _, rfl⟩
 ·exact ⟨noLimb_slice _ _ _, rfl⟩
 ·exact ⟨noLimb_i64 _, rfl⟩
theorem RowC.all {α : Type} {R : List Value → α → Prop} {Q : Value → Prop} (hq : ∀ c a, R c a → ∀ u ∈ c, Q u) : ∀ {l : List α} {xs : List Value}, RowC R xs l → ∀ u ∈ xs, Q u
 | [], xs, h, u, hu => by cases h; cases hu
 | a :: l, xs, h, u, hu => by
   obtain ⟨c, rest, rfl, hc, hr⟩ := h
   rcases List.mem_append.1 hu with hu | hu
   ·exact hq c a hc u hu
   ·exact hr.all hq u hu
theorem RowC.len {α : Type} {R : List Value → α → Prop} {s : Nat} (hs : ∀ c a, R c a → c.length = s) : ∀ {l : List α} {xs : List Value}, RowC R xs l → xs.length = l.length * s
 | [], xs, h => by cases h; simp
 | a :: l, xs, h => by
   obtain ⟨c, rest, rfl, hc, hr⟩ := h
   rw [List.length_append, hs c a hc, hr.len hs, List.length_cons, Nat.succ_mul, Nat.add_comm]
theorem CellD.len {w : World} (c : List Value) (d : Raw) (h : CellD w c d) : c.length = 3 := by obtain ⟨x, y, z, rfl, -⟩ := h; rfl
theorem CellI.len {w : World} (c : List Value) (d : RawI) (h : CellI w c d) : c.length = 6 := by obtain ⟨x, y, z, x', y', z', rfl, -⟩ := h; rfl
theorem CellL.len {w : World} (c : List Value) (d : Ln) (h : CellL w c d) : c.length = 9 := by obtain ⟨x, y, z, x', y', z', rfl, -⟩ := h; rfl
theorem OwnG.ivS {w : World} {base : Nat} {T : TypeId} {v : Value} {n : Nat} {xs : List Value} {l : List RawI} (h : OwnG w base T 6 v n xs) (hc : RowC (CellI w) xs l) (hn : l.length = n) : IvS w v l := by
 obtain ⟨A, c, rfl, hcap⟩ := h.shape
 subst hn
 refine ⟨A, c, rfl, hcap, fun h0 => ?_⟩
 obtain ⟨b, c', e, -, hcl⟩ := h.at h0
 injection e with e
 subst e
 refine ⟨b, 0, rfl, fun i a hi => ?_⟩
 obtain ⟨cc, ⟨x, y, z, x', y', z', rfl, hI⟩, hj⟩ := hc.at CellI.len i a hi
 rw [Nat.zero_add]
 exact ⟨x, y, z, x', y', z', hcl _ _ (hj 0 (by decide)), hcl _ _ (hj 1 (by decide)), hcl _ _ (hj 2 (by decide)), hcl _ _ (hj 3 (by decide)), hcl _ _ (hj 4 (by decide)), hcl _ _ (hj 5 (by decide)), hI⟩
theorem OwnG.lnS {w : World} {base : Nat} {T : TypeId} {v : Value} {n : Nat} {xs : List Value} {l : List Ln} (h : OwnG w base T 9 v n xs) (hc : RowC (CellL w) xs l) (hn : l.length = n) : LnS w v l := by
 obtain ⟨A, c, rfl, hcap⟩ := h.shape
 subst hn
 refine ⟨A, c, rfl, hcap, fun h0 => ?_⟩
 obtain ⟨b, c', e, -, hcl⟩ := h.at h0
 injection e with e
 subst e
 refine ⟨b, 0, rfl, fun i a hi => ?_⟩
 obtain ⟨cc, ⟨x, y, z, x', y', z', rfl, hI⟩, hj⟩ := hc.at CellL.len i a hi
 rw [Nat.zero_add]
 exact ⟨hcl _ _ (hj 0 (by decide)), hcl _ _ (hj 1 (by decide)), hcl _ _ (hj 2 (by decide)), x, y, z, x', y', z', hcl _ _ (hj 3 (by decide)), hcl _ _ (hj 4 (by decide)), hcl _ _ (hj 5 (by decide)), hcl _ _ (hj 6 (by decide)), hcl _ _ (hj 7 (by decide)), hcl _ _ (hj 8 (by decide)), hI⟩
/-- A new slice that is appended. -/
def SrcC (lo : Nat) (m : Nat) (news : List Value) (w : World) (v : Value) : Prop := ∃ b, v = .slice (some ⟨b, 0, none⟩) m m ∧ lo ≤ b ∧ ∀ j u, news[j]? = some u → w.cell? ⟨b, j, none⟩ = some u
theorem SrcC.kept {lo m : Nat} {news : List Value} {w w' : World} {v : Value} (h : SrcC lo m news w v) (k : Kept w w') : SrcC lo m news w' v := by
 obtain ⟨b, e, hb, hc⟩ := h
 exact ⟨b, e, hb, fun j u hu => (k.cell (p := ⟨b, j, none⟩) (lt_of_cell (hc j u hu))).trans (hc j u hu)⟩
theorem SrcC.kb {lo m : Nat} {news : List Value} {w w' : World} {v : Value} {X : List Nat} (h : SrcC lo m news w v) (k : KB w X w') (hX : ∀ x ∈ X, x < lo) : SrcC lo m news w' v := by
 obtain ⟨b, e, hb, hc⟩ := h
 exact ⟨b, e, hb, fun j u hu => k.cell (hc j u hu) (fun hx => by have := hX b hx; omega)⟩
theorem srcC_new {lo m : Nat} {w : World} {T : TypeId} {cs : Array Value} {news : List Value} (hlo : lo ≤ w.heap.size) (e : cs.toList = news) : SrcC lo m news (w.alloc (.cells cs T)) (.slice (some ⟨w.heap.size, 0, none⟩) m m) :=
 ⟨_, rfl, hlo, fun j u hu => cell_of_block (heap_alloc_new w _) j u (by rw [← e, Array.getElem?_toList] at hu; exact hu)⟩
/-- What the cells of a row are, however memory grows. -/
def StabC (C : World → List Value → Prop) : Prop := ∀ w w' X xs, KB w X w' → C w xs → C w' xs
def RowD (l : List Raw) (w : World) (xs : List Value) : Prop := RowC (CellD w) xs l
def RowI (l : List RawI) (w : World) (xs : List Value) : Prop := RowC (CellI w) xs l
def RowL (l : List Ln) (w : World) (xs : List Value) : Prop := RowC (CellL w) xs l
theorem stab_D (l : List Raw) : StabC (RowD l) := fun _ _ _ _ k h => h.mono fun _ _ q => q.kb k
theorem stab_I (l : List RawI) : StabC (RowI l) := fun _ _ _ _ k h => h.mono fun _ _ q => q.kb k
theorem stab_L (l : List Ln) : StabC (RowL l) := fun _ _ _ _ k h => h.mono fun _ _ q => q.kb k
/-- A new slice whose cells are such ones. -/
def SrcR (C : World → List Value → Prop) (lo m : Nat) (w : World) (v : Value) : Prop := ∃ cs, C w cs ∧ SrcC lo m cs w v
theorem SrcR.kept {C : World → List Value → Prop} (hC : StabC C) {lo m : Nat} {w w' : World} {v : Value} (h : SrcR C lo m w v) (k : Kept w w') : SrcR C lo m w' v := by
 obtain ⟨cs, h1, h2⟩ := h
 exact ⟨cs, hC _ _ [] _ (k.kb []) h1, h2.kept k⟩
theorem SrcR.kb {C : World → List Value → Prop} (hC : StabC C) {lo m : Nat} {w w' : World} {v : Value} {X : List Nat} (h : SrcR C lo m w v) (k : KB w X w') (hX : ∀ x ∈ X, x < lo) : SrcR C lo m w' v := by
 obtain ⟨cs, h1, h2⟩ := h
 exact ⟨cs, hC _ _ _ _ k h1, h2.kb k hX⟩
/-- The row's own block, if it has one. -/
def ownL (v : Value) : List Nat := v.ownBlock.toList
theorem mem_ownL {v : Value} {g : Nat} : g ∈ ownL v ↔ v.ownBlock = some g := by unfold ownL; simp [Option.mem_toList]
/-- The row v is appended to: it is v' now. -/
def AppV (base : Nat) (T : TypeId) (s : Nat) (v : Value) (n : Nat) (C : World → List Value → Prop) (hs : Nat) (w : World) (v' : Value) : Prop :=
 (∃ xs, OwnG w base T s v' n xs ∧ C w xs) ∧ ∃ g', v'.ownBlock = some g' ∧ (v.ownBlock = some g' ∨ hs ≤ g')
theorem AppV.same {base : Nat} {T : TypeId} {s : Nat} {v : Value} {n : Nat} {C : World → List Value → Prop} (hC : StabC C) {hs : Nat} {w w' : World} {v' : Value} {X : List Nat} (h : AppV base T s v n C hs w v') (k : KB w X w') (hX : OffX v' X) : AppV base T s v n C hs w' v' := by
 obtain ⟨⟨xs, h1, h2⟩, h3⟩ := h
 exact ⟨⟨xs, h1.kb k hX, hC _ _ _ _ k h2⟩, h3⟩
theorem AppV.kept {base : Nat} {T : TypeId} {s : Nat} {v : Value} {n : Nat} {C : World → List Value → Prop} (hC : StabC C) {hs : Nat} {w w' : World} {v' : Value} (h : AppV base T s v n C hs w v') (k : Kept w w') : AppV base T s v n C hs w' v' := h.same hC (k.kb []) (offX_nil _)
theorem AppV.mono {base : Nat} {T : TypeId} {s : Nat} {v : Value} {n : Nat} {C : World → List Value → Prop} {hs hs' : Nat} {w : World} {v' : Value} (h : AppV base T s v n C hs w v') (hle : hs' ≤ hs) : AppV base T s v n C hs' w v' := by
 obtain ⟨h1, g, h2, h3⟩ := h
 exact ⟨h1, g, h2, h3.imp id fun q => Nat.le_trans hle q⟩
/-- The appends. -/
theorem app_gen {α : Type} {t T : TypeId} (ty : TypeId) {i : TypeInfo} {z : Value} {s bytes : Nat} (ht : Tryz.prog.underlying t = some (.slice T)) (hi : Tryz.prog.info? T = some i) (hz : i.zero = some z)
 (hsize : i.size = s) (hby : i.bytes = bytes) (hzs : z.cells.size = s) (hsz : 0 < s) (h2 : bytes ≤ 1000) (hzl : ∀ u ∈ z.cells.toList, NoLimb u)
 {R : World → List Value → α → Prop} (hR : ∀ w w' X c a, KB w X w' → R w c a → R w' c a) (hlen : ∀ w c a, R w c a → c.length = s) (hnl : ∀ w c a, R w c a → ∀ u ∈ c, NoLimb u ∧ u.oneCell' = true)
 {w : World} {base : Nat} {v vs : Value} {n lo m : Nat} {xs : List Value} {l l2 : List α} (h : OwnG w base T s v n xs) (hl : RowC (R w) xs l) (hs : SrcR (fun w cs => RowC (R w) cs l2) lo m w vs) (hm : l2.length = m) (hm0 : 0 < m)
 (hn : n + m ≤ 1000) (hb : base ≤ w.heap.size) :
 ∃ v' w', (Builtin.append_ #[t, t] ty #[v, vs]).run Tryz.prog w = .ok v' w' ∧ w.grownBy w' v.ownBlock ∧ KB w (ownL v) w' ∧ AppV base T s v (n + m) (fun w xs => RowC (R w) xs (l ++ l2)) w.heap.size w' v' := by
 obtain ⟨cs, hc, b, rfl, -, hcl⟩ := hs
 have hcn := hc.all (Q := fun u => NoLimb u ∧ u.oneCell' = true) (fun c a q => hnl w c a q)
 have hcl' := hc.len (fun c a q => hlen w c a q)
 obtain ⟨v', w', g', hr, q1, q2, q3, q4⟩ := h.append ty ht hi hz hsize hby hzs hsz h2 hzl (b := b) (m := m) (c := m) (news := cs) (by rw [hcl', hm]) hcl (fun u hu => (hcn u hu).2) (fun u hu => (hcn u hu).1) hm0 hn hb
 have hk : KB w (ownL v) w' := (KB.refl w _).grown q2 (fun g hg => .inl (mem_ownL.2 hg)) h.blk
 exact ⟨v', w', hr, q2, hk, ⟨xs ++ cs, q1, (hl.mono fun _ _ q => hR _ _ _ _ _ hk q).append (hc.mono fun _ _ q => hR _ _ _ _ _ hk q)⟩, g', q3, q4⟩
theorem linfo : (Tryz.prog.info? 41).map (fun i => (i.zero, i.size, i.bytes)) = some (some (.agg #[.int .i64 0, .int .i64 0, .int .i64 0, .bool false, .slice none 0 0, .int .i64 0, .bool false, .slice none 0 0, .int .i64 0]), 9, 104) := by kernel_rfl
theorem zcl_nl : ∀ u ∈ (Value.agg #[.int .i64 0, .int .i64 0, .int .i64 0, .bool false, .slice none 0 0, .int .i64 0, .bool false, .slice none 0 0, .int .i64 0]).cells.toList, NoLimb u := by
 intro u hu
 simp [Value.cells] at hu
 rcases hu with rfl | rfl | rfl | rfl | rfl | rfl | rfl
 all_goals first | exact noLimb_bool _ | exact noLimb_slice _ _ _ | exact noLimb_i64 _
theorem app_ln {w : World} {base : Nat} {v vs : Value} {n lo m : Nat} {xs : List Value} {l l2 : List Ln} (ty : TypeId) (h : OwnG w base 41 9 v n xs) (hl : RowL l w xs) (hs : SrcR (RowL l2) lo m w vs) (hm : l2.length = m) (hm0 : 0 < m) (hn : n + m ≤ 1000) (hb : base ≤ w.heap.size) :
 ∃ v' w', (Builtin.append_ #[25, 25] ty #[v, vs]).run Tryz.prog w = .ok v' w' ∧ w.grownBy w' v.ownBlock ∧ KB w (ownL v) w' ∧ AppV base 41 9 v (n + m) (RowL (l ++ l2)) w.heap.size w' v' := by
 obtain ⟨i0, hi, hz0, hz1, hz2⟩ := info_parts linfo
 exact app_gen ty Tryz.underlying25 hi hz0 hz1 hz2 rfl (by decide) (by decide) zcl_nl (R := CellL) (fun _ _ _ _ _ k h => CellL.kb h k) (fun _ c a => CellL.len c a) (fun _ _ _ h => CellL.nl h) h hl hs hm hm0 hn hb
theorem AppV.low {base : Nat} {T : TypeId} {s : Nat} {v : Value} {n : Nat} {C : World → List Value → Prop} (hC : StabC C) {hs b : Nat} {w w' : World} {v' : Value} (h : AppV base T s v n C hs w v') (k : KB w [b] w') (hb : b < base) : AppV base T s v n C hs w' v' := by
 obtain ⟨⟨xs, h1, h2⟩, h3⟩ := h
 exact ⟨⟨xs, h1.kb k (fun g hg hm => by have := (h1.lt g hg).2; simp at hm; omega), hC _ _ _ _ k h2⟩, h3⟩
/-- How far an append that is stored into a box has come: is the old row read, is it appended to, is it stored? -/
def AppJ (base : Nat) (T : TypeId) (s : Nat) (v : Value) (n : Nat) (xs : List Value) (n' : Nat) (C : World → List Value → Prop) (b : Nat) (cs : Array Value) (o : Nat) (TB : TypeId) (hs : Nat) (l0 l1 l2 : Bool) (w : World) : Prop :=
 (l1 = false → OwnG w base T s v n xs) ∧ (l2 = false → w.heap[b]? = some (.cells cs TB (0, 0))) ∧
 (l2 = true → l0 = true ∧ l1 = true ∧ ∃ v', w.heap[b]? = some (.cells (cs.setIfInBounds o v') TB (0, 0)) ∧ AppV base T s v n' C hs w v')
section
variable {base : Nat} {T : TypeId} {s : Nat} {v : Value} {n : Nat} {xs : List Value} {n' : Nat} {C : World → List Value → Prop} {b : Nat} {cs : Array Value} {o : Nat} {TB : TypeId} {hs : Nat} {l0 l1 l2 : Bool} {w w' : World}
theorem AppJ.kept (hC : StabC C) (k : Kept w w') (h : AppJ base T s v n xs n' C b cs o TB hs l0 l1 l2 w) : AppJ base T s v n xs n' C b cs o TB hs l0 l1 l2 w' := by
 obtain ⟨h1, h2, h3⟩ := h
 refine ⟨fun e => (h1 e).kept k, fun e => by have hc := h2 e; rw [k.block b (Array.getElem?_eq_some_iff.1 hc).1, hc], fun e => ?_⟩
 obtain ⟨e0, e1, v', hb, hv⟩ := h3 e
 exact ⟨e0, e1, v', by rw [k.block b (Array.getElem?_eq_some_iff.1 hb).1, hb], hv.kept hC k⟩
theorem AppJ.seen (hC : StabC C) (k : Kept w w') (h : AppJ base T s v n xs n' C b cs o TB hs l0 l1 l2 w) : AppJ base T s v n xs n' C b cs o TB hs true l1 l2 w' := by
 obtain ⟨h1, h2, h3⟩ := h.kept hC k
 exact ⟨h1, h2, fun e => ⟨rfl, (h3 e).2⟩⟩
theorem AppJ.first (hl : l2 = false) (h1 : OwnG w base T s v n xs) (h2 : w.heap[b]? = some (.cells cs TB (0, 0))) : AppJ base T s v n xs n' C b cs o TB hs l0 l1 l2 w := ⟨fun _ => h1, fun _ => h2, fun e => by rw [hl] at e; cases e⟩
theorem AppJ.own (h : AppJ base T s v n xs n' C b cs o TB hs l0 l1 l2 w) (hl : l1 = false) : OwnG w base T s v n xs := h.1 hl
theorem AppJ.box (h : AppJ base T s v n xs n' C b cs o TB hs l0 l1 l2 w) (hl : l0 = false) : w.heap[b]? = some (.cells cs TB (0, 0)) := by
 refine h.2.1 ?_
 cases l2
 ·rfl
 ·have := (h.2.2 rfl).1; rw [hl] at this; cases this
/-- The append itself. -/
theorem AppJ.did (h : AppJ base T s v n xs n' C b cs o TB hs l0 l1 l2 w) (hl : l1 = false) (hg : w.grownBy w' v.ownBlock) (hb : b ∉ ownL v) : AppJ base T s v n xs n' C b cs o TB hs l0 true l2 w' := by
 obtain ⟨h1, h2, h3⟩ := h
 refine ⟨fun e => (by cases e), fun e => ?_, fun e => ?_⟩
 ·have hc := h2 e
  rw [hg.block b (Array.getElem?_eq_some_iff.1 hc).1 (fun e => hb (mem_ownL.2 e.symm)), hc]
 ·have := (h3 e).2.1
  rw [hl] at this
  cases this
/-- The store. -/
theorem AppJ.laid {v' x : Value} (hC : StabC C) (h : AppJ base T s v n xs n' C b cs o TB hs l0 l1 l2 w) (h0 : l0 = true) (h1 : l1 = true) (hl : l2 = false) (ha : AppV base T s v n' C hs w v') (hb : b < base) (ho : cs[o]? = some x) (hx : NoLimb x) :
 AppJ base T s v n xs n' C b cs o TB hs l0 l1 true (w.setCell ⟨b, o, none⟩ v') ∧ KB w [b] (w.setCell ⟨b, o, none⟩ v') := by
 have hcell := cell_of_block (h.2.1 hl) o x ho
 have hk : KB w [b] (w.setCell ⟨b, o, none⟩ v') := (KB.refl w _).setCell (by simp) hcell hx v'
 exact ⟨⟨fun e => (by rw [h1] at e; cases e), fun e => (by cases e), fun _ => ⟨h0, h1, v', block_setCell (h.2.1 hl) _, ha.low hC hk hb⟩⟩, hk⟩
theorem AppJ.done (h : AppJ base T s v n xs n' C b cs o TB hs l0 l1 l2 w) (hl : l2 = true) : ∃ v', w.heap[b]? = some (.cells (cs.setIfInBounds o v') TB (0, 0)) ∧ AppV base T s v n' C hs w v' := (h.2.2 hl).2.2
theorem AppJ.boxed (h : AppJ base T s v n xs n' C b cs o TB hs l0 l1 l2 w) (hl : l2 = false) : w.heap[b]? = some (.cells cs TB (0, 0)) := h.2.1 hl
end
end Go.Proofs.YtgododcbmkpbjaaGreatDoor
