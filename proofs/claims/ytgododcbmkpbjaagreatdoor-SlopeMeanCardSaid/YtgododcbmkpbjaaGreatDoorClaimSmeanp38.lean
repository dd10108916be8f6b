/- Contracts of package slope: appends onto nothing (a copy of intervals, one row). -/
import Derived.Test.YtgododcbmkpbjaaGreatDoorClaimSmeanp35
import Derived.Test.YtgododcbmkpbjaaGreatDoorClaimSmeanp37
import Derived.Deep.Upon
set_option maxRecDepth 100000
set_option maxHeartbeats 16000000
namespace Go.Proofs.YtgododcbmkpbjaaGreatDoor
open Go.RowKit
/-- A slice of rows. -/
def RowsS (w : World) (v : Value) (rows : List (List RawI)) : Prop := ∃ A c, v = .slice A rows.length c ∧ rows.length ≤ c ∧ (0 < rows.length → ∃ b off, A = some ⟨b, off, none⟩ ∧ ∀ (i : Nat) (r : List RawI), rows[i]? = some r → ∃ s : Value, w.cell? ⟨b, off + i, none⟩ = some s ∧ IvS w s r)
theorem rowsS_nil (w : World) : RowsS w (.slice none 0 0) [] := ⟨none, 0, rfl, Nat.le_refl _, fun h => absurd h (by simp)⟩
theorem RowsS.kept {w w' : World} {v : Value} {rows : List (List RawI)} (h : RowsS w v rows) (k : Kept w w') : RowsS w' v rows := by
 obtain ⟨A, c, e, hc, h⟩ := h
 refine ⟨A, c, e, hc, fun h0 => ?_⟩
 obtain ⟨b, off, e2, hb⟩ := h h0
 refine ⟨b, off, e2, fun i r hi => ?_⟩
 obtain ⟨s, h1, h2⟩ := hb i r hi
 exact ⟨s, (k.cell (p := ⟨b, off + i, none⟩) (lt_of_cell h1)).trans h1, h2.kept k⟩
theorem exec_append {P : Program} {w w' : World} {o : Oper} {a : Act} (s x : Operand) (t : TypeId) {vs vx v' : Value}
 (ho : o.op = .call { callee := .builtin .append, args := #[s, x], argTypes := #[t, t] }) (hs : a.eval s = vs) (hx : a.eval x = vx)
 (hr : (Builtin.append_ #[t, t] o.type #[vs, vx]).run P w = .ok v' w') : (execOp a.eval o).run P w = .ok (.value v') w' := by
 unfold execOp
 simp only [ho, resolve, invoke, builtin, Sem.run_bind, Sem.run_pure, Result.andThen_ok, List.map_toArray, List.map_cons, List.map_nil, hs, hx, hr]
theorem kept_drew_alloc (w : World) (o : Obj) : Kept w (w.drew.alloc o) := (Below.refl _ _).drew.alloc (Nat.le_refl _) _
theorem copy_iv (w : World) {v : Value} {r : List RawI} (h : IvS w v r) (hn : r.length ≤ 1000000000) (ty : TypeId) :
 ∃ v' w', (Builtin.append_ #[33, 33] ty #[.slice none 0 0, v]).run Tryz.prog w = .ok v' w' ∧ Kept w w' ∧ IvS w' v' r := by
 obtain ⟨i0, hi, hz0, hz1, hz2⟩ := info_parts iinfo
 obtain ⟨A, c, rfl, hc, h⟩ := h
 by_cases h0 : 0 < r.length
 ·obtain ⟨b, off, rfl, hat⟩ := h h0
  have ad : ∀ j, (⟨b, off, none⟩ : Addr).add j = ⟨b, off + j, none⟩ := by intro j; unfold Addr.add; split <;> simp_all
  have hex : ∀ j, j < r.length * 6 → ∃ u, w.cell? ⟨b, off + j, none⟩ = some u := by
   intro j hj
   obtain ⟨x, y, z, x', y', z', a0, a1, a2, a3, a4, a5, -⟩ := hat (j / 6) r[j/6] (List.getElem?_eq_getElem (by omega))
   have hm : j % 6 = 0 ∨ j % 6 = 1 ∨ j % 6 = 2 ∨ j % 6 = 3 ∨ j % 6 = 4 ∨ j % 6 = 5 := by omega
   rcases hm with q | q | q | q | q | q
   ·exact ⟨x, by rw [show off + j = off + j / 6 * 6 by omega]; exact a0⟩
   ·exact ⟨y, by rw [show off + j = off + j / 6 * 6 + 1 by omega]; exact a1⟩
   ·exact ⟨z, by rw [show off + j = off + j / 6 * 6 + 2 by omega]; exact a2⟩
   ·exact ⟨x', by rw [show off + j = off + j / 6 * 6 + 3 by omega]; exact a3⟩
   ·exact ⟨y', by rw [show off + j = off + j / 6 * 6 + 4 by omega]; exact a4⟩
   ·exact ⟨z', by rw [show off + j = off + j / 6 * 6 + 5 by omega]; exact a5⟩
  obtain ⟨news, hN⟩ : ∃ news, news = (List.range (r.length * 6)).map fun j => (w.cell? ⟨b, off + j, none⟩).getD undef := ⟨_, rfl⟩
  have hl : news.length = r.length * 6 := by rw [hN]; simp
  have hnews : ∀ j, j < r.length * 6 → news[j]? = w.cell? ⟨b, off + j, none⟩ := by
   intro j hj
   obtain ⟨u, hu⟩ := hex j hj
   rw [hN, List.getElem?_map, List.getElem?_range hj, hu]
   simp [hu]
  have hr := run_append_nil (P := Tryz.prog) w 33 ty 32 i0 _ Tryz.underlying33 hi hz0 ⟨b, off, none⟩ r.length c news (by rw [hl, hz1])
   (fun j u hu => by
     have hj : j < r.length * 6 := by rw [← hl]; exact (List.getElem?_eq_some_iff.1 hu).1
     rw [ad, ← hnews j hj]; exact hu) h0 (by omega) (by rw [hz2]; omega)
  have hK := kept_drew_alloc w (.cells (news.toArray ++ Builtin.zeroCells (Value.agg #[.bool false, .slice none 0 0, .int .i64 0, .bool false, .slice none 0 0, .int .i64 0]).cells (grownCap w r.length 0 32 - r.length)) 32)
  refine ⟨_, _, hr, hK, _, _, rfl, grownCap_ge _ _ _ _, fun _ => ⟨w.heap.size, 0, rfl, fun i a ha => ?_⟩⟩
  have hlt : i < r.length := (List.getElem?_eq_some_iff.1 ha).1
  obtain ⟨x, y, z, x', y', z', a0, a1, a2, a3, a4, a5, hI⟩ := hat i a ha
  have hcell : ∀ q u, q < 6 → w.cell? ⟨b, off + i * 6 + q, none⟩ = some u → (w.drew.alloc (.cells (news.toArray ++ Builtin.zeroCells (Value.agg #[.bool false, .slice none 0 0, .int .i64 0, .bool false, .slice none 0 0, .int .i64 0]).cells (grownCap w r.length 0 32 - r.length)) 32)).cell? ⟨w.heap.size, 0 + i * 6 + q, none⟩ = some u := by
   intro q u hq hu
   generalize grownCap w r.length 0 32 - r.length = gc
   refine cell_of_block (heap_alloc_new w.drew _) _ _ ?_
   rw [Array.getElem?_append_left (by rw [List.size_toArray, hl]; omega), List.getElem?_toArray, hnews _ (by omega), ← hu]
   congr 2
   omega
  exact ⟨x, y, z, x', y', z', hcell 0 _ (by decide) a0, hcell 1 _ (by decide) a1, hcell 2 _ (by decide) a2, hcell 3 _ (by decide) a3, hcell 4 _ (by decide) a4, hcell 5 _ (by decide) a5, hI.kept hK⟩
 ·obtain rfl : r = [] := List.eq_nil_of_length_eq_zero (by omega)
  have hsrc : Src Tryz.prog i0.size 33 (.slice A 0 c) 0 [] w := by
   refine ⟨.inl ⟨_, Tryz.underlying33⟩, fun w' => rfl, ?_, ?_, by simp, by simp⟩
   ·cases A <;> simp [Builtin.firstCells, loadCells, loadCellsFrom]
   ·cases A <;> simp [Builtin.firstCells, loadCells, loadCellsFrom]
  exact ⟨_, _, run_append_nothing w _ _ ty _ i0 Tryz.underlying33 hi none 0 0 (Nat.le_refl _) _ hsrc, Below.refl _ _, ivS_nil _⟩
theorem copy_row1 (w : World) {b off c : Nat} {s : Value} {r : List RawI} (hc : w.cell? ⟨b, off, none⟩ = some s) (hs : IvS w s r) (ty : TypeId) :
 ∃ v' w', (Builtin.append_ #[42, 42] ty #[.slice none 0 0, .slice (some ⟨b, off, none⟩) 1 c]).run Tryz.prog w = .ok v' w' ∧ Kept w w' ∧ RowsS w' v' [r] := by
 obtain ⟨i0, hi, hz0, hz1, hz2⟩ := info_parts sinfo
 have ad : ∀ j, (⟨b, off, none⟩ : Addr).add j = ⟨b, off + j, none⟩ := by intro j; unfold Addr.add; split <;> simp_all
 have hr := run_append_nil (P := Tryz.prog) w 42 ty 33 i0 _ Tryz.underlying42 hi hz0 ⟨b, off, none⟩ 1 c [s] (by rw [hz1]; rfl)
  (fun j u hu => by
    rcases j with _ | j
    ·cases hu; rw [ad]; exact hc
    ·simp at hu) (by decide) (by decide) (by rw [hz2]; decide)
 have hK := kept_drew_alloc w (.cells ([s].toArray ++ Builtin.zeroCells (Value.slice none 0 0).cells (grownCap w 1 0 33 - 1)) 33)
 refine ⟨_, _, hr, hK, _, _, rfl, grownCap_ge _ _ _ _, fun _ => ⟨w.heap.size, 0, rfl, fun i a ha => ?_⟩⟩
 rcases i with _ | i
 ·cases ha
  exact ⟨s, cell_of_block (heap_alloc_new w.drew _) _ _ (by rw [Array.getElem?_append_left (by simp)]; rfl), hs.kept hK⟩
 ·simp at ha
theorem ivS_new1 {w : World} {T : TypeId} {x y z x' y' z' : Value} {r : RawI} (h : IvR w (.agg #[x, y, z, x', y', z']) r) : IvS (w.alloc (.cells #[x, y, z, x', y', z'] T)) (.slice (some ⟨w.heap.size, 0, none⟩) 1 1) [r] :=
 ⟨_, 1, rfl, Nat.le_refl _, fun _ => ⟨_, 0, rfl, fun i a ha => by
  rcases i with _ | i
  ·cases ha
   have hb := heap_alloc_new w (.cells #[x, y, z, x', y', z'] T)
   exact ⟨x, y, z, x', y', z', cell_of_block hb 0 _ rfl, cell_of_block hb 1 _ rfl, cell_of_block hb 2 _ rfl, cell_of_block hb 3 _ rfl, cell_of_block hb 4 _ rfl, cell_of_block hb 5 _ rfl, h.kept (kept_alloc _ _)⟩
  ·simp at ha⟩⟩
/-- A slice of one row. -/
def Row1 (w : World) (v : Value) (row : List RawI) : Prop := ∃ b s c, v = .slice (some ⟨b, 0, none⟩) 1 c ∧ w.cell? ⟨b, 0, none⟩ = some s ∧ IvS w s row
theorem Row1.kept {w w' : World} {v : Value} {row : List RawI} (h : Row1 w v row) (k : Kept w w') : Row1 w' v row := by
 obtain ⟨b, s, c, e, hc, hs⟩ := h
 exact ⟨b, s, c, e, (k.cell (p := ⟨b, 0, none⟩) (lt_of_cell hc)).trans hc, hs.kept k⟩
theorem row1_new {w : World} {T : TypeId} {s : Value} {row : List RawI} (h : IvS w s row) : Row1 (w.alloc (.cells #[s] T)) (.slice (some ⟨w.heap.size, 0, none⟩) 1 1) row :=
 ⟨_, s, 1, rfl, cell_of_block (heap_alloc_new w _) 0 _ rfl, h.kept (kept_alloc _ _)⟩
end Go.Proofs.YtgododcbmkpbjaaGreatDoor
