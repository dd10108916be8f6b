/- Contracts of package dyad, second part: face and its deferred closure. -/
import Derived.Test.YtgododcbmkpbjaaGreatDoorClaimJknop15
import Derived.Defers
import Derived.Recover
set_option maxRecDepth 100000
set_option maxHeartbeats 16000000
namespace Go.Proofs.YtgododcbmkpbjaaGreatDoor
open Go.RowKit
/-- A deferred body's first region begins with recover: behind it the walk is plain. -/
theorem wpS_recovers {P : Program} {Q : Exit → Act → List Frame → World → Prop} {a : Act} {cs cs' : List Frame} {w w' : World} {id : Nat} {o : Oper} {l : List Oper} {y : Code} {v : Value}
 (ho : o.guard = none) (hr : (execOp a.eval o).run P w = .ok .recover w')
 (hc : (match recoverD cs with | some (v', cs'') => v' = v ∧ cs'' = cs' | none => v = .nilIface ∧ cs' = cs))
 (h : wpList P (o :: l).toArray (Exit.then (y.wp P (fun e a w => Q e a cs' w)) (fun e a w => Q e a cs' w)) l (a.put o.dst v) w') :
 (Code.seq (.region id (o :: l).toArray false) y).wpS P Q a cs w := by
 apply wpS_seq
 intro b k hb _
 have h1 : wpOps P (o :: l).toArray (Exit.then (y.wp P (fun e a w => Q e a cs' w)) (fun e a w => Q e a cs' w)) (List.range' 1 l.length) (a.put o.dst v) w' := by
  rw [wpOps_eq_wpList l 1 (by intro j; simp [Nat.add_comm 1 j])]
  exact h
 obtain ⟨e, a', w'', hq, harr⟩ := wp_ops _ _ _ h1 b k cs'
 have hw : Region.wanted o (yielded (o :: l).toArray a.tmps) = true := by simp [Region.wanted, ho]
 have hi : (o :: l).toArray[0]? = some o := by simp
 have hg := stepG_op (P := P) (b := b) (k := k) (cs := cs) (w := w) (rest := List.range' 1 l.length) hi hw
 have hfin : (b.at a (.inRegion (o :: l).toArray (0 :: List.range' 1 l.length) :: k)).finish v = b.at (a.put o.dst v) (.inRegion (o :: l).toArray (List.range' 1 l.length) :: k) := by
  rw [Frame.finish_at, hi]; rfl
 have htr := tryRecover_deferred (fr := b.at a (.inRegion (o :: l).toArray (0 :: List.range' 1 l.length) :: k)) hb cs
 have hstep : step P (lone (b.at a (.inRegion (o :: l).toArray (0 :: List.range' 1 l.length) :: k)) cs w) = .next (lone (b.at (a.put o.dst v) (.inRegion (o :: l).toArray (List.range' 1 l.length) :: k)) cs' w') := by
  refine step_lone_go ?_
  rw [hg, ← hfin]
  cases hrec : recoverD cs with
  | none =>
    rw [hrec] at hc htr
    obtain ⟨rfl, rfl⟩ := hc
    simp only [Frame.at] at htr ⊢
    simp [stepG.apply, hr, htr]
  | some p =>
    obtain ⟨v1, cs1⟩ := p
    rw [hrec] at hc htr
    obtain ⟨rfl, rfl⟩ := hc
    simp only [Frame.at] at htr ⊢
    simp [stepG.apply, hr, htr]
 refine ⟨e, a', cs', w'', ?_, .of_steps (.head step_region (.one (by rw [List.range_eq_range', List.size_toArray, List.length_cons, List.range'_succ]; exact hstep))) harr⟩
 cases e <;> first | exact hq | exact wpS_of_wp hq
theorem cell_of_block {w : World} {b : Nat} {cs : Array Value} {t : TypeId} (h : w.heap[b]? = some (.cells cs t (0, 0))) (i : Nat) (v : Value) (hi : cs[i]? = some v) :
 w.cell? ⟨b, i, none⟩ = some v := by
 simp [World.cell?, h, hi]
theorem free_of_block {w : World} {b : Nat} {cs : Array Value} {t : TypeId} (h : w.heap[b]? = some (.cells cs t (0, 0))) (i : Nat) :
 w.frozen? ⟨b, i, none⟩ = false := by
 simp [World.frozen?, h]
def caughtW (w : World) (b2 b3 : Nat) (T : TypeId) (k : Int) : World :=
 ((((w.setCell ⟨b2, 0, none⟩ (.bool false)).setCell ⟨b2, 1, none⟩ (.slice none 0 0)).setCell ⟨b2, 2, none⟩ (.int .i64 0)).setCell ⟨b3, 0, none⟩ (.int .i64 k)).alloc (.cells #[.int .i64 k] T)
theorem run_assert_fail (k : Int) (w : World) : (Instr.typeAssert (.iface 131 (.agg #[.int .i64 k])) 20 131 true).run Tryz.prog w = .ok (.tuple #[.agg #[.int .i64 k], .bool true]) w := by
 kernel_rfl
theorem run_assert_nil (w : World) : (Instr.typeAssert .nilIface 20 131 true).run Tryz.prog w = .ok (.tuple #[.agg #[.int .i64 0], .bool false]) w := by
 kernel_rfl
theorem catch_fail (b2 b3 : Nat) (w : World) (k : Int) (x y z q : Value)
 (h0 : w.heap[b2]? = some (.cells #[x, y, z] 30 (0, 0))) (h1 : w.heap[b3]? = some (.cells #[q] 3 (0, 0))) (hne : ¬ b2 = b3) :
 CallsD Tryz.prog 120 #[.pointer (some ⟨b2, 0, none⟩), .pointer (some ⟨b3, 0, none⟩)] (.panicking (failV 131 k)) w fun e u' w' =>
  e = .returned (.tuple #[]) ∧ u' = .panicking [{ v := .iface 131 (.agg #[.int .i64 k]), recovered := true }] ∧ w' = (caughtW w b2 b3 131 k).drew := by
 have ha := run_assert_fail k
 have l2 : b2 < w.heap.size := (Array.getElem?_eq_some_iff.1 h0).1
 have l3 : b3 < w.heap.size := (Array.getElem?_eq_some_iff.1 h1).1
 have n2 : ¬ b2 = w.heap.size := by omega
 have n3 : ¬ b3 = w.heap.size := by omega
 have n2' : ¬ w.heap.size = b2 := by omega
 have n3' : ¬ w.heap.size = b3 := by omega
 have hne' : ¬ b3 = b2 := fun h => hne h.symm
 have c20 := cell_of_block h0 0 x rfl
 have c21 := cell_of_block h0 1 y rfl
 have c22 := cell_of_block h0 2 z rfl
 have c30 := cell_of_block h1 0 q rfl
 have f20 := free_of_block h0 0
 have f21 := free_of_block h0 1
 have f22 := free_of_block h0 2
 have f30 := free_of_block h1 0
 refine callsD_of_wpS Tryz.func120 rfl fun c₀ cs hu => ?_
 simp only [Tryz.ntmps120, List.size_toArray, List.length_cons, List.length_nil, Nat.reduceAdd, Nat.reduceSub, Array.replicate_succ,
  Array.replicate_zero, List.push_toArray, List.append_toArray, List.nil_append, List.cons_append]
 refine wpS_recovers (v := .iface 131 (.agg #[.int .i64 k])) (cs' := { c₀ with mode := .panicking [{ v := .iface 131 (.agg #[.int .i64 k]), recovered := true }] } :: cs) (w' := w) rfl ?_ ?_ ?_
 ·simp [go_sem]
 ·rw [recoverD, hu]; exact ⟨rfl, rfl⟩
 go_wp2_with fail
 go_region
 exact ⟨rfl, _, rfl, _, results_none rfl _ _ _, rfl, rfl, rfl⟩
theorem catch_idle (b2 b3 : Nat) (w : World) :
 CallsD Tryz.prog 120 #[.pointer (some ⟨b2, 0, none⟩), .pointer (some ⟨b3, 0, none⟩)] .returning w fun e u' w' =>
  e = .returned (.tuple #[]) ∧ u' = .returning ∧ w' = w.alloc (.cells #[.int .i64 0] 131) := by
 have ha := run_assert_nil
 refine callsD_of_wpS Tryz.func120 rfl fun c₀ cs hu => ?_
 simp only [Tryz.ntmps120, List.size_toArray, List.length_cons, List.length_nil, Nat.reduceAdd, Nat.reduceSub, Array.replicate_succ,
  Array.replicate_zero, List.push_toArray, List.append_toArray, List.nil_append, List.cons_append]
 refine wpS_recovers (v := .nilIface) (cs' := c₀ :: cs) (w' := w) rfl ?_ ?_ ?_
 ·simp [go_sem]
 ·rw [recoverD, hu]; exact ⟨rfl, rfl⟩
 go_wp2_with fail
 exact ⟨rfl, .returning, by rw [← hu], _, results_none rfl _ _ _, rfl, rfl, rfl⟩
/-- A closure's end, of the shape that face understands: it returns this Dyad, or goes up with this error. -/
def Goes (T : TypeId) (o : Outc Raw) (w : World) (e : Ending) (w' : World) : Prop :=
 Kept w w' ∧ ((o.k = 0 ∧ ∃ v, e = .returned v ∧ DyR w' v o.v) ∨ (o.k ≠ 0 ∧ e = .panicked (failV T o.k)))
/-- It returns a Dyad and an error's number. -/
def RetE (o : Outc Raw) (w : World) (e : Ending) (w' : World) : Prop :=
 Kept w w' ∧ ∃ v, e = .returned (.tuple #[v, .int .i64 o.k]) ∧ DyR w' v o.v
theorem block_setCell {w : World} {b i : Nat} {cs : Array Value} {t : TypeId} (h : w.heap[b]? = some (.cells cs t (0, 0))) (v : Value) : (w.setCell ⟨b, i, none⟩ v).heap[b]? = some (.cells (cs.setIfInBounds i v) t (0, 0)) := by
 simp only [World.setCell, Array.getElem?_modify, h]
 simp
theorem block_setCell_other {w : World} {b b' i : Nat} {x : Obj} (h : w.heap[b]? = some x) (hne : ¬ b = b') (v : Value) : (w.setCell ⟨b', i, none⟩ v).heap[b]? = some x := by
 rw [Below.heap_setCell _ _ _ _ hne, h]
def laidW (w : World) (b2 b3 : Nat) (x y z q : Value) (o : Obj) : World :=
 ((((w.setCell ⟨b2, 0, none⟩ x).setCell ⟨b2, 1, none⟩ y).setCell ⟨b2, 2, none⟩ z).setCell ⟨b3, 0, none⟩ q).alloc o
theorem laid_cells {w : World} {b2 b3 : Nat} {x y z q x' y' z' q' : Value} {T T' : TypeId} {o : Obj}
 (h0 : w.heap[b2]? = some (.cells #[x, y, z] T (0, 0))) (h1 : w.heap[b3]? = some (.cells #[q] T' (0, 0))) (hne : ¬ b2 = b3) :
 (laidW w b2 b3 x' y' z' q' o).cell? ⟨b2, 0, none⟩ = some x' ∧ (laidW w b2 b3 x' y' z' q' o).cell? ⟨b2, 1, none⟩ = some y' ∧
 (laidW w b2 b3 x' y' z' q' o).cell? ⟨b2, 2, none⟩ = some z' ∧ (laidW w b2 b3 x' y' z' q' o).cell? ⟨b3, 0, none⟩ = some q' := by
 have l2 : b2 < w.heap.size := (Array.getElem?_eq_some_iff.1 h0).1
 have l3 : b3 < w.heap.size := (Array.getElem?_eq_some_iff.1 h1).1
 have g0 : (laidW w b2 b3 x' y' z' q' o).heap[b2]? = some (.cells #[x', y', z'] T (0, 0)) := by
  unfold laidW
  rw [Below.heap_alloc _ _ _ (by simp [World.setCell, l2])]
  exact block_setCell_other (block_setCell (block_setCell (block_setCell h0 _) _) _) hne _
 have g1 : (laidW w b2 b3 x' y' z' q' o).heap[b3]? = some (.cells #[q'] T' (0, 0)) := by
  unfold laidW
  rw [Below.heap_alloc _ _ _ (by simp [World.setCell, l3])]
  exact block_setCell (block_setCell_other (block_setCell_other (block_setCell_other h1 (fun h => hne h.symm) _) (fun h => hne h.symm) _) (fun h => hne h.symm) _) _
 exact ⟨cell_of_block g0 0 _ rfl, cell_of_block g0 1 _ rfl, cell_of_block g0 2 _ rfl, cell_of_block g1 0 _ rfl⟩
theorem laid_kept {w0 w : World} {b2 b3 : Nat} {x y z q : Value} {o : Obj} (h : Kept w0 w) (h2 : w0.heap.size ≤ b2) (h3 : w0.heap.size ≤ b3) : Kept w0 (laidW w b2 b3 x y z q o) :=
 ((((h.setCell (p := ⟨b2, 0, none⟩) h2 x).setCell (p := ⟨b2, 1, none⟩) h2 y).setCell (p := ⟨b2, 2, none⟩) h2 z).setCell (p := ⟨b3, 0, none⟩) h3 q).alloc (by simpa [World.setCell] using h.size) o
/-- A slice of limbs does not hang on blocks that hold something else. -/
theorem Lim.laid {w : World} {s : Value} {xs : List Nat} {b2 b3 : Nat} {x y z q x' y' z' q' : Value} {T T' : TypeId} {o : Obj} (h : Lim w s xs)
 (h0 : w.heap[b2]? = some (.cells #[x, y, z] T (0, 0))) (h1 : w.heap[b3]? = some (.cells #[q] T' (0, 0)))
 (hx : ∀ n, ¬ x = .int .u64 n) (hy : ∀ n, ¬ y = .int .u64 n) (hz : ∀ n, ¬ z = .int .u64 n) (hq : ∀ n, ¬ q = .int .u64 n) :
 Lim (laidW w b2 b3 x' y' z' q' o) s xs := by
 obtain ⟨hsm, A, c, rfl, hc, hA⟩ := h
 refine ⟨hsm, A, c, rfl, hc, fun hp => ?_⟩
 obtain ⟨b, off, rfl, hb, hcell⟩ := hA hp
 have n2 : ¬ b = b2 := by
  rintro rfl
  have h5 := hcell 0 hp
  simp only [World.cell?, h0] at h5
  rcases off with _ | _ | _ | off
  ·simp at h5; exact hx _ h5
  ·simp at h5; exact hy _ h5
  ·simp at h5; exact hz _ h5
  ·simp at h5
 have n3 : ¬ b = b3 := by
  rintro rfl
  have h5 := hcell 0 hp
  simp only [World.cell?, h1] at h5
  rcases off with _ | off
  ·simp at h5; exact hq _ h5
  ·simp at h5
 have e : (laidW w b2 b3 x' y' z' q' o).heap[b]? = w.heap[b]? := by
  unfold laidW
  rw [Below.heap_alloc _ _ _ (by simpa [World.setCell] using hb), Below.heap_setCell _ _ _ _ n3, Below.heap_setCell _ _ _ _ n2, Below.heap_setCell _ _ _ _ n2, Below.heap_setCell _ _ _ _ n2]
 refine ⟨b, off, rfl, ?_, fun i hi => ?_⟩
 ·unfold laidW; simp [World.setCell]; omega
 ·rw [← hcell i hi]
  simp only [World.cell?, e]
def rz : Raw := ⟨false, [], 0⟩
theorem face_c {w : World} {K : Nat} {cap : Array Value} {o : Outc Raw} (h : ∀ w1, Kept w w1 → Calls Tryz.prog K cap w1 (Goes 131 o w1)) (hz : o.k ≠ 0 → o.v = rz)
 (hk : ∀ w, (callFunc K cap).run Tryz.prog w = .ok (.enter K cap) w) :
 Calls Tryz.prog 77 #[.func (.func K) #[] cap] w (RetE o w) := by
 have hmf : ∀ (fn : Fn) (first cap : Array Value) (w : World), (Instr.makeFunc fn first cap).run Tryz.prog w = .ok (.func fn first cap) w := fun _ _ _ _ => rfl
 have HH := Lib.hid h
 clear h
 go_enter_defers Tryz.func77, Tryz.ntmps77
 go_wp2_with fail
 have k1 : Kept w ((w.alloc (.cells #[.bool false, .slice none 0 0, .int .i64 0] 30)).alloc (.cells #[.int .i64 0] 3)) := ((Below.refl _ _).alloc (Nat.le_refl _) _).alloc (by simp) _
 refine (HH.out _ k1).mono ?_
 have b0 : ((w.alloc (.cells #[.bool false, .slice none 0 0, .int .i64 0] 30)).alloc (.cells #[.int .i64 0] 3)).heap[w.heap.size]? = some (.cells #[.bool false, .slice none 0 0, .int .i64 0] 30 (0, 0)) := by
  rw [Below.heap_alloc _ _ _ (by simp)]; exact heap_alloc_new _ _
 have b1 : ((w.alloc (.cells #[.bool false, .slice none 0 0, .int .i64 0] 30)).alloc (.cells #[.int .i64 0] 3)).heap[w.heap.size + 1]? = some (.cells #[.int .i64 0] 3 (0, 0)) := by
  have := heap_alloc_new (w.alloc (.cells #[.bool false, .slice none 0 0, .int .i64 0] 30)) (.cells #[.int .i64 0] 3)
  simpa using this
 rintro e w1 ⟨q, hq⟩
 have c0 := (q.block w.heap.size (by simp; omega)).trans b0
 have c1 := (q.block (w.heap.size + 1) (by simp)).trans b1
 have k2 := k1.trans q
 clear q b0 b1 k1 HH
 have hs1 : w.heap.size + 1 < w1.heap.size := (Array.getElem?_eq_some_iff.1 c1).1
 have hs0 : w.heap.size < w1.heap.size := by omega
 have n1 : ¬ w.heap.size = w1.heap.size := by omega
 have n2 : ¬ w.heap.size + 1 = w1.heap.size := by omega
 have n3 : ¬ w.heap.size = w.heap.size + 1 := by omega
 have n4 : ¬ w.heap.size + 1 = w.heap.size := by omega
 have c20 : w1.cell? ⟨w.heap.size, 0, none⟩ = some (.bool false) := cell_of_block c0 0 _ rfl
 have c21 : w1.cell? ⟨w.heap.size, 1, none⟩ = some (.slice none 0 0) := cell_of_block c0 1 _ rfl
 have c22 : w1.cell? ⟨w.heap.size, 2, none⟩ = some (.int .i64 0) := cell_of_block c0 2 _ rfl
 have c30 : w1.cell? ⟨w.heap.size + 1, 0, none⟩ = some (.int .i64 0) := cell_of_block c1 0 _ rfl
 have f20 := free_of_block c0 0
 have f21 := free_of_block c0 1
 have f22 := free_of_block c0 2
 have f30 := free_of_block c1 0
 have KK := Lib.hid k2
 have HQ := Lib.hid hq
 clear k2 hq
 rcases HQ.out with ⟨h0, v, rfl, hv⟩ | ⟨h0, rfl⟩
 ·obtain ⟨s, rfl, hs, e1, e2⟩ := hv
  have HS := Lib.hid hs
  obtain ⟨_, A, c, rfl, _⟩ := hs
  clear HQ
  simp only []
  go_wp2_with fail
  refine leaves_cons (f := 120) (args := #[.pointer (some ⟨w.heap.size, 0, none⟩), .pointer (some ⟨w.heap.size + 1, 0, none⟩)]) (by simp) (by simp [go_sem]) ?_
  refine (catch_idle _ _ _).mono ?_
  rintro e u' w2 ⟨rfl, rfl, rfl⟩
  obtain ⟨d0, d1, d2, d3⟩ := laid_cells (x' := .bool o.v.neg) (y' := .slice A o.v.m.length c) (z' := .int .i64 o.v.e) (q' := .int .i64 0) (o := .cells #[.int .i64 0] 131) c0 c1 n3
  refine ⟨.tuple #[.agg #[.bool o.v.neg, .slice A o.v.m.length c, .int .i64 o.v.e], .int .i64 0], ?_, ?_⟩
  ·change (results Tryz.f77 _).run Tryz.prog (laidW w1 w.heap.size (w.heap.size + 1) (.bool o.v.neg) (.slice A o.v.m.length c) (.int .i64 o.v.e) (.int .i64 0) (.cells #[.int .i64 0] 131)) = .ok _ (laidW w1 w.heap.size (w.heap.size + 1) (.bool o.v.neg) (.slice A o.v.m.length c) (.int .i64 o.v.e) (.int .i64 0) (.cells #[.int .i64 0] 131))
   generalize laidW w1 w.heap.size (w.heap.size + 1) (.bool o.v.neg) (.slice A o.v.m.length c) (.int .i64 o.v.e) (.int .i64 0) (.cells #[.int .i64 0] 131) = W at *
   simp [results, Tryz.results77, go_sem, d0, d1, d2, d3]
  ·refine ⟨laid_kept KK.out (Nat.le_refl _) (Nat.le_succ _), _, by rw [h0], ?_⟩
   exact ⟨_, rfl, HS.out.laid c0 c1 (by simp) (by simp) (by simp) (by simp), e1, e2⟩
 ·clear HQ
  simp only []
  refine leaves_cons (f := 120) (args := #[.pointer (some ⟨w.heap.size, 0, none⟩), .pointer (some ⟨w.heap.size + 1, 0, none⟩)]) (by simp) (by simp [go_sem]) ?_
  refine (catch_fail _ _ _ _ _ _ _ _ c0 c1 n3).mono ?_
  rintro e u' w2 ⟨rfl, rfl, rfl⟩
  obtain ⟨d0, d1, d2, d3⟩ := laid_cells (x' := .bool false) (y' := .slice none 0 0) (z' := .int .i64 0) (q' := .int .i64 o.k) (o := .cells #[.int .i64 o.k] 131) c0 c1 n3
  refine ⟨.tuple #[.agg #[.bool false, .slice none 0 0, .int .i64 0], .int .i64 o.k], ?_, ?_⟩
  ·change (results Tryz.f77 _).run Tryz.prog (laidW w1 w.heap.size (w.heap.size + 1) (.bool false) (.slice none 0 0) (.int .i64 0) (.int .i64 o.k) (.cells #[.int .i64 o.k] 131)).drew = .ok _ (laidW w1 w.heap.size (w.heap.size + 1) (.bool false) (.slice none 0 0) (.int .i64 0) (.int .i64 o.k) (.cells #[.int .i64 o.k] 131)).drew
   generalize laidW w1 w.heap.size (w.heap.size + 1) (.bool false) (.slice none 0 0) (.int .i64 0) (.int .i64 o.k) (.cells #[.int .i64 o.k] 131) = W at *
   simp [results, Tryz.results77, go_sem, d0, d1, d2, d3]
  ·refine ⟨(laid_kept KK.out (Nat.le_refl _) (Nat.le_succ _)).drew, _, rfl, ?_⟩
   rw [hz h0]
   exact ⟨_, rfl, ⟨(by intro i hi; cases hi), none, 0, rfl, Nat.le_refl _, fun h => absurd h (Nat.lt_irrefl 0)⟩, by decide, by decide⟩
end Go.Proofs.YtgododcbmkpbjaaGreatDoor
