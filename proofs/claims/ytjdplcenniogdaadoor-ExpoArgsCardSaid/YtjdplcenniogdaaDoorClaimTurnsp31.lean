/- Contracts of package arith, first part: must. -/
import Derived.Test.YtjdplcenniogdaaDoorClaimTurnsp28
/- Contracts of package ival, fourth part: results that are intervals; Of, Hull. -/
namespace Go.Proofs.YtjdplcenniogdaaDoor
open Go.RowKit

theorem cell_of_block' {w : World} {b : Nat} {cs : Array Value} {t : TypeId} (h : w.heap[b]? = some (.cells cs t (0, 0))) (i : Nat) : w.cell? ⟨b, i, none⟩ = cs[i]? := by
  simp [World.cell?, h]

/-- A block whose cells are no limbs does not matter to limbs. -/
theorem Lim.setBlock {w w' : World} {s : Value} {xs : List Nat} {b : Nat} {cs : Array Value} {t : TypeId} (h : Lim w s xs) (hb : w.heap[b]? = some (.cells cs t (0, 0))) (hn : ∀ (i : Nat) (v : Value), cs[i]? = some v → NoLimb v)
    (hs : w.heap.size ≤ w'.heap.size) (ho : ∀ k, k < w.heap.size → k ≠ b → w'.heap[k]? = w.heap[k]?) : Lim w' s xs := by
  obtain ⟨hsm, A, c, rfl, hc, hA⟩ := h
  refine ⟨hsm, A, c, rfl, hc, fun hp => ?_⟩
  obtain ⟨b1, off, rfl, hb1, hcell⟩ := hA hp
  have hne : b1 ≠ b := by
    rintro rfl
    have h5 := hcell 0 hp
    rw [cell_of_block' hb] at h5
    exact hn _ _ h5 _ rfl
  refine ⟨b1, off, rfl, Nat.lt_of_lt_of_le hb1 hs, fun i hi => ?_⟩
  rw [← hcell i hi]
  exact World.cell?_of_block (ho b1 hb1 hne)

def ivW (w : World) (b : Nat) (x y z x' y' z' : Value) : World :=
  (((((w.setCell ⟨b, 0, none⟩ x).setCell ⟨b, 1, none⟩ y).setCell ⟨b, 2, none⟩ z).setCell ⟨b, 3, none⟩ x').setCell ⟨b, 4, none⟩ y').setCell ⟨b, 5, none⟩ z'

theorem BlkI.laid {w : World} {b : Nat} {p q r p' q' r' : Value} (h : BlkI w b p q r p' q' r') (x y z x' y' z' : Value) : BlkI (ivW w b x y z x' y' z') b x y z x' y' z' :=
  block_setCell (block_setCell (block_setCell (block_setCell (block_setCell (block_setCell h _) _) _) _) _) _

theorem ivW_kept {w0 w : World} {b : Nat} {x y z x' y' z' : Value} (h : Kept w0 w) (h2 : w0.heap.size ≤ b) : Kept w0 (ivW w b x y z x' y' z') :=
  (((((h.setCell (p := ⟨b, 0, none⟩) h2 x).setCell (p := ⟨b, 1, none⟩) h2 y).setCell (p := ⟨b, 2, none⟩) h2 z).setCell (p := ⟨b, 3, none⟩) h2 x').setCell (p := ⟨b, 4, none⟩) h2 y').setCell (p := ⟨b, 5, none⟩) h2 z'

theorem ivW_other (w : World) (b k : Nat) (x y z x' y' z' : Value) (h : k ≠ b) : (ivW w b x y z x' y' z').heap[k]? = w.heap[k]? := by
  unfold ivW
  rw [Below.heap_setCell _ _ _ _ h, Below.heap_setCell _ _ _ _ h, Below.heap_setCell _ _ _ _ h, Below.heap_setCell _ _ _ _ h, Below.heap_setCell _ _ _ _ h, Below.heap_setCell _ _ _ _ h]

theorem BlkI.noLimb {w : World} {b : Nat} {n n' : Bool} {A A' : Option Addr} {l c l' c' : Nat} {e e' : Int} (_h : BlkI w b (.bool n) (.slice A l c) (.int .i64 e) (.bool n') (.slice A' l' c') (.int .i64 e')) :
    ∀ (i : Nat) (v : Value), (#[Value.bool n, .slice A l c, .int .i64 e, .bool n', .slice A' l' c', .int .i64 e'] : Array Value)[i]? = some v → NoLimb v := by
  intro i v hv
  rcases i with _ | _ | _ | _ | _ | _ | i
  · simp at hv; subst hv; exact noLimb_bool _
  · simp at hv; subst hv; exact noLimb_slice _ _ _
  · simp at hv; subst hv; exact noLimb_i64 _
  · simp at hv; subst hv; exact noLimb_bool _
  · simp at hv; subst hv; exact noLimb_slice _ _ _
  · simp at hv; subst hv; exact noLimb_i64 _
  · simp at hv

theorem Lim.ivW {w : World} {s : Value} {xs : List Nat} {b : Nat} {n n' : Bool} {A A' : Option Addr} {l c l' c' : Nat} {e e' : Int} (h : Lim w s xs) (hb : BlkI w b (.bool n) (.slice A l c) (.int .i64 e) (.bool n') (.slice A' l' c') (.int .i64 e')) (x y z x' y' z' : Value) :
    Lim (Go.Proofs.YtjdplcenniogdaaDoor.ivW w b x y z x' y' z') s xs :=
  h.setBlock hb hb.noLimb (by simp [Go.Proofs.YtjdplcenniogdaaDoor.ivW, World.setCell]) (fun k _ hne => ivW_other _ _ _ _ _ _ _ _ _ hne)

theorem DyR.ivW {w : World} {v : Value} {r : Raw} {b : Nat} {n n' : Bool} {A A' : Option Addr} {l c l' c' : Nat} {e e' : Int} (h : DyR w v r) (hb : BlkI w b (.bool n) (.slice A l c) (.int .i64 e) (.bool n') (.slice A' l' c') (.int .i64 e')) (x y z x' y' z' : Value) :
    DyR (Go.Proofs.YtjdplcenniogdaaDoor.ivW w b x y z x' y' z') v r := by
  obtain ⟨s, rfl, hs, h1, h2⟩ := h
  exact ⟨s, rfl, hs.ivW hb _ _ _ _ _ _, h1, h2⟩

theorem BlkI.free {w : World} {b : Nat} {x y z x' y' z' : Value} (h : BlkI w b x y z x' y' z') : w.frozen? ⟨b, 0, none⟩ = false ∧ w.frozen? ⟨b, 1, none⟩ = false ∧ w.frozen? ⟨b, 2, none⟩ = false ∧ w.frozen? ⟨b, 3, none⟩ = false ∧ w.frozen? ⟨b, 4, none⟩ = false ∧ w.frozen? ⟨b, 5, none⟩ = false :=
  ⟨free_of_block h 0, free_of_block h 1, free_of_block h 2, free_of_block h 3, free_of_block h 4, free_of_block h 5⟩

/-- The end of a function whose result is the interval in a block. -/
theorem ret_iv {fn : Func} {R : Ending → World → Prop} {a : Act} {w : World} {b t : Nat} {x y z x' y' z' : Value} (h : BlkI w b x y z x' y' z')
    (hres : fn.results = #[.cell t 26]) (ht : a.tmps.getD t undef = .pointer (some ⟨b, 0, none⟩)) (hd : a.defers = []) (hR : R (.returned (.agg #[x, y, z, x', y', z'])) w) :
    bodyPost Tryd.prog fn R .ret a w := by
  obtain ⟨_, c0, c1, c2, c3, c4, c5⟩ := h.facts
  refine bodyPost_ret (v := .agg #[x, y, z, x', y', z']) ?_ hd hR
  have ht2 : a.tmps[t]?.getD undef = .pointer (some ⟨b, 0, none⟩) := by simpa using ht
  simp [results, hres, ht2, go_sem, c0, c1, c2, c3, c4, c5]
theorem ret_iv2 {fn : Func} {R : Ending → World → Prop} {a : Act} {w : World} {b t u : Nat} {x y z x' y' z' : Value} (h : BlkI w b x y z x' y' z')
    (hres : fn.results = #[.cell t 26, .tmp u]) (ht : a.tmps.getD t undef = .pointer (some ⟨b, 0, none⟩)) (hd : a.defers = [])
    (hR : R (.returned (.tuple #[.agg #[x, y, z, x', y', z'], a.tmps.getD u undef])) w) : bodyPost Tryd.prog fn R .ret a w := by
  obtain ⟨_, c0, c1, c2, c3, c4, c5⟩ := h.facts
  refine bodyPost_ret (v := .tuple #[.agg #[x, y, z, x', y', z'], a.tmps.getD u undef]) ?_ hd hR
  have ht2 : a.tmps[t]?.getD undef = .pointer (some ⟨b, 0, none⟩) := by simpa using ht
  simp [results, hres, ht2, go_sem, c0, c1, c2, c3, c4, c5]

/-- It returns an interval. -/
def RetI (a : RawI) (w : World) (e : Ending) (w' : World) : Prop := Kept w w' ∧ ∃ v, e = .returned v ∧ IvR w' v a
/-- It returns an interval and an error's number. -/
def RetIE (o : Outc RawI) (w : World) (e : Ending) (w' : World) : Prop := Kept w w' ∧ ∃ v, e = .returned (.tuple #[v, .int .i64 o.k]) ∧ IvR w' v o.v

theorem blkI_zero (w : World) : BlkI (w.alloc (.cells #[.bool false, .slice none 0 0, .int .i64 0, .bool false, .slice none 0 0, .int .i64 0] 26)) w.heap.size (.bool false) (.slice none 0 0) (.int .i64 0) (.bool false) (.slice none 0 0) (.int .i64 0) := heap_alloc_new _ _

set_option maxHeartbeats 2000000 in
set_option maxRecDepth 100000 in
theorem iof_c {w : World} {v : Value} {r : Raw} (hv : DyR w v r) : Calls Tryd.prog 30 #[v] w (RetI ⟨r, r⟩ w) := by
  have hv' := hv
  obtain ⟨A, l, c, rfl, hv⟩ := rawR_split hv
  have HV := Lib.hid hv
  clear hv hv'
  have hb1 := blkI_new (w.alloc (.cells #[.bool r.neg, .slice A l c, .int .i64 r.e] 24)) (.bool r.neg) (.slice A l c) (.int .i64 r.e) (.bool r.neg) (.slice A l c) (.int .i64 r.e)
  simp only [World.size_alloc] at hb1
  have HB := Lib.hid hb1
  clear hb1
  go_enter Tryd.func30, Tryd.ntmps30
  go_wp2_with fail
  exact ret_iv HB.out rfl rfl rfl ⟨(kept_alloc _ _).trans (kept_alloc _ _), _, rfl, _, _, _, _, _, _, rfl, HV.out.kept ((kept_alloc _ _).trans (kept_alloc _ _)), HV.out.kept ((kept_alloc _ _).trans (kept_alloc _ _))⟩

/-- ival.Hull of clean ones. -/
def hullI (a b : Iv) : Iv := ⟨leastI a.lo b.lo, greatestI a.hi b.hi⟩

theorem box3iii (w : World) (x y z x' y' z' p q r p' q' r' : Value) : ∃ W, W = ((w.alloc (.cells #[x, y, z, x', y', z'] 26)).alloc (.cells #[p, q, r, p', q', r'] 26)).alloc (.cells #[.bool false, .slice none 0 0, .int .i64 0, .bool false, .slice none 0 0, .int .i64 0] 26) ∧
    Kept w W ∧ BlkI W w.heap.size x y z x' y' z' ∧ BlkI W (w.heap.size + 1) p q r p' q' r' ∧ BlkI W (w.heap.size + 1 + 1) (.bool false) (.slice none 0 0) (.int .i64 0) (.bool false) (.slice none 0 0) (.int .i64 0) := by
  obtain ⟨W, hW, k, b1, b2⟩ := box2ii w x y z x' y' z' p q r p' q' r'
  refine ⟨_, rfl, ?_, ?_, ?_, ?_⟩
  · rw [← hW]; exact k.trans (kept_alloc _ _)
  · rw [← hW]; exact b1.kept (kept_alloc _ _)
  · rw [← hW]; exact b2.kept (kept_alloc _ _)
  · have := blkI_zero ((w.alloc (.cells #[x, y, z, x', y', z'] 26)).alloc (.cells #[p, q, r, p', q', r'] 26))
    simp only [World.size_alloc] at this
    exact this

set_option maxHeartbeats 4000000 in
set_option maxRecDepth 100000 in
theorem hull_c {w : World} {v u : Value} {a b : Iv} (hv : IvC w v a) (hu : IvC w u b) (ha : a.Ok) (hb : b.Ok) :
    Calls Tryd.prog 35 #[v, u] w (RetIE ⟨(hullI a b).raw, 0⟩ w) := by
  have m1 := fun w1 (k : Kept w w1) => imayT_c (hv.kept k) ha
  have m2 := fun w1 (k : Kept w w1) => imayT_c (hu.kept k) hb
  obtain ⟨A, l, c, A', l', c', rfl, h1, h2⟩ := ivC_split hv
  obtain ⟨B, j, e, B', j', e', rfl, g1, g2⟩ := ivC_split hu
  have q1 := fun w1 (k : Kept w w1) => ileast_c (h1.kept k) (g1.kept k) ha.lo hb.lo
  have q2 := fun w1 (k : Kept w w1) => igreatest_c (h2.kept k) (g2.kept k) ha.hi hb.hi
  have hdef : (hullI a b).raw = ⟨(leastI a.lo b.lo).raw, (greatestI a.hi b.hi).raw⟩ := rfl
  rw [hdef]
  have M1 := Lib.hid m1
  have M2 := Lib.hid m2
  have Q1 := Lib.hid q1
  have Q2 := Lib.hid q2
  clear m1 m2 q1 q2 h1 h2 g1 g2 hv hu ha hb hdef
  generalize (leastI a.lo b.lo).raw = r1 at *
  generalize (greatestI a.hi b.hi).raw = r2 at *
  generalize a.lo.neg = n1 at *
  generalize a.lo.e = e1 at *
  generalize a.hi.neg = n2 at *
  generalize a.hi.e = e2 at *
  generalize b.lo.neg = n3 at *
  generalize b.lo.e = e3 at *
  generalize b.hi.neg = n4 at *
  generalize b.hi.e = e4 at *
  obtain ⟨W, hW, kW, BI, BJ, BR⟩ := box3iii w (.bool n1) (.slice A l c) (.int .i64 e1) (.bool n2) (.slice A' l' c') (.int .i64 e2) (.bool n3) (.slice B j e) (.int .i64 e3) (.bool n4) (.slice B' j' e') (.int .i64 e4)
  have HW := Lib.hid hW
  have K := Lib.hid kW
  have HB := Lib.hid BI
  have HD := Lib.hid BJ
  have HR := Lib.hid BR
  clear hW kW BI BJ BR
  go_enter Tryd.func35, Tryd.ntmps35
  go_wp2_with fail
  rw [← HW.out]
  refine (M1.out _ K.out).mono ?_
  rintro e w1 ⟨rfl, q⟩
  replace K := Lib.hid (K.out.trans q)
  replace HB := Lib.hid (HB.out.kept q)
  replace HD := Lib.hid (HD.out.kept q)
  replace HR := Lib.hid (HR.out.kept q)
  clear q
  obtain ⟨-, c0, c1, c2, c3, c4, c5⟩ := HB.out.facts
  obtain ⟨-, d0, d1, d2, d3, d4, d5⟩ := HD.out.facts
  simp only []
  go_wp2_with fail
  refine (M2.out _ K.out).mono ?_
  clear c0 c1 c2 c3 c4 c5 d0 d1 d2 d3 d4 d5
  rintro e w1 ⟨rfl, q⟩
  replace K := Lib.hid (K.out.trans q)
  replace HB := Lib.hid (HB.out.kept q)
  replace HD := Lib.hid (HD.out.kept q)
  replace HR := Lib.hid (HR.out.kept q)
  clear q
  obtain ⟨-, c0, c1, c2, c3, c4, c5⟩ := HB.out.facts
  obtain ⟨-, d0, d1, d2, d3, d4, d5⟩ := HD.out.facts
  simp only []
  go_wp2_with fail
  clear c0 c1 c2 c3 c4 c5 d0 d1 d2 d3 d4 d5
  refine region_lin2 (m := 11) (V := VL [
      (fun v _ => v = (.pointer (some ⟨w.heap.size, 0, none⟩))),
      (fun v _ => v = (.agg #[.bool n1, .slice A l c, .int .i64 e1])),
      (fun v _ => v = (.pointer (some ⟨w.heap.size + 1, 0, none⟩))),
      (fun v _ => v = (.agg #[.bool n3, .slice B j e, .int .i64 e3])),
      (fun v wv => DyR wv v r1),
      (fun v _ => v = (.pointer (some ⟨w.heap.size, 3, none⟩))),
      (fun v _ => v = (.agg #[.bool n2, .slice A' l' c', .int .i64 e2])),
      (fun v _ => v = (.pointer (some ⟨w.heap.size + 1, 3, none⟩))),
      (fun v _ => v = (.agg #[.bool n4, .slice B' j' e', .int .i64 e4])),
      (fun v wv => DyR wv v r2),
      (fun v wv => IvR wv v ⟨r1, r2⟩)])
    (by kernel_rfl) rfl rfl rfl rfl rfl (by kernel_rfl) (by kernel_rfl) (by kernel_rfl) (by kernel_rfl) (mono_of _ ⟨mono_eq _, mono_eq _, mono_eq _, mono_eq _, fun v w w' k h => by first | exact h | exact h.kept k | exact ⟨h.1, h.2.kept k⟩, mono_eq _, mono_eq _, mono_eq _, mono_eq _, fun v w w' k h => by first | exact h | exact h.kept k | exact ⟨h.1, h.2.kept k⟩, fun v w w' k h => by first | exact h | exact h.kept k | exact ⟨h.1, h.2.kept k⟩, trivial⟩) (steps_of ⟨
      (fun aF wF F => by
    have s2 : aF.tmps.getD 2 undef = (.pointer (some ⟨w.heap.size, 0, none⟩)) := F.old 2 (by kernel_rfl)
    exact step_val (by simp [Region.wanted]) (by go_simp) rfl),
      (fun aF wF F => by
    have s15 : aF.tmps.getD 15 undef = (.pointer (some ⟨w.heap.size, 0, none⟩)) := F.done 0 15 (by kernel_rfl) rfl
    have c0 := cell_at HB.out F.kept 0 _ rfl
    have c1 := cell_at HB.out F.kept 1 _ rfl
    have c2 := cell_at HB.out F.kept 2 _ rfl
    exact step_val (by simp [Region.wanted]) (by go_simp) rfl),
      (fun aF wF F => by
    have s3 : aF.tmps.getD 3 undef = (.pointer (some ⟨w.heap.size + 1, 0, none⟩)) := F.old 3 (by kernel_rfl)
    exact step_val (by simp [Region.wanted]) (by go_simp) rfl),
      (fun aF wF F => by
    have s17 : aF.tmps.getD 17 undef = (.pointer (some ⟨w.heap.size + 1, 0, none⟩)) := F.done 2 17 (by kernel_rfl) rfl
    have c0 := cell_at HD.out F.kept 0 _ rfl
    have c1 := cell_at HD.out F.kept 1 _ rfl
    have c2 := cell_at HD.out F.kept 2 _ rfl
    exact step_val (by simp [Region.wanted]) (by go_simp) rfl),
      (fun aF wF F => by
    have s16 : aF.tmps.getD 16 undef = (.agg #[.bool n1, .slice A l c, .int .i64 e1]) := F.done 1 16 (by kernel_rfl) rfl
    have s18 : aF.tmps.getD 18 undef = (.agg #[.bool n3, .slice B j e, .int .i64 e3]) := F.done 3 18 (by kernel_rfl) rfl
    exact step_good (by simp [Region.wanted]) (by go_simp) (Q1.out _ (K.out.trans F.kept)) (fun _ _ h => RetD.good h) (fun _ _ h => h)),
      (fun aF wF F => by
    have s2 : aF.tmps.getD 2 undef = (.pointer (some ⟨w.heap.size, 0, none⟩)) := F.old 2 (by kernel_rfl)
    exact step_val (by simp [Region.wanted]) (by go_simp) rfl),
      (fun aF wF F => by
    have s20 : aF.tmps.getD 20 undef = (.pointer (some ⟨w.heap.size, 3, none⟩)) := F.done 5 20 (by kernel_rfl) rfl
    have c0 := cell_at HB.out F.kept 3 _ rfl
    have c1 := cell_at HB.out F.kept 4 _ rfl
    have c2 := cell_at HB.out F.kept 5 _ rfl
    exact step_val (by simp [Region.wanted]) (by go_simp) rfl),
      (fun aF wF F => by
    have s3 : aF.tmps.getD 3 undef = (.pointer (some ⟨w.heap.size + 1, 0, none⟩)) := F.old 3 (by kernel_rfl)
    exact step_val (by simp [Region.wanted]) (by go_simp) rfl),
      (fun aF wF F => by
    have s22 : aF.tmps.getD 22 undef = (.pointer (some ⟨w.heap.size + 1, 3, none⟩)) := F.done 7 22 (by kernel_rfl) rfl
    have c0 := cell_at HD.out F.kept 3 _ rfl
    have c1 := cell_at HD.out F.kept 4 _ rfl
    have c2 := cell_at HD.out F.kept 5 _ rfl
    exact step_val (by simp [Region.wanted]) (by go_simp) rfl),
      (fun aF wF F => by
    have s21 : aF.tmps.getD 21 undef = (.agg #[.bool n2, .slice A' l' c', .int .i64 e2]) := F.done 6 21 (by kernel_rfl) rfl
    have s23 : aF.tmps.getD 23 undef = (.agg #[.bool n4, .slice B' j' e', .int .i64 e4]) := F.done 8 23 (by kernel_rfl) rfl
    exact step_good (by simp [Region.wanted]) (by go_simp) (Q2.out _ (K.out.trans F.kept)) (fun _ _ h => RetD.good h) (fun _ _ h => h)),
      (fun aF wF F => by
    have s19 : (fun v wv => DyR wv v r1) (aF.tmps.getD 19 undef) wF := F.done 4 19 (by kernel_rfl) rfl
    have s24 : (fun v wv => DyR wv v r2) (aF.tmps.getD 24 undef) wF := F.done 9 24 (by kernel_rfl) rfl
    obtain ⟨X1, Y1, Z1, ee1, gg1⟩ := rawR_split s19; obtain ⟨X2, Y2, Z2, ee2, gg2⟩ := rawR_split s24; simp only [Array.getD_eq_getD_getElem?] at ee1 ee2; exact step_val (by simp [Region.wanted]) (by go_simp) ⟨_, _, _, _, _, _, rfl, gg1, gg2⟩),
      trivial⟩) ?_
  intro u w1 k1 hu
  have e15 : u 0 = (.pointer (some ⟨w.heap.size, 0, none⟩)) := hu 0 (by decide)
  have e16 : u 1 = (.agg #[.bool n1, .slice A l c, .int .i64 e1]) := hu 1 (by decide)
  have e17 : u 2 = (.pointer (some ⟨w.heap.size + 1, 0, none⟩)) := hu 2 (by decide)
  have e18 : u 3 = (.agg #[.bool n3, .slice B j e, .int .i64 e3]) := hu 3 (by decide)
  have p19 := hu 4 (by decide)
  have e20 : u 5 = (.pointer (some ⟨w.heap.size, 3, none⟩)) := hu 5 (by decide)
  have e21 : u 6 = (.agg #[.bool n2, .slice A' l' c', .int .i64 e2]) := hu 6 (by decide)
  have e22 : u 7 = (.pointer (some ⟨w.heap.size + 1, 3, none⟩)) := hu 7 (by decide)
  have e23 : u 8 = (.agg #[.bool n4, .slice B' j' e', .int .i64 e4]) := hu 8 (by decide)
  have p24 := hu 9 (by decide)
  have p25 := hu 10 (by decide)
  clear hu
  simp only [puts, slotOf, if_true, Act.put, List.setIfInBounds_toArray, List.set_cons_zero, List.set_cons_succ, List.getElem?_toArray, List.getElem?_cons_zero, List.getElem?_cons_succ, Option.bind_some, e15, e16, e17, e18, e20, e21, e22, e23]
  clear e15 e16 e17 e18 e20 e21 e22 e23
  generalize u 4 = v19 at *
  try simp only [VL, List.getD_cons_zero, List.getD_cons_succ] at p19
  generalize u 9 = v24 at *
  try simp only [VL, List.getD_cons_zero, List.getD_cons_succ] at p24
  generalize u 10 = v25 at *
  try simp only [VL, List.getD_cons_zero, List.getD_cons_succ] at p25
  obtain ⟨A1, j1, k1', A2, j2, k2', rfl, z1, z2⟩ := ivR_split p25
  have hr := HR.out.kept k1
  obtain ⟨hsz, r0, r1', r2', r3, r4, r5⟩ := hr.facts
  obtain ⟨f0, f1, f2, f3, f4, f5⟩ := hr.free
  have HRR := Lib.hid hr
  have Z1 := Lib.hid z1
  have Z2 := Lib.hid z2
  have K1 := Lib.hid (K.out.trans k1)
  clear hr z1 z2 k1 p25 p19 p24
  refine ⟨?_, ?_⟩
  · go_simp
    go_wp2_with fail
    exact ret_iv2 (HRR.out.laid _ _ _ _ _ _) rfl rfl rfl ⟨ivW_kept K1.out (by omega), _, rfl, _, _, _, _, _, _, rfl, Z1.out.ivW HRR.out _ _ _ _ _ _, Z2.out.ivW HRR.out _ _ _ _ _ _⟩
  · first
      | exact .inl (by kernel_rfl)
      | (right
         go_simp
         go_wp2_with fail
         exact ret_iv2 (HRR.out.laid _ _ _ _ _ _) rfl rfl rfl ⟨ivW_kept K1.out (by omega), _, rfl, _, _, _, _, _, _, rfl, Z1.out.ivW HRR.out _ _ _ _ _ _, Z2.out.ivW HRR.out _ _ _ _ _ _⟩)


end Go.Proofs.YtjdplcenniogdaaDoor
/- Contracts: slices.Equal over limbs; dyad.Same, ival.Same. -/
namespace Go.Proofs.YtjdplcenniogdaaDoor
open Go.RowKit

theorem beq_take {xs ys : List Nat} (hl : xs.length = ys.length) (h : ∀ i, i < xs.length → nth xs i = nth ys i) : xs = ys := by
  apply List.ext_getElem hl
  intro i h1 h2
  have := h i h1
  unfold nth at this
  rw [List.getD_eq_getElem?_getD, List.getD_eq_getElem?_getD, List.getElem?_eq_getElem h1, List.getElem?_eq_getElem h2] at this
  exact this

set_option maxHeartbeats 2000000 in
set_option maxRecDepth 100000 in
theorem equal_c {w : World} {v u : Value} {xs ys : List Nat} (hv : Lim w v xs) (hu : Lim w u ys) (hl : xs.length ≤ 17592186044416) :
    Calls Tryd.prog 44 #[v, u] w (RetK (.bool (xs == ys)) w) := by
  obtain ⟨hs, A, c, rfl, hc, hA⟩ := hv
  obtain ⟨hs', A', c', rfl, hc', hA'⟩ := hu
  by_cases hne : xs.length = ys.length
  · have hlb : ((xs.length : Int) == (ys.length : Int)) = true := by rw [beq_iff_eq]; omega
    have HE := Lib.hid hne
    obtain ⟨n, hn⟩ : ∃ n, n = xs.length := ⟨_, rfl⟩
    have hn2 : n = ys.length := by omega
    rw [← hn] at hl hc hA ⊢
    rw [← hn2] at hc' hA' ⊢
    rw [← hn, ← hn2] at hlb
    have HA := Lib.hid hA
    have HA' := Lib.hid hA'
    have HS := Lib.hid hs
    have HS' := Lib.hid hs'
    have HN := Lib.hid hn
    clear hA hA' hs hs' hn hn2 hne hlb
    have hlb : ((n : Int) == (n : Int)) = true := by rw [beq_iff_eq]
    go_enter Tryd.func44, Tryd.ntmps44
    go_wp2_with fail
    go_loopw [13] (fun t wr => ∃ k : Nat, k ≤ n ∧ t = .int .i64 k ∧ (∀ i, i < k → nth xs i = nth ys i) ∧ Kept w wr) (fun t _ => (n - intOf t).toNat)
    case atStart => exact ⟨0, Nat.zero_le _, rfl, fun i hi => absurd hi (Nat.not_lt_zero _), Below.refl _ _⟩
    case round =>
      obtain ⟨k, hk, rfl, heq, hK⟩ := hrel
      have K := Lib.hid hK
      clear hK
      have HQ := Lib.hid heq
      clear heq
      by_cases hlt : k < n
      · obtain ⟨b, off, rfl, hb, hcell⟩ := HA.out (by omega)
        obtain ⟨b', off', rfl, hb', hcell'⟩ := HA'.out (by omega)
        have h1 := fun w1 (q : Kept wr w1) => ((K.out.trans q).cell (p := ⟨b, off + k, none⟩) hb).trans (hcell k hlt)
        have h2 := fun w1 (q : Kept wr w1) => ((K.out.trans q).cell (p := ⟨b', off' + k, none⟩) hb').trans (hcell' k hlt)
        have H1 := Lib.hid h1
        have H2 := Lib.hid h2
        have hx0 : (0 : Int) ≤ (k : Int) := by omega
        have hx1 : (k : Int) < (n : Int) := by omega
        clear hcell hcell' h1 h2
        by_cases hxy : nth xs k = nth ys k
        · have hb1 : (((nth xs k : Nat) : Int) != ((nth ys k : Nat) : Int)) = false := by simp [hxy]
          have HXY := Lib.hid hxy
          clear hxy
          generalize hgx : nth xs k = x at *
          generalize hgy : nth ys k = y at *
          have GX := Lib.hid hgx
          have GY := Lib.hid hgy
          clear hgx hgy
          go_wp2_with fail
          refine region_lin (m := 9) (V := VL [
              (fun v _ => v = (.slice (some ⟨b, off, none⟩) n c)),
              (fun v _ => v = (.int .i64 k)),
              (fun v _ => v = (.pointer (some ⟨b, off + k, none⟩))),
              (fun v _ => v = (.int .u64 x)),
              (fun v _ => v = (.slice (some ⟨b', off', none⟩) n c')),
              (fun v _ => v = (.int .i64 k)),
              (fun v _ => v = (.pointer (some ⟨b', off' + k, none⟩))),
              (fun v _ => v = (.int .u64 y)),
              (fun v _ => v = (.bool false))])
            (by kernel_rfl) rfl (by kernel_rfl) (by kernel_rfl) (by kernel_rfl) (mono_of _ ⟨mono_eq _, mono_eq _, mono_eq _, mono_eq _, mono_eq _, mono_eq _, mono_eq _, mono_eq _, mono_eq _, trivial⟩) (steps_of ⟨
              (fun aF wF F => by
            have s0 : aF.tmps.getD 0 undef = (.slice (some ⟨b, off, none⟩) n c) := F.old 0 (by kernel_rfl)
            exact step_val (by simp [Region.wanted]) (by go_simp) rfl),
              (fun aF wF F => by
            have s5 : aF.tmps.getD 5 undef = (.int .i64 k) := F.old 5 (by kernel_rfl)
            exact step_val (by simp [Region.wanted]) (by go_simp) rfl),
              (fun aF wF F => by
            have s16 : aF.tmps.getD 16 undef = (.slice (some ⟨b, off, none⟩) n c) := F.done 0 16 (by kernel_rfl) rfl
            have s17 : aF.tmps.getD 17 undef = (.int .i64 k) := F.done 1 17 (by kernel_rfl) rfl
            exact step_val (by simp [Region.wanted]) (by go_simp) rfl),
              (fun aF wF F => by
            have s18 : aF.tmps.getD 18 undef = (.pointer (some ⟨b, off + k, none⟩)) := F.done 2 18 (by kernel_rfl) rfl
            exact step_val (by simp [Region.wanted]) (by have h := H1.out _ F.kept; go_simp) rfl),
              (fun aF wF F => by
            have s1 : aF.tmps.getD 1 undef = (.slice (some ⟨b', off', none⟩) n c') := F.old 1 (by kernel_rfl)
            exact step_val (by simp [Region.wanted]) (by go_simp) rfl),
              (fun aF wF F => by
            have s5 : aF.tmps.getD 5 undef = (.int .i64 k) := F.old 5 (by kernel_rfl)
            exact step_val (by simp [Region.wanted]) (by go_simp) rfl),
              (fun aF wF F => by
            have s20 : aF.tmps.getD 20 undef = (.slice (some ⟨b', off', none⟩) n c') := F.done 4 20 (by kernel_rfl) rfl
            have s21 : aF.tmps.getD 21 undef = (.int .i64 k) := F.done 5 21 (by kernel_rfl) rfl
            exact step_val (by simp [Region.wanted]) (by go_simp) rfl),
              (fun aF wF F => by
            have s22 : aF.tmps.getD 22 undef = (.pointer (some ⟨b', off' + k, none⟩)) := F.done 6 22 (by kernel_rfl) rfl
            exact step_val (by simp [Region.wanted]) (by have h := H2.out _ F.kept; go_simp) rfl),
              (fun aF wF F => by
            have s19 : aF.tmps.getD 19 undef = (.int .u64 x) := F.done 3 19 (by kernel_rfl) rfl
            have s23 : aF.tmps.getD 23 undef = (.int .u64 y) := F.done 7 23 (by kernel_rfl) rfl
            exact step_val (by simp [Region.wanted]) (by go_simp) rfl),
              trivial⟩) ?_
          intro u w1 k1 hu
          have e16 : u 0 = (.slice (some ⟨b, off, none⟩) n c) := hu 0 (by decide)
          have e17 : u 1 = (.int .i64 k) := hu 1 (by decide)
          have e18 : u 2 = (.pointer (some ⟨b, off + k, none⟩)) := hu 2 (by decide)
          have e19 : u 3 = (.int .u64 x) := hu 3 (by decide)
          have e20 : u 4 = (.slice (some ⟨b', off', none⟩) n c') := hu 4 (by decide)
          have e21 : u 5 = (.int .i64 k) := hu 5 (by decide)
          have e22 : u 6 = (.pointer (some ⟨b', off' + k, none⟩)) := hu 6 (by decide)
          have e23 : u 7 = (.int .u64 y) := hu 7 (by decide)
          have e24 : u 8 = (.bool false) := hu 8 (by decide)
          clear hu
          simp only [puts, slotOf, if_true, Act.put, List.setIfInBounds_toArray, List.set_cons_zero, List.set_cons_succ, List.getElem?_toArray, List.getElem?_cons_zero, List.getElem?_cons_succ, Option.bind_some, e16, e17, e18, e19, e20, e21, e22, e23, e24]
          clear e16 e17 e18 e19 e20 e21 e22 e23 e24
          go_wp2_with fail
          go_roundw
          case rel =>
            refine ⟨k + 1, by omega, by go_num, fun i hi => ?_, K.out.trans k1⟩
            by_cases hik : i = k
            · rw [hik, GX.out, GY.out]; exact HXY.out
            · exact HQ.out i (by omega)
          case measure => simp [intOf]; omega
        · have hb1 : (((nth xs k : Nat) : Int) != ((nth ys k : Nat) : Int)) = true := by simp; omega
          have hres : (xs == ys) = false := by
            rw [beq_eq_false_iff_ne]
            intro h
            exact hxy (by rw [h])
          rw [hres]
          clear hres
          have HXY := Lib.hid hxy
          clear hxy
          generalize hgx : nth xs k = x at *
          generalize hgy : nth ys k = y at *
          have GX := Lib.hid hgx
          have GY := Lib.hid hgy
          clear hgx hgy
          go_wp2_with fail
          refine region_lin (m := 9) (V := VL [
              (fun v _ => v = (.slice (some ⟨b, off, none⟩) n c)),
              (fun v _ => v = (.int .i64 k)),
              (fun v _ => v = (.pointer (some ⟨b, off + k, none⟩))),
              (fun v _ => v = (.int .u64 x)),
              (fun v _ => v = (.slice (some ⟨b', off', none⟩) n c')),
              (fun v _ => v = (.int .i64 k)),
              (fun v _ => v = (.pointer (some ⟨b', off' + k, none⟩))),
              (fun v _ => v = (.int .u64 y)),
              (fun v _ => v = (.bool true))])
            (by kernel_rfl) rfl (by kernel_rfl) (by kernel_rfl) (by kernel_rfl) (mono_of _ ⟨mono_eq _, mono_eq _, mono_eq _, mono_eq _, mono_eq _, mono_eq _, mono_eq _, mono_eq _, mono_eq _, trivial⟩) (steps_of ⟨
              (fun aF wF F => by
            have s0 : aF.tmps.getD 0 undef = (.slice (some ⟨b, off, none⟩) n c) := F.old 0 (by kernel_rfl)
            exact step_val (by simp [Region.wanted]) (by go_simp) rfl),
              (fun aF wF F => by
            have s5 : aF.tmps.getD 5 undef = (.int .i64 k) := F.old 5 (by kernel_rfl)
            exact step_val (by simp [Region.wanted]) (by go_simp) rfl),
              (fun aF wF F => by
            have s16 : aF.tmps.getD 16 undef = (.slice (some ⟨b, off, none⟩) n c) := F.done 0 16 (by kernel_rfl) rfl
            have s17 : aF.tmps.getD 17 undef = (.int .i64 k) := F.done 1 17 (by kernel_rfl) rfl
            exact step_val (by simp [Region.wanted]) (by go_simp) rfl),
              (fun aF wF F => by
            have s18 : aF.tmps.getD 18 undef = (.pointer (some ⟨b, off + k, none⟩)) := F.done 2 18 (by kernel_rfl) rfl
            exact step_val (by simp [Region.wanted]) (by have h := H1.out _ F.kept; go_simp) rfl),
              (fun aF wF F => by
            have s1 : aF.tmps.getD 1 undef = (.slice (some ⟨b', off', none⟩) n c') := F.old 1 (by kernel_rfl)
            exact step_val (by simp [Region.wanted]) (by go_simp) rfl),
              (fun aF wF F => by
            have s5 : aF.tmps.getD 5 undef = (.int .i64 k) := F.old 5 (by kernel_rfl)
            exact step_val (by simp [Region.wanted]) (by go_simp) rfl),
              (fun aF wF F => by
            have s20 : aF.tmps.getD 20 undef = (.slice (some ⟨b', off', none⟩) n c') := F.done 4 20 (by kernel_rfl) rfl
            have s21 : aF.tmps.getD 21 undef = (.int .i64 k) := F.done 5 21 (by kernel_rfl) rfl
            exact step_val (by simp [Region.wanted]) (by go_simp) rfl),
              (fun aF wF F => by
            have s22 : aF.tmps.getD 22 undef = (.pointer (some ⟨b', off' + k, none⟩)) := F.done 6 22 (by kernel_rfl) rfl
            exact step_val (by simp [Region.wanted]) (by have h := H2.out _ F.kept; go_simp) rfl),
              (fun aF wF F => by
            have s19 : aF.tmps.getD 19 undef = (.int .u64 x) := F.done 3 19 (by kernel_rfl) rfl
            have s23 : aF.tmps.getD 23 undef = (.int .u64 y) := F.done 7 23 (by kernel_rfl) rfl
            exact step_val (by simp [Region.wanted]) (by go_simp) rfl),
              trivial⟩) ?_
          intro u w1 k1 hu
          have e16 : u 0 = (.slice (some ⟨b, off, none⟩) n c) := hu 0 (by decide)
          have e17 : u 1 = (.int .i64 k) := hu 1 (by decide)
          have e18 : u 2 = (.pointer (some ⟨b, off + k, none⟩)) := hu 2 (by decide)
          have e19 : u 3 = (.int .u64 x) := hu 3 (by decide)
          have e20 : u 4 = (.slice (some ⟨b', off', none⟩) n c') := hu 4 (by decide)
          have e21 : u 5 = (.int .i64 k) := hu 5 (by decide)
          have e22 : u 6 = (.pointer (some ⟨b', off' + k, none⟩)) := hu 6 (by decide)
          have e23 : u 7 = (.int .u64 y) := hu 7 (by decide)
          have e24 : u 8 = (.bool true) := hu 8 (by decide)
          clear hu
          simp only [puts, slotOf, if_true, Act.put, List.setIfInBounds_toArray, List.set_cons_zero, List.set_cons_succ, List.getElem?_toArray, List.getElem?_cons_zero, List.getElem?_cons_succ, Option.bind_some, e16, e17, e18, e19, e20, e21, e22, e23, e24]
          clear e16 e17 e18 e19 e20 e21 e22 e23 e24
          go_wp2_with fail
          go_ret
          exact ⟨rfl, K.out.trans k1⟩
      · obtain rfl : k = n := by omega
        have hres : (xs == ys) = true := by
          rw [beq_iff_eq]
          exact beq_take HE.out (fun i hi => HQ.out i (by have := HN.out; omega))
        go_wp2_with fail
        go_ret
        exact ⟨by rw [hres]; rfl, K.out⟩
  · have hres : (xs == ys) = false := by
      rw [beq_eq_false_iff_ne]
      intro h
      exact hne (by rw [h])
    rw [hres]
    have hlb : ((xs.length : Int) == (ys.length : Int)) = false := by rw [beq_eq_false_iff_ne]; omega
    clear hA hA' hs hs' hne hres
    generalize xs.length = n at *
    generalize ys.length = n' at *
    go_enter Tryd.func44, Tryd.ntmps44
    go_wp2_with fail
    go_ret
    exact ⟨rfl, Below.refl _ _⟩


/-- dyad.Same. -/
def sameR (a b : Raw) : Bool := (a.neg == b.neg) && (a.e == b.e) && (a.m == b.m)

set_option maxHeartbeats 2000000 in
set_option maxRecDepth 100000 in
theorem dsame_c {w : World} {v u : Value} {a b : Raw} (ha : DyR w v a) (hb : DyR w u b) (hl : a.m.length ≤ 17592186044416) :
    Calls Tryd.prog 12 #[v, u] w (RetK (.bool (sameR a b)) w) := by
  obtain ⟨A, l, c, rfl, -, la, -, -⟩ := ha.shape
  obtain ⟨A2, l2, c2, rfl, -, lb, -, -⟩ := hb.shape
  have he := fun w1 (k : Kept w w1) => equal_c (la.kept k) (lb.kept k) hl
  unfold sameR
  have HE := Lib.hid he
  clear he la lb ha hb hl
  generalize (a.m == b.m) = r3 at *
  generalize a.neg = n1 at *
  generalize a.e = e1 at *
  generalize b.neg = n2 at *
  generalize b.e = e2 at *
  obtain ⟨W, hW, kW, B0, B1⟩ := boxes2 w (.bool n1) (.slice A l c) (.int .i64 e1) (.bool n2) (.slice A2 l2 c2) (.int .i64 e2)
  have HW := Lib.hid hW
  have K := Lib.hid kW
  clear hW kW B0 B1
  have hr1 : (n1 == n2) = true ∨ (n1 == n2) = false := bools _
  have hr2 : (e1 == e2) = true ∨ (e1 == e2) = false := bools _
  rcases hr1 with hr1 | hr1
  · rw [hr1, Bool.true_and]
    rcases hr2 with hr2 | hr2
    · rw [hr2, Bool.true_and]
      go_enter Tryd.func12, Tryd.ntmps12
      go_wp2_with fail
      rw [← HW.out]
      refine (HE.out _ K.out).mono ?_
      rintro e w1 ⟨rfl, q⟩
      simp only []
      go_wp2_with fail
      go_ret
      exact ⟨rfl, K.out.trans q⟩
    · rw [hr2, Bool.false_and]
      go_enter Tryd.func12, Tryd.ntmps12
      go_wp2_with fail
      go_ret
      exact ⟨rfl, by have := K.out; rwa [HW.out] at this⟩
  · rw [hr1, Bool.false_and, Bool.false_and]
    clear hr2
    go_enter Tryd.func12, Tryd.ntmps12
    go_wp2_with fail
    go_ret
    exact ⟨rfl, by have := K.out; rwa [HW.out] at this⟩

set_option maxHeartbeats 2000000 in
set_option maxRecDepth 100000 in
theorem isame_c {w : World} {v u : Value} {a b : RawI} (hv : IvR w v a) (hu : IvR w u b) (hl : a.lens 17592186044416) :
    Calls Tryd.prog 26 #[v, u] w (RetK (.bool (sameR a.lo b.lo && sameR a.hi b.hi)) w) := by
  obtain ⟨A, l, c, A', l', c', rfl, h1, h2⟩ := ivR_split hv
  obtain ⟨B, j, e, B', j', e', rfl, g1, g2⟩ := ivR_split hu
  have q1 := fun w1 (k : Kept w w1) => dsame_c (h1.kept k) (g1.kept k) hl.1
  have q2 := fun w1 (k : Kept w w1) => dsame_c (h2.kept k) (g2.kept k) hl.2
  have Q1 := Lib.hid q1
  have Q2 := Lib.hid q2
  clear q1 q2 h1 h2 g1 g2 hv hu hl
  generalize sameR a.lo b.lo = r1 at *
  generalize sameR a.hi b.hi = r2 at *
  generalize a.lo.neg = n1 at *
  generalize a.lo.e = e1 at *
  generalize a.hi.neg = n2 at *
  generalize a.hi.e = e2 at *
  generalize b.lo.neg = n3 at *
  generalize b.lo.e = e3 at *
  generalize b.hi.neg = n4 at *
  generalize b.hi.e = e4 at *
  obtain ⟨W, hW, kW, BI, BJ⟩ := box2ii w (.bool n1) (.slice A l c) (.int .i64 e1) (.bool n2) (.slice A' l' c') (.int .i64 e2) (.bool n3) (.slice B j e) (.int .i64 e3) (.bool n4) (.slice B' j' e') (.int .i64 e4)
  have HW := Lib.hid hW
  have K := Lib.hid kW
  have HB := Lib.hid BI
  have HD := Lib.hid BJ
  clear hW kW BI BJ
  cases r1
  · rw [Bool.false_and]
    go_enter Tryd.func26, Tryd.ntmps26
    go_wp2_with fail
    rw [← HW.out]
    refine (Q1.out _ K.out).mono ?_
    rintro e w1 ⟨rfl, q⟩
    replace K := Lib.hid (K.out.trans q)
    replace HB := Lib.hid (HB.out.kept q)
    replace HD := Lib.hid (HD.out.kept q)
    clear q
    obtain ⟨-, c0, c1, c2, c3, c4, c5⟩ := HB.out.facts
    obtain ⟨-, d0, d1, d2, d3, d4, d5⟩ := HD.out.facts
    simp only []
    go_wp2_with fail
    go_ret
    exact ⟨rfl, K.out⟩
  · rw [Bool.true_and]
    go_enter Tryd.func26, Tryd.ntmps26
    go_wp2_with fail
    rw [← HW.out]
    refine (Q1.out _ K.out).mono ?_
    rintro e w1 ⟨rfl, q⟩
    replace K := Lib.hid (K.out.trans q)
    replace HB := Lib.hid (HB.out.kept q)
    replace HD := Lib.hid (HD.out.kept q)
    clear q
    obtain ⟨-, c0, c1, c2, c3, c4, c5⟩ := HB.out.facts
    obtain ⟨-, d0, d1, d2, d3, d4, d5⟩ := HD.out.facts
    simp only []
    go_wp2_with fail
    refine (Q2.out _ K.out).mono ?_
    clear c0 c1 c2 c3 c4 c5 d0 d1 d2 d3 d4 d5
    rintro e w1 ⟨rfl, q⟩
    replace K := Lib.hid (K.out.trans q)
    replace HB := Lib.hid (HB.out.kept q)
    replace HD := Lib.hid (HD.out.kept q)
    clear q
    obtain ⟨-, c0, c1, c2, c3, c4, c5⟩ := HB.out.facts
    obtain ⟨-, d0, d1, d2, d3, d4, d5⟩ := HD.out.facts
    simp only []
    go_wp2_with fail
    go_ret
    exact ⟨rfl, K.out⟩


end Go.Proofs.YtjdplcenniogdaaDoor
namespace Go.Proofs.YtjdplcenniogdaaDoor
open Go.RowKit

theorem must_okA (k : Int) (w : World) : Calls Tryd.prog 48 #[.bool true, .int .i64 k] w fun e w' => e = .returned (.tuple #[]) ∧ w = w' := by
  go_enter Tryd.func48, Tryd.ntmps48
  go_wp2
  go_end0
  exact ⟨rfl, rfl⟩

theorem must_badA (k : Int) (w : World) : Calls Tryd.prog 48 #[.bool false, .int .i64 k] w fun e w' => e = .panicked (failV 87 k) ∧ w = w' := by
  go_enter Tryd.func48, Tryd.ntmps48
  go_wp2
  exact ⟨rfl, rfl, rfl⟩

theorem must_cA (b : Bool) (k : Int) (w : World) : Calls Tryd.prog 48 #[.bool b, .int .i64 k] w fun e w' => e = mustE 87 b k ∧ w = w' := by
  cases b
  · exact must_badA k w
  · exact must_okA k w

theorem must_trueA (k : Int) (w : World) : Calls Tryd.prog 48 #[.bool true, .int .i64 k] w (RetK (.tuple #[]) w) := (must_cA true k w).mono fun _ _ ⟨he, hw⟩ => ⟨he, hw ▸ Below.refl _ _⟩

theorem must_ifA (b : Bool) (k : Int) (w : World) : Calls Tryd.prog 48 #[.bool b, .int .i64 k] w fun e w' => (∃ v, e = .returned v ∧ Kept w w' ∧ (b = true ∧ v = .tuple #[])) ∨ (∃ c, e = .panicked c ∧ (b = false ∧ c = failV 87 k ∧ w = w')) :=
  (must_cA b k w).mono fun e w' ⟨he, hw⟩ => by
    subst hw
    cases b
    · exact .inr ⟨_, he, rfl, rfl, rfl⟩
    · exact .inl ⟨_, he, Below.refl _ _, rfl, rfl⟩

theorem run_assert_failA (k : Int) (w : World) : (Instr.typeAssert (.iface 87 (.agg #[.int .i64 k])) 20 87 true).run Tryd.prog w = .ok (.tuple #[.agg #[.int .i64 k], .bool true]) w := by
  kernel_rfl

theorem run_assert_nilA (w : World) : (Instr.typeAssert .nilIface 20 87 true).run Tryd.prog w = .ok (.tuple #[.agg #[.int .i64 0], .bool false]) w := by
  kernel_rfl

end Go.Proofs.YtjdplcenniogdaaDoor
