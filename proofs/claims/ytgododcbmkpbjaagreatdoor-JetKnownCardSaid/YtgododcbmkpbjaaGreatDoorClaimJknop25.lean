/- Ends of contracts with intervals, for regions. -/
import Derived.Test.YtgododcbmkpbjaaGreatDoorClaimJknop20
import Derived.Test.YtgododcbmkpbjaaGreatDoorClaimJknop24
set_option maxRecDepth 100000
set_option maxHeartbeats 16000000
namespace Go.Proofs.YtgododcbmkpbjaaGreatDoor
open Go.RowKit
/-- The value v reads in w as the raw interval a: six cells. -/
def IvR (w : World) (v : Value) (a : RawI) : Prop := ∃ x y z x' y' z', v = .agg #[x, y, z, x', y', z'] ∧ DyR w (.agg #[x, y, z]) a.lo ∧ DyR w (.agg #[x', y', z']) a.hi
theorem IvR.kept {w w' : World} {v : Value} {a : RawI} (h : IvR w v a) (k : Kept w w') : IvR w' v a := by
 obtain ⟨x, y, z, x', y', z', rfl, h1, h2⟩ := h
 exact ⟨x, y, z, x', y', z', rfl, h1.kept k, h2.kept k⟩
theorem rawR_split {w : World} {v : Value} {r : Raw} (h : DyR w v r) : ∃ A l c, v = .agg #[.bool r.neg, .slice A l c, .int .i64 r.e] ∧ DyR w (.agg #[.bool r.neg, .slice A l c, .int .i64 r.e]) r := by
 obtain ⟨A, l, c, rfl, -, -, -, -⟩ := h.shape
 exact ⟨A, l, c, rfl, h⟩
/-- An interval's value by its parts. -/
theorem ivR_split {w : World} {v : Value} {a : RawI} (h : IvR w v a) : ∃ A l c A' l' c', v = .agg #[.bool a.lo.neg, .slice A l c, .int .i64 a.lo.e, .bool a.hi.neg, .slice A' l' c', .int .i64 a.hi.e] ∧
 DyR w (.agg #[.bool a.lo.neg, .slice A l c, .int .i64 a.lo.e]) a.lo ∧ DyR w (.agg #[.bool a.hi.neg, .slice A' l' c', .int .i64 a.hi.e]) a.hi := by
 obtain ⟨x, y, z, x', y', z', rfl, h1, h2⟩ := h
 obtain ⟨A, l, c, e1, h1⟩ := rawR_split h1
 obtain ⟨A', l', c', e2, h2⟩ := rawR_split h2
 injection e1 with e1; injection e1 with e1
 injection e2 with e2; injection e2 with e2
 simp only [List.cons.injEq, and_true] at e1 e2
 obtain ⟨rfl, rfl, rfl⟩ := e1
 obtain ⟨rfl, rfl, rfl⟩ := e2
 exact ⟨A, l, c, A', l', c', rfl, h1, h2⟩
/-- An interval's block. -/
def BlkI (w : World) (b : Nat) (x y z x' y' z' : Value) : Prop := w.heap[b]? = some (.cells #[x, y, z, x', y', z'] 32 (0, 0))
theorem BlkI.facts {w : World} {b : Nat} {x y z x' y' z' : Value} (h : BlkI w b x y z x' y' z') : b < w.heap.size ∧ w.cell? ⟨b, 0, none⟩ = some x ∧ w.cell? ⟨b, 1, none⟩ = some y ∧ w.cell? ⟨b, 2, none⟩ = some z ∧
 w.cell? ⟨b, 3, none⟩ = some x' ∧ w.cell? ⟨b, 4, none⟩ = some y' ∧ w.cell? ⟨b, 5, none⟩ = some z' :=
 ⟨(Array.getElem?_eq_some_iff.1 h).1, cell_of_block h 0 _ rfl, cell_of_block h 1 _ rfl, cell_of_block h 2 _ rfl, cell_of_block h 3 _ rfl, cell_of_block h 4 _ rfl, cell_of_block h 5 _ rfl⟩
theorem BlkI.kept {w w1 : World} {b : Nat} {x y z x' y' z' : Value} (h : BlkI w b x y z x' y' z') (k : Kept w w1) : BlkI w1 b x y z x' y' z' :=
 (k.block b (Array.getElem?_eq_some_iff.1 h).1).trans h
theorem blkI_new (w : World) (x y z x' y' z' : Value) : BlkI (w.alloc (.cells #[x, y, z, x', y', z'] 32)) w.heap.size x y z x' y' z' := heap_alloc_new _ _
def RawI.lens (a : RawI) (k : Nat) : Prop := a.lo.m.length ≤ k ∧ a.hi.m.length ≤ k
theorem box1i (w : World) (x y z x' y' z' : Value) : ∃ W, W = w.alloc (.cells #[x, y, z, x', y', z'] 32) ∧ Kept w W ∧ BlkI W w.heap.size x y z x' y' z' :=
 ⟨_, rfl, kept_alloc _ _, blkI_new _ _ _ _ _ _ _⟩
theorem raw_small {w : World} {v : Value} {r : Raw} (h : DyR w v r) : Small r.m := by
 obtain ⟨s, -, hs, -, -⟩ := h; exact hs.1
theorem imay_c {w : World} {v : Value} {a : RawI} (hv : IvR w v a) (hl : a.lens 17592186044416) :
 Calls Tryz.prog 64 #[v] w (RetK (.bool (mayI a)) w) := by
 obtain ⟨A, l, c, A', l', c', rfl, h1, h2⟩ := ivR_split hv
 have m1 := fun w1 (k : Kept w w1) => may_c (h1.kept k) hl.1
 have m2 := fun w1 (k : Kept w w1) => may_c (h2.kept k) hl.2
 have hc : mayD a.lo = true → mayD a.hi = true → ∀ w1, Kept w w1 → Calls Tryz.prog 21 #[.agg #[.bool a.lo.neg, .slice A l c, .int .i64 a.lo.e], .agg #[.bool a.hi.neg, .slice A' l' c', .int .i64 a.hi.e]] w1 (RetK (.int .i64 (cmpQ a.lo.dy.q a.hi.dy.q)) w1) := by
  intro d1 d2 w1 k
  obtain ⟨e1, o1⟩ := mayD_clean (raw_small h1) d1
  obtain ⟨e2, o2⟩ := mayD_clean (raw_small h2) d2
  have g1 := h1.kept k
  have g2 := h2.kept k
  exact dcmp_c (x := a.lo.dy) (y := a.hi.dy) (by rw [e1]; exact g1) (by rw [e2]; exact g2) o1 o2
 unfold mayI
 have M1 := Lib.hid m1
 have M2 := Lib.hid m2
 have HC := Lib.hid hc
 clear m1 m2 hc h1 h2 hv hl
 generalize a.lo.neg = n1 at *
 generalize a.lo.e = e1 at *
 generalize a.hi.neg = n2 at *
 generalize a.hi.e = e2 at *
 generalize cmpQ a.lo.dy.q a.hi.dy.q = cc at *
 generalize mayD a.lo = b1 at *
 generalize mayD a.hi = b2 at *
 obtain ⟨W, hW, kW, BI⟩ := box1i w (.bool n1) (.slice A l c) (.int .i64 e1) (.bool n2) (.slice A' l' c') (.int .i64 e2)
 have HW := Lib.hid hW
 have HK := Lib.hid kW
 have HB := Lib.hid BI
 clear hW kW BI
 cases b1
 ·rw [Bool.false_and, Bool.false_and]
  go_enter Tryz.func64, Tryz.ntmps64
  go_wp2_with (go_at_call 42; rw [← HW.out]; refine (M1.out _ HK.out).mono ?_; rintro e w1 ⟨rfl, q⟩)
  go_ret
  exact ⟨rfl, HK.out.trans q⟩
 ·cases b2
  ·rw [Bool.and_false, Bool.false_and]
   go_enter Tryz.func64, Tryz.ntmps64
   go_wp2_with fail
   rw [← HW.out]
   refine (M1.out _ HK.out).mono ?_
   rintro e w1 ⟨rfl, q⟩
   have K := Lib.hid (HK.out.trans q)
   obtain ⟨-, c0, c1, c2, c3, c4, c5⟩ := (HB.out.kept q).facts
   have HB2 := Lib.hid (HB.out.kept q)
   clear q
   simp only []
   go_wp2_with fail
   refine (M2.out _ K.out).mono ?_
   rintro e w2 ⟨rfl, q⟩
   replace K := Lib.hid (K.out.trans q)
   clear c0 c1 c2 c3 c4 c5
   obtain ⟨-, c0, c1, c2, c3, c4, c5⟩ := (HB2.out.kept q).facts
   clear q
   simp only []
   go_wp2_with fail
   go_ret
   exact ⟨rfl, K.out⟩
  ·rw [Bool.and_true, Bool.true_and]
   have hc := HC.out rfl rfl
   clear HC
   have HC := Lib.hid hc
   clear hc
   obtain ⟨rb, hrb⟩ : ∃ rb, decide (cc ≤ 0) = rb := ⟨_, rfl⟩
   rw [hrb]
   go_enter Tryz.func64, Tryz.ntmps64
   go_wp2_with fail
   rw [← HW.out]
   refine (M1.out _ HK.out).mono ?_
   rintro e w1 ⟨rfl, q⟩
   have K := Lib.hid (HK.out.trans q)
   obtain ⟨-, c0, c1, c2, c3, c4, c5⟩ := (HB.out.kept q).facts
   have HB2 := Lib.hid (HB.out.kept q)
   clear q
   simp only []
   go_wp2_with fail
   refine (M2.out _ K.out).mono ?_
   rintro e w2 ⟨rfl, q⟩
   replace K := Lib.hid (K.out.trans q)
   clear c0 c1 c2 c3 c4 c5
   obtain ⟨-, c0, c1, c2, c3, c4, c5⟩ := (HB2.out.kept q).facts
   clear q
   simp only []
   go_wp2_with fail
   refine (HC.out _ K.out).mono ?_
   rintro e w3 ⟨rfl, q⟩
   replace K := Lib.hid (K.out.trans q)
   clear q
   simp only []
   go_wp2_with fail
   go_ret
   exact ⟨rfl, K.out⟩
/-- The value v reads in w as the clean interval a. -/
def IvC (w : World) (v : Value) (a : Iv) : Prop := IvR w v a.raw
theorem IvC.kept {w w' : World} {v : Value} {a : Iv} (h : IvC w v a) (k : Kept w w') : IvC w' v a := IvR.kept h k
theorem ivC_split {w : World} {v : Value} {a : Iv} (h : IvC w v a) : ∃ A l c A' l' c', v = .agg #[.bool a.lo.neg, .slice A l c, .int .i64 a.lo.e, .bool a.hi.neg, .slice A' l' c', .int .i64 a.hi.e] ∧
 DyR w (.agg #[.bool a.lo.neg, .slice A l c, .int .i64 a.lo.e]) a.lo.raw ∧ DyR w (.agg #[.bool a.hi.neg, .slice A' l' c', .int .i64 a.hi.e]) a.hi.raw := ivR_split h
theorem iv_lens {a : Iv} (h : a.Ok) : a.raw.lens 17592186044416 := ⟨by have := dy_len h.lo; show a.lo.raw.m.length ≤ _; omega, by have := dy_len h.hi; show a.hi.raw.m.length ≤ _; omega⟩
theorem imayT_c {w : World} {v : Value} {a : Iv} (hv : IvC w v a) (h : a.Ok) : Calls Tryz.prog 64 #[v] w (RetK (.bool true) w) := by
 have := imay_c hv (iv_lens h)
 rwa [mayI_raw h] at this
theorem mayT_c {w : World} {v : Value} {d : Dy} (hv : DyR w v d.raw) (h : d.Ok) : Calls Tryz.prog 42 #[v] w (RetK (.bool true) w) := by
 have := may_c hv (by have := dy_len h; omega)
 rwa [h.may] at this
/-- ival.Has of clean ones. -/
def hasI (a : Iv) (d : Dy) : Bool := decide (cmpQ a.lo.q d.q ≤ 0) && decide (cmpQ d.q a.hi.q ≤ 0)
theorem box2id (w : World) (x y z x' y' z' p q r : Value) : ∃ W, W = (w.alloc (.cells #[x, y, z, x', y', z'] 32)).alloc (.cells #[p, q, r] 30) ∧ Kept w W ∧ BlkI W w.heap.size x y z x' y' z' ∧ Blk W (w.heap.size + 1) p q r :=
 ⟨_, rfl, (kept_alloc _ _).trans (kept_alloc _ _), (blkI_new _ _ _ _ _ _ _).kept (kept_alloc _ _), blk_new1 _ _ _ _ _⟩
theorem has_c {w : World} {v u : Value} {a : Iv} {d : Dy} (hv : IvC w v a) (hu : DyR w u d.raw) (ha : a.Ok) (hd : d.Ok) :
 Calls Tryz.prog 25 #[v, u] w (RetK (.bool (hasI a d)) w) := by
 have m1 := fun w1 (k : Kept w w1) => imayT_c (hv.kept k) ha
 have m2 := fun w1 (k : Kept w w1) => mayT_c (hu.kept k) hd
 obtain ⟨A, l, c, A', l', c', rfl, h1, h2⟩ := ivC_split hv
 obtain ⟨A3, l3, c3, rfl, hu⟩ := dyR_split hu
 have q1 := fun w1 (k : Kept w w1) => dcmp_c (h1.kept k) (hu.kept k) ha.lo hd
 have q2 := fun w1 (k : Kept w w1) => dcmp_c (hu.kept k) (h2.kept k) hd ha.hi
 unfold hasI
 have M1 := Lib.hid m1
 have M2 := Lib.hid m2
 have Q1 := Lib.hid q1
 have Q2 := Lib.hid q2
 clear m1 m2 q1 q2 h1 h2 hv hu ha hd
 generalize cmpQ a.lo.q d.q = r1 at *
 generalize cmpQ d.q a.hi.q = r2 at *
 generalize a.lo.neg = n1 at *
 generalize a.lo.e = e1 at *
 generalize a.hi.neg = n2 at *
 generalize a.hi.e = e2 at *
 generalize d.neg = n3 at *
 generalize d.e = e3 at *
 obtain ⟨W, hW, kW, BI, BD⟩ := box2id w (.bool n1) (.slice A l c) (.int .i64 e1) (.bool n2) (.slice A' l' c') (.int .i64 e2) (.bool n3) (.slice A3 l3 c3) (.int .i64 e3)
 have HW := Lib.hid hW
 have K := Lib.hid kW
 have HB := Lib.hid BI
 have HD := Lib.hid BD
 clear hW kW BI BD
 have hr1 : decide (r1 ≤ 0) = true ∨ decide (r1 ≤ 0) = false := bools _
 rcases hr1 with hr1 | hr1
 ·rw [hr1, Bool.true_and]
  obtain ⟨rb, hrb⟩ : ∃ rb, decide (r2 ≤ 0) = rb := ⟨_, rfl⟩
  rw [hrb]
  go_enter Tryz.func25, Tryz.ntmps25
  go_wp2_with fail
  rw [← HW.out]
  refine (M1.out _ K.out).mono ?_
  rintro e w1 ⟨rfl, q⟩
  replace K := Lib.hid (K.out.trans q)
  replace HB := Lib.hid (HB.out.kept q)
  replace HD := Lib.hid (HD.out.kept q)
  clear q
  obtain ⟨-, c0, c1, c2, c3, c4, c5⟩ := HB.out.facts
  obtain ⟨-, d0, d1, d2, -⟩ := HD.out.facts
  simp only []
  go_wp2_with fail
  refine (M2.out _ K.out).mono ?_
  clear c0 c1 c2 c3 c4 c5 d0 d1 d2
  rintro e w1 ⟨rfl, q⟩
  replace K := Lib.hid (K.out.trans q)
  replace HB := Lib.hid (HB.out.kept q)
  replace HD := Lib.hid (HD.out.kept q)
  clear q
  obtain ⟨-, c0, c1, c2, c3, c4, c5⟩ := HB.out.facts
  obtain ⟨-, d0, d1, d2, -⟩ := HD.out.facts
  simp only []
  go_wp2_with fail
  refine (Q1.out _ K.out).mono ?_
  clear c0 c1 c2 c3 c4 c5 d0 d1 d2
  rintro e w1 ⟨rfl, q⟩
  replace K := Lib.hid (K.out.trans q)
  replace HB := Lib.hid (HB.out.kept q)
  replace HD := Lib.hid (HD.out.kept q)
  clear q
  obtain ⟨-, c0, c1, c2, c3, c4, c5⟩ := HB.out.facts
  obtain ⟨-, d0, d1, d2, -⟩ := HD.out.facts
  simp only []
  go_wp2_with fail
  refine (Q2.out _ K.out).mono ?_
  rintro e w4 ⟨rfl, q⟩
  replace K := Lib.hid (K.out.trans q)
  clear q
  simp only []
  go_wp2_with fail
  go_ret
  exact ⟨rfl, K.out⟩
 ·rw [hr1, Bool.false_and]
  go_enter Tryz.func25, Tryz.ntmps25
  go_wp2_with fail
  rw [← HW.out]
  refine (M1.out _ K.out).mono ?_
  rintro e w1 ⟨rfl, q⟩
  replace K := Lib.hid (K.out.trans q)
  replace HB := Lib.hid (HB.out.kept q)
  replace HD := Lib.hid (HD.out.kept q)
  clear q
  obtain ⟨-, c0, c1, c2, c3, c4, c5⟩ := HB.out.facts
  obtain ⟨-, d0, d1, d2, -⟩ := HD.out.facts
  simp only []
  go_wp2_with fail
  refine (M2.out _ K.out).mono ?_
  clear c0 c1 c2 c3 c4 c5 d0 d1 d2
  rintro e w1 ⟨rfl, q⟩
  replace K := Lib.hid (K.out.trans q)
  replace HB := Lib.hid (HB.out.kept q)
  replace HD := Lib.hid (HD.out.kept q)
  clear q
  obtain ⟨-, c0, c1, c2, c3, c4, c5⟩ := HB.out.facts
  obtain ⟨-, d0, d1, d2, -⟩ := HD.out.facts
  simp only []
  go_wp2_with fail
  refine (Q1.out _ K.out).mono ?_
  clear c0 c1 c2 c3 c4 c5 d0 d1 d2
  rintro e w1 ⟨rfl, q⟩
  replace K := Lib.hid (K.out.trans q)
  replace HB := Lib.hid (HB.out.kept q)
  replace HD := Lib.hid (HD.out.kept q)
  clear q
  obtain ⟨-, c0, c1, c2, c3, c4, c5⟩ := HB.out.facts
  obtain ⟨-, d0, d1, d2, -⟩ := HD.out.facts
  simp only []
  go_wp2_with fail
  go_ret
  exact ⟨rfl, K.out⟩
theorem box2ii (w : World) (x y z x' y' z' p q r p' q' r' : Value) : ∃ W, W = (w.alloc (.cells #[x, y, z, x', y', z'] 32)).alloc (.cells #[p, q, r, p', q', r'] 32) ∧ Kept w W ∧ BlkI W w.heap.size x y z x' y' z' ∧ BlkI W (w.heap.size + 1) p q r p' q' r' := by
 refine ⟨_, rfl, (kept_alloc _ _).trans (kept_alloc _ _), (blkI_new _ _ _ _ _ _ _).kept (kept_alloc _ _), ?_⟩
 have := blkI_new (w.alloc (.cells #[x, y, z, x', y', z'] 32)) p q r p' q' r'
 simpa using this
theorem cell_of_block' {w : World} {b : Nat} {cs : Array Value} {t : TypeId} (h : w.heap[b]? = some (.cells cs t (0, 0))) (i : Nat) : w.cell? ⟨b, i, none⟩ = cs[i]? := by
 simp [World.cell?, h]
/-- A block whose cells are no limbs does not matter to limbs. -/
theorem Lim.setBlock {w w' : World} {s : Value} {xs : List Nat} {b : Nat} {cs : Array Value} {t : TypeId} (h : Lim w s xs) (hb : w.heap[b]? = some (.cells cs t (0, 0))) (hn : ∀ (i : Nat) (v : Value), cs[i]? = some v → NoLimb v)
 (hs : w.heap.size ≤ w'.heap.size) (ho : ∀ k, k < w.heap.size → k ≠ b → w'.heap[k]? = w.heap[k]?) : Lim w' s xs := by
 obtain ⟨hsm, A, c, rfl, hc, hA⟩ := h
 refine ⟨hsm, A, c, rfl, hc, fun hp => ?_⟩
 obtain ⟨b1, off, rfl, hb1, hcell⟩ := hA hp
 have hne : b1 ≠ b := by
  rintro rfl
  have h5 := hcell 0 hp
  rw [cell_of_block' hb] at h5
  exact hn _ _ h5 _ rfl
 refine ⟨b1, off, rfl, Nat.lt_of_lt_of_le hb1 hs, fun i hi => ?_⟩
 rw [← hcell i hi]
 exact World.cell?_of_block (ho b1 hb1 hne)
def ivW (w : World) (b : Nat) (x y z x' y' z' : Value) : World :=
 (((((w.setCell ⟨b, 0, none⟩ x).setCell ⟨b, 1, none⟩ y).setCell ⟨b, 2, none⟩ z).setCell ⟨b, 3, none⟩ x').setCell ⟨b, 4, none⟩ y').setCell ⟨b, 5, none⟩ z'
theorem BlkI.laid {w : World} {b : Nat} {p q r p' q' r' : Value} (h : BlkI w b p q r p' q' r') (x y z x' y' z' : Value) : BlkI (ivW w b x y z x' y' z') b x y z x' y' z' :=
 block_setCell (block_setCell (block_setCell (block_setCell (block_setCell (block_setCell h _) _) _) _) _) _
theorem ivW_kept {w0 w : World} {b : Nat} {x y z x' y' z' : Value} (h : Kept w0 w) (h2 : w0.heap.size ≤ b) : Kept w0 (ivW w b x y z x' y' z') :=
 (((((h.setCell (p := ⟨b, 0, none⟩) h2 x).setCell (p := ⟨b, 1, none⟩) h2 y).setCell (p := ⟨b, 2, none⟩) h2 z).setCell (p := ⟨b, 3, none⟩) h2 x').setCell (p := ⟨b, 4, none⟩) h2 y').setCell (p := ⟨b, 5, none⟩) h2 z'
theorem ivW_other (w : World) (b k : Nat) (x y z x' y' z' : Value) (h : k ≠ b) : (ivW w b x y z x' y' z').heap[k]? = w.heap[k]? := by
 unfold ivW
 rw [Below.heap_setCell _ _ _ _ h, Below.heap_setCell _ _ _ _ h, Below.heap_setCell _ _ _ _ h, Below.heap_setCell _ _ _ _ h, Below.heap_setCell _ _ _ _ h, Below.heap_setCell _ _ _ _ h]
theorem BlkI.noLimb {w : World} {b : Nat} {n n' : Bool} {A A' : Option Addr} {l c l' c' : Nat} {e e' : Int} (_h : BlkI w b (.bool n) (.slice A l c) (.int .i64 e) (.bool n') (.slice A' l' c') (.int .i64 e')) :
 ∀ (i : Nat) (v : Value), (#[Value.bool n, .slice A l c, .int .i64 e, .bool n', .slice A' l' c', .int .i64 e'] : Array Value)[i]? = some v → NoLimb v := by
 intro i v hv
 rcases i with _ | _ | _ | _ | _ | _ | i
 ·simp at hv; subst hv; exact noLimb_bool _
 ·simp at hv; subst hv; exact noLimb_slice _ _ _
 ·simp at hv; subst hv; exact noLimb_i64 _
 ·simp at hv; subst hv; exact noLimb_bool _
 ·simp at hv; subst hv; exact noLimb_slice _ _ _
 ·simp at hv; subst hv; exact noLimb_i64 _
 ·simp at hv
theorem Lim.ivW {w : World} {s : Value} {xs : List Nat} {b : Nat} {n n' : Bool} {A A' : Option Addr} {l c l' c' : Nat} {e e' : Int} (h : Lim w s xs) (hb : BlkI w b (.bool n) (.slice A l c) (.int .i64 e) (.bool n') (.slice A' l' c') (.int .i64 e')) (x y z x' y' z' : Value) :
 Lim (Go.Proofs.YtgododcbmkpbjaaGreatDoor.ivW w b x y z x' y' z') s xs :=
 h.setBlock hb hb.noLimb (by simp [Go.Proofs.YtgododcbmkpbjaaGreatDoor.ivW, World.setCell]) (fun k _ hne => ivW_other _ _ _ _ _ _ _ _ _ hne)
theorem DyR.ivW {w : World} {v : Value} {r : Raw} {b : Nat} {n n' : Bool} {A A' : Option Addr} {l c l' c' : Nat} {e e' : Int} (h : DyR w v r) (hb : BlkI w b (.bool n) (.slice A l c) (.int .i64 e) (.bool n') (.slice A' l' c') (.int .i64 e')) (x y z x' y' z' : Value) :
 DyR (Go.Proofs.YtgododcbmkpbjaaGreatDoor.ivW w b x y z x' y' z') v r := by
 obtain ⟨s, rfl, hs, h1, h2⟩ := h
 exact ⟨s, rfl, hs.ivW hb _ _ _ _ _ _, h1, h2⟩
theorem BlkI.free {w : World} {b : Nat} {x y z x' y' z' : Value} (h : BlkI w b x y z x' y' z') : w.frozen? ⟨b, 0, none⟩ = false ∧ w.frozen? ⟨b, 1, none⟩ = false ∧ w.frozen? ⟨b, 2, none⟩ = false ∧ w.frozen? ⟨b, 3, none⟩ = false ∧ w.frozen? ⟨b, 4, none⟩ = false ∧ w.frozen? ⟨b, 5, none⟩ = false :=
 ⟨free_of_block h 0, free_of_block h 1, free_of_block h 2, free_of_block h 3, free_of_block h 4, free_of_block h 5⟩
/-- The end of a function whose result is the interval in a block. -/
theorem ret_iv {fn : Func} {R : Ending → World → Prop} {a : Act} {w : World} {b t : Nat} {x y z x' y' z' : Value} (h : BlkI w b x y z x' y' z')
 (hres : fn.results = #[.cell t 32]) (ht : a.tmps.getD t undef = .pointer (some ⟨b, 0, none⟩)) (hd : a.defers = []) (hR : R (.returned (.agg #[x, y, z, x', y', z'])) w) :
 bodyPost Tryz.prog fn R .ret a w := by
 obtain ⟨_, c0, c1, c2, c3, c4, c5⟩ := h.facts
 refine bodyPost_ret (v := .agg #[x, y, z, x', y', z']) ?_ hd hR
 have ht2 : a.tmps[t]?.getD undef = .pointer (some ⟨b, 0, none⟩) := by simpa using ht
 simp [results, hres, ht2, go_sem, c0, c1, c2, c3, c4, c5]
theorem ret_iv2 {fn : Func} {R : Ending → World → Prop} {a : Act} {w : World} {b t u : Nat} {x y z x' y' z' : Value} (h : BlkI w b x y z x' y' z')
 (hres : fn.results = #[.cell t 32, .tmp u]) (ht : a.tmps.getD t undef = .pointer (some ⟨b, 0, none⟩)) (hd : a.defers = [])
 (hR : R (.returned (.tuple #[.agg #[x, y, z, x', y', z'], a.tmps.getD u undef])) w) : bodyPost Tryz.prog fn R .ret a w := by
 obtain ⟨_, c0, c1, c2, c3, c4, c5⟩ := h.facts
 refine bodyPost_ret (v := .tuple #[.agg #[x, y, z, x', y', z'], a.tmps.getD u undef]) ?_ hd hR
 have ht2 : a.tmps[t]?.getD undef = .pointer (some ⟨b, 0, none⟩) := by simpa using ht
 simp [results, hres, ht2, go_sem, c0, c1, c2, c3, c4, c5]
/-- It returns an interval. -/
def RetI (a : RawI) (w : World) (e : Ending) (w' : World) : Prop := Kept w w' ∧ ∃ v, e = .returned v ∧ IvR w' v a
/-- It returns an interval and an error's number. -/
def RetIE (o : Outc RawI) (w : World) (e : Ending) (w' : World) : Prop := Kept w w' ∧ ∃ v, e = .returned (.tuple #[v, .int .i64 o.k]) ∧ IvR w' v o.v
theorem blkI_zero (w : World) : BlkI (w.alloc (.cells #[.bool false, .slice none 0 0, .int .i64 0, .bool false, .slice none 0 0, .int .i64 0] 32)) w.heap.size (.bool false) (.slice none 0 0) (.int .i64 0) (.bool false) (.slice none 0 0) (.int .i64 0) := heap_alloc_new _ _
theorem iof_c {w : World} {v : Value} {r : Raw} (hv : DyR w v r) : Calls Tryz.prog 14 #[v] w (RetI ⟨r, r⟩ w) := by
 have hv' := hv
 obtain ⟨A, l, c, rfl, hv⟩ := rawR_split hv
 have HV := Lib.hid hv
 clear hv hv'
 have hb1 := blkI_new (w.alloc (.cells #[.bool r.neg, .slice A l c, .int .i64 r.e] 30)) (.bool r.neg) (.slice A l c) (.int .i64 r.e) (.bool r.neg) (.slice A l c) (.int .i64 r.e)
 simp only [World.size_alloc] at hb1
 have HB := Lib.hid hb1
 clear hb1
 go_enter Tryz.func14, Tryz.ntmps14
 go_wp2_with fail
 exact ret_iv HB.out rfl rfl rfl ⟨(kept_alloc _ _).trans (kept_alloc _ _), _, rfl, _, _, _, _, _, _, rfl, HV.out.kept ((kept_alloc _ _).trans (kept_alloc _ _)), HV.out.kept ((kept_alloc _ _).trans (kept_alloc _ _))⟩
theorem beq_take {xs ys : List Nat} (hl : xs.length = ys.length) (h : ∀ i, i < xs.length → nth xs i = nth ys i) : xs = ys := by
 apply List.ext_getElem hl
 intro i h1 h2
 have := h i h1
 unfold nth at this
 rw [List.getD_eq_getElem?_getD, List.getD_eq_getElem?_getD, List.getElem?_eq_getElem h1, List.getElem?_eq_getElem h2] at this
 exact this
theorem equal_c {w : World} {v u : Value} {xs ys : List Nat} (hv : Lim w v xs) (hu : Lim w u ys) (hl : xs.length ≤ 17592186044416) :
 Calls Tryz.prog 76 #[v, u] w (RetK (.bool (xs == ys)) w) := by
 obtain ⟨hs, A, c, rfl, hc, hA⟩ := hv
 obtain ⟨hs', A', c', rfl, hc', hA'⟩ := hu
 by_cases hne : xs.length = ys.length
 ·have hlb : ((xs.length : Int) == (ys.length : Int)) = true := by rw [beq_iff_eq]; omega
  have HE := Lib.hid hne
  obtain ⟨n, hn⟩ : ∃ n, n = xs.length := ⟨_, rfl⟩
  have hn2 : n = ys.length := by omega
  rw [← hn] at hl hc hA ⊢
  rw [← hn2] at hc' hA' ⊢
  rw [← hn, ← hn2] at hlb
  have HA := Lib.hid hA
  have HA' := Lib.hid hA'
  have HS := Lib.hid hs
  have HS' := Lib.hid hs'
  have HN := Lib.hid hn
  clear hA hA' hs hs' hn hn2 hne hlb
  have hlb : ((n : Int) == (n : Int)) = true := by rw [beq_iff_eq]
  go_enter Tryz.func76, Tryz.ntmps76
  go_wp2_with fail
  go_loopw [13] (fun t wr => ∃ k : Nat, k ≤ n ∧ t = .int .i64 k ∧ (∀ i, i < k → nth xs i = nth ys i) ∧ Kept w wr) (fun t _ => (n - intOf t).toNat)
  case atStart => exact ⟨0, Nat.zero_le _, rfl, fun i hi => absurd hi (Nat.not_lt_zero _), Below.refl _ _⟩
  case round =>
   obtain ⟨k, hk, rfl, heq, hK⟩ := hrel
   have K := Lib.hid hK
   clear hK
   have HQ := Lib.hid heq
   clear heq
   by_cases hlt : k < n
   ·obtain ⟨b, off, rfl, hb, hcell⟩ := HA.out (by omega)
    obtain ⟨b', off', rfl, hb', hcell'⟩ := HA'.out (by omega)
    have h1 := fun w1 (q : Kept wr w1) => ((K.out.trans q).cell (p := ⟨b, off + k, none⟩) hb).trans (hcell k hlt)
    have h2 := fun w1 (q : Kept wr w1) => ((K.out.trans q).cell (p := ⟨b', off' + k, none⟩) hb').trans (hcell' k hlt)
    have H1 := Lib.hid h1
    have H2 := Lib.hid h2
    have hx0 : (0 : Int) ≤ (k : Int) := by omega
    have hx1 : (k : Int) < (n : Int) := by omega
    clear hcell hcell' h1 h2
    by_cases hxy : nth xs k = nth ys k
    ·have hb1 : (((nth xs k : Nat) : Int) != ((nth ys k : Nat) : Int)) = false := by simp [hxy]
     have HXY := Lib.hid hxy
     clear hxy
     generalize hgx : nth xs k = x at *
     generalize hgy : nth ys k = y at *
     have GX := Lib.hid hgx
     have GY := Lib.hid hgy
     clear hgx hgy
     go_wp2_with fail
     refine region_lin (m := 9) (V := VL [(vE (.slice (some ⟨b, off, none⟩) n c)), (vE (.int .i64 k)), (vE (.pointer (some ⟨b, off + k, none⟩))), (vE (.int .u64 x)), (vE (.slice (some ⟨b', off', none⟩) n c')), (vE (.int .i64 k)), (vE (.pointer (some ⟨b', off' + k, none⟩))), (vE (.int .u64 y)), (vE (.bool false))])
      (by kernel_rfl) rfl (by kernel_rfl) (by kernel_rfl) (by kernel_rfl) (mono_of _ ⟨mE, mE, mE, mE, mE, mE, mE, mE, mE, trivial⟩) (steps_of ⟨
        (fun aF wF F => by have s0 : aF.tmps.getD 0 undef = (.slice (some ⟨b, off, none⟩) n c) := F.o 0; exact sv rfl), (fun aF wF F => by have s5 : aF.tmps.getD 5 undef = (.int .i64 k) := F.o 5; exact sv rfl), (fun aF wF F => by have s16 := F.v 0 16; have s17 := F.v 1 17; exact sv rfl), (fun aF wF F => by have s18 := F.v 2 18; exact sw (by have h := H1.out _ F.kept; go_simp) rfl), (fun aF wF F => by have s1 : aF.tmps.getD 1 undef = (.slice (some ⟨b', off', none⟩) n c') := F.o 1; exact sv rfl), (fun aF wF F => by have s5 : aF.tmps.getD 5 undef = (.int .i64 k) := F.o 5; exact sv rfl), (fun aF wF F => by have s20 := F.v 4 20; have s21 := F.v 5 21; exact sv rfl), (fun aF wF F => by have s22 := F.v 6 22; exact sw (by have h := H2.out _ F.kept; go_simp) rfl), (fun aF wF F => by have s19 := F.v 3 19; have s23 := F.v 7 23; exact sv rfl),
        trivial⟩) ?_
     intro u w1 k1 hu
     simp only [puts, slotOf, if_true, Act.put, z1, z2, z3, z4, z5, z6, z7, hv hu 0, hv hu 1, hv hu 2, hv hu 3, hv hu 4, hv hu 5, hv hu 6, hv hu 7, hv hu 8]
     clear hu
     go_wp2_with fail
     go_roundw
     case rel =>
      refine ⟨k + 1, by omega, by go_num, fun i hi => ?_, K.out.trans k1⟩
      by_cases hik : i = k
      ·rw [hik, GX.out, GY.out]; exact HXY.out
      ·exact HQ.out i (by omega)
     case measure => simp [intOf]; omega
    ·have hb1 : (((nth xs k : Nat) : Int) != ((nth ys k : Nat) : Int)) = true := by simp; omega
     have hres : (xs == ys) = false := by
      rw [beq_eq_false_iff_ne]
      intro h
      exact hxy (by rw [h])
     rw [hres]
     clear hres
     have HXY := Lib.hid hxy
     clear hxy
     generalize hgx : nth xs k = x at *
     generalize hgy : nth ys k = y at *
     have GX := Lib.hid hgx
     have GY := Lib.hid hgy
     clear hgx hgy
     go_wp2_with fail
     refine region_lin (m := 9) (V := VL [(vE (.slice (some ⟨b, off, none⟩) n c)), (vE (.int .i64 k)), (vE (.pointer (some ⟨b, off + k, none⟩))), (vE (.int .u64 x)), (vE (.slice (some ⟨b', off', none⟩) n c')), (vE (.int .i64 k)), (vE (.pointer (some ⟨b', off' + k, none⟩))), (vE (.int .u64 y)), (vE (.bool true))])
      (by kernel_rfl) rfl (by kernel_rfl) (by kernel_rfl) (by kernel_rfl) (mono_of _ ⟨mE, mE, mE, mE, mE, mE, mE, mE, mE, trivial⟩) (steps_of ⟨
        (fun aF wF F => by have s0 : aF.tmps.getD 0 undef = (.slice (some ⟨b, off, none⟩) n c) := F.o 0; exact sv rfl), (fun aF wF F => by have s5 : aF.tmps.getD 5 undef = (.int .i64 k) := F.o 5; exact sv rfl), (fun aF wF F => by have s16 := F.v 0 16; have s17 := F.v 1 17; exact sv rfl), (fun aF wF F => by have s18 := F.v 2 18; exact sw (by have h := H1.out _ F.kept; go_simp) rfl), (fun aF wF F => by have s1 : aF.tmps.getD 1 undef = (.slice (some ⟨b', off', none⟩) n c') := F.o 1; exact sv rfl), (fun aF wF F => by have s5 : aF.tmps.getD 5 undef = (.int .i64 k) := F.o 5; exact sv rfl), (fun aF wF F => by have s20 := F.v 4 20; have s21 := F.v 5 21; exact sv rfl), (fun aF wF F => by have s22 := F.v 6 22; exact sw (by have h := H2.out _ F.kept; go_simp) rfl), (fun aF wF F => by have s19 := F.v 3 19; have s23 := F.v 7 23; exact sv rfl),
        trivial⟩) ?_
     intro u w1 k1 hu
     simp only [puts, slotOf, if_true, Act.put, z1, z2, z3, z4, z5, z6, z7, hv hu 0, hv hu 1, hv hu 2, hv hu 3, hv hu 4, hv hu 5, hv hu 6, hv hu 7, hv hu 8]
     clear hu
     go_wp2_with fail
     go_ret
     exact ⟨rfl, K.out.trans k1⟩
   ·obtain rfl : k = n := by omega
    have hres : (xs == ys) = true := by
     rw [beq_iff_eq]
     exact beq_take HE.out (fun i hi => HQ.out i (by have := HN.out; omega))
    go_wp2_with fail
    go_ret
    exact ⟨by rw [hres]; rfl, K.out⟩
 ·have hres : (xs == ys) = false := by
   rw [beq_eq_false_iff_ne]
   intro h
   exact hne (by rw [h])
  rw [hres]
  have hlb : ((xs.length : Int) == (ys.length : Int)) = false := by rw [beq_eq_false_iff_ne]; omega
  clear hA hA' hs hs' hne hres
  generalize xs.length = n at *
  generalize ys.length = n' at *
  go_enter Tryz.func76, Tryz.ntmps76
  go_wp2_with fail
  go_ret
  exact ⟨rfl, Below.refl _ _⟩
/-- dyad.Same. -/
def sameR (a b : Raw) : Bool := (a.neg == b.neg) && (a.e == b.e) && (a.m == b.m)
theorem dsame_c {w : World} {v u : Value} {a b : Raw} (ha : DyR w v a) (hb : DyR w u b) (hl : a.m.length ≤ 17592186044416) :
 Calls Tryz.prog 36 #[v, u] w (RetK (.bool (sameR a b)) w) := by
 obtain ⟨A, l, c, rfl, -, la, -, -⟩ := ha.shape
 obtain ⟨A2, l2, c2, rfl, -, lb, -, -⟩ := hb.shape
 have he := fun w1 (k : Kept w w1) => equal_c (la.kept k) (lb.kept k) hl
 unfold sameR
 have HE := Lib.hid he
 clear he la lb ha hb hl
 generalize (a.m == b.m) = r3 at *
 generalize a.neg = n1 at *
 generalize a.e = e1 at *
 generalize b.neg = n2 at *
 generalize b.e = e2 at *
 obtain ⟨W, hW, kW, B0, B1⟩ := boxes2 w (.bool n1) (.slice A l c) (.int .i64 e1) (.bool n2) (.slice A2 l2 c2) (.int .i64 e2)
 have HW := Lib.hid hW
 have K := Lib.hid kW
 clear hW kW B0 B1
 have hr1 : (n1 == n2) = true ∨ (n1 == n2) = false := bools _
 have hr2 : (e1 == e2) = true ∨ (e1 == e2) = false := bools _
 rcases hr1 with hr1 | hr1
 ·rw [hr1, Bool.true_and]
  rcases hr2 with hr2 | hr2
  ·rw [hr2, Bool.true_and]
   go_enter Tryz.func36, Tryz.ntmps36
   go_wp2_with fail
   rw [← HW.out]
   refine (HE.out _ K.out).mono ?_
   rintro e w1 ⟨rfl, q⟩
   simp only []
   go_wp2_with fail
   go_ret
   exact ⟨rfl, K.out.trans q⟩
  ·rw [hr2, Bool.false_and]
   go_enter Tryz.func36, Tryz.ntmps36
   go_wp2_with fail
   go_ret
   exact ⟨rfl, by have := K.out; rwa [HW.out] at this⟩
 ·rw [hr1, Bool.false_and, Bool.false_and]
  clear hr2
  go_enter Tryz.func36, Tryz.ntmps36
  go_wp2_with fail
  go_ret
  exact ⟨rfl, by have := K.out; rwa [HW.out] at this⟩
theorem isame_c {w : World} {v u : Value} {a b : RawI} (hv : IvR w v a) (hu : IvR w u b) (hl : a.lens 17592186044416) :
 Calls Tryz.prog 16 #[v, u] w (RetK (.bool (sameR a.lo b.lo && sameR a.hi b.hi)) w) := by
 obtain ⟨A, l, c, A', l', c', rfl, h1, h2⟩ := ivR_split hv
 obtain ⟨B, j, e, B', j', e', rfl, g1, g2⟩ := ivR_split hu
 have q1 := fun w1 (k : Kept w w1) => dsame_c (h1.kept k) (g1.kept k) hl.1
 have q2 := fun w1 (k : Kept w w1) => dsame_c (h2.kept k) (g2.kept k) hl.2
 have Q1 := Lib.hid q1
 have Q2 := Lib.hid q2
 clear q1 q2 h1 h2 g1 g2 hv hu hl
 generalize sameR a.lo b.lo = r1 at *
 generalize sameR a.hi b.hi = r2 at *
 generalize a.lo.neg = n1 at *
 generalize a.lo.e = e1 at *
 generalize a.hi.neg = n2 at *
 generalize a.hi.e = e2 at *
 generalize b.lo.neg = n3 at *
 generalize b.lo.e = e3 at *
 generalize b.hi.neg = n4 at *
 generalize b.hi.e = e4 at *
 obtain ⟨W, hW, kW, BI, BJ⟩ := box2ii w (.bool n1) (.slice A l c) (.int .i64 e1) (.bool n2) (.slice A' l' c') (.int .i64 e2) (.bool n3) (.slice B j e) (.int .i64 e3) (.bool n4) (.slice B' j' e') (.int .i64 e4)
 have HW := Lib.hid hW
 have K := Lib.hid kW
 have HB := Lib.hid BI
 have HD := Lib.hid BJ
 clear hW kW BI BJ
 cases r1
 ·rw [Bool.false_and]
  go_enter Tryz.func16, Tryz.ntmps16
  go_wp2_with fail
  rw [← HW.out]
  refine (Q1.out _ K.out).mono ?_
  rintro e w1 ⟨rfl, q⟩
  replace K := Lib.hid (K.out.trans q)
  replace HB := Lib.hid (HB.out.kept q)
  replace HD := Lib.hid (HD.out.kept q)
  clear q
  obtain ⟨-, c0, c1, c2, c3, c4, c5⟩ := HB.out.facts
  obtain ⟨-, d0, d1, d2, d3, d4, d5⟩ := HD.out.facts
  simp only []
  go_wp2_with fail
  go_ret
  exact ⟨rfl, K.out⟩
 ·rw [Bool.true_and]
  go_enter Tryz.func16, Tryz.ntmps16
  go_wp2_with fail
  rw [← HW.out]
  refine (Q1.out _ K.out).mono ?_
  rintro e w1 ⟨rfl, q⟩
  replace K := Lib.hid (K.out.trans q)
  replace HB := Lib.hid (HB.out.kept q)
  replace HD := Lib.hid (HD.out.kept q)
  clear q
  obtain ⟨-, c0, c1, c2, c3, c4, c5⟩ := HB.out.facts
  obtain ⟨-, d0, d1, d2, d3, d4, d5⟩ := HD.out.facts
  simp only []
  go_wp2_with fail
  refine (Q2.out _ K.out).mono ?_
  clear c0 c1 c2 c3 c4 c5 d0 d1 d2 d3 d4 d5
  rintro e w1 ⟨rfl, q⟩
  replace K := Lib.hid (K.out.trans q)
  replace HB := Lib.hid (HB.out.kept q)
  replace HD := Lib.hid (HD.out.kept q)
  clear q
  obtain ⟨-, c0, c1, c2, c3, c4, c5⟩ := HB.out.facts
  obtain ⟨-, d0, d1, d2, d3, d4, d5⟩ := HD.out.facts
  simp only []
  go_wp2_with fail
  go_ret
  exact ⟨rfl, K.out⟩
theorem must_okA (k : Int) (w : World) : Calls Tryz.prog 131 #[.bool true, .int .i64 k] w fun e w' => e = .returned (.tuple #[]) ∧ w = w' := by
 go_enter Tryz.func131, Tryz.ntmps131
 go_wp2
 go_end0
 exact ⟨rfl, rfl⟩
theorem must_badA (k : Int) (w : World) : Calls Tryz.prog 131 #[.bool false, .int .i64 k] w fun e w' => e = .panicked (failV 162 k) ∧ w = w' := by
 go_enter Tryz.func131, Tryz.ntmps131
 go_wp2
 exact ⟨rfl, rfl, rfl⟩
theorem must_cA (b : Bool) (k : Int) (w : World) : Calls Tryz.prog 131 #[.bool b, .int .i64 k] w fun e w' => e = mustE 162 b k ∧ w = w' := by
 cases b
 ·exact must_badA k w
 ·exact must_okA k w
theorem must_trueA (k : Int) (w : World) : Calls Tryz.prog 131 #[.bool true, .int .i64 k] w (RetK (.tuple #[]) w) := (must_cA true k w).mono fun _ _ ⟨he, hw⟩ => ⟨he, hw ▸ Below.refl _ _⟩
theorem run_assert_failA (k : Int) (w : World) : (Instr.typeAssert (.iface 162 (.agg #[.int .i64 k])) 20 162 true).run Tryz.prog w = .ok (.tuple #[.agg #[.int .i64 k], .bool true]) w := by
 kernel_rfl
theorem run_assert_nilA (w : World) : (Instr.typeAssert .nilIface 20 162 true).run Tryz.prog w = .ok (.tuple #[.agg #[.int .i64 0], .bool false]) w := by
 kernel_rfl
theorem RetIE.good {o : Outc RawI} {w w' : World} {e : Ending} (h : RetIE o w e w') : GoodEnd (fun u w => ∃ d, u = .tuple #[d, .int .i64 o.k] ∧ IvR w d o.v) w e w' := by
 obtain ⟨k, v, he, hl⟩ := h
 exact ⟨_, he, k, v, rfl, hl⟩
theorem RetI.good {a : RawI} {w w' : World} {e : Ending} (h : RetI a w e w') : GoodEnd (fun u w => IvR w u a) w e w' := by
 obtain ⟨k, v, he, hl⟩ := h
 exact ⟨v, he, k, hl⟩
section
variable {P : Program} {ops : Array Oper} {Q : Exit → Act → World → Prop} {i : Nat} {a : Act} {w : World} {V : Nat → Value → World → Prop} {o : Oper} {f : FuncId} {args : Array Value}
theorem sI {x : RawI} (hc : Calls P f args w (RetI x w)) (hp : ∀ v w', IvR w' v x → V i v w') (hw : Region.wanted o (yielded ops a.tmps) = true := by simp [Region.wanted]) (h : (execOp a.eval o).run P w = .ok (.enter f args) w := by go_simp) : StepOK P ops Q V i o a w :=
 step_good hw h hc (fun _ _ h => RetI.good h) hp
theorem sP {x : Outc RawI} (hc : Calls P f args w (RetIE x w)) (hp : ∀ v w', (∃ d, v = .tuple #[d, .int .i64 x.k] ∧ IvR w' d x.v) → V i v w') (hw : Region.wanted o (yielded ops a.tmps) = true := by simp [Region.wanted]) (h : (execOp a.eval o).run P w = .ok (.enter f args) w := by go_simp) : StepOK P ops Q V i o a w :=
 step_good hw h hc (fun _ _ h => RetIE.good h) hp
end
end Go.Proofs.YtgododcbmkpbjaaGreatDoor
