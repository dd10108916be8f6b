/- Contracts of package ival, third part: Within, least, greatest. -/
import Derived.Test.YtjdplcenniogdaaDoorClaimTurnsp27
/- Contracts of package ival, first part: words for intervals; May. -/
namespace Go.Proofs.YtjdplcenniogdaaDoor
open Go.RowKit

/-- The value v reads in w as the raw interval a: six cells. -/
def IvR (w : World) (v : Value) (a : RawI) : Prop := ∃ x y z x' y' z', v = .agg #[x, y, z, x', y', z'] ∧ DyR w (.agg #[x, y, z]) a.lo ∧ DyR w (.agg #[x', y', z']) a.hi
theorem IvR.kept {w w' : World} {v : Value} {a : RawI} (h : IvR w v a) (k : Kept w w') : IvR w' v a := by
  obtain ⟨x, y, z, x', y', z', rfl, h1, h2⟩ := h
  exact ⟨x, y, z, x', y', z', rfl, h1.kept k, h2.kept k⟩

theorem rawR_split {w : World} {v : Value} {r : Raw} (h : DyR w v r) : ∃ A l c, v = .agg #[.bool r.neg, .slice A l c, .int .i64 r.e] ∧ DyR w (.agg #[.bool r.neg, .slice A l c, .int .i64 r.e]) r := by
  obtain ⟨A, l, c, rfl, -, -, -, -⟩ := h.shape
  exact ⟨A, l, c, rfl, h⟩

/-- An interval's value by its parts. -/
theorem ivR_split {w : World} {v : Value} {a : RawI} (h : IvR w v a) : ∃ A l c A' l' c', v = .agg #[.bool a.lo.neg, .slice A l c, .int .i64 a.lo.e, .bool a.hi.neg, .slice A' l' c', .int .i64 a.hi.e] ∧
    DyR w (.agg #[.bool a.lo.neg, .slice A l c, .int .i64 a.lo.e]) a.lo ∧ DyR w (.agg #[.bool a.hi.neg, .slice A' l' c', .int .i64 a.hi.e]) a.hi := by
  obtain ⟨x, y, z, x', y', z', rfl, h1, h2⟩ := h
  obtain ⟨A, l, c, e1, h1⟩ := rawR_split h1
  obtain ⟨A', l', c', e2, h2⟩ := rawR_split h2
  injection e1 with e1; injection e1 with e1
  injection e2 with e2; injection e2 with e2
  simp only [List.cons.injEq, and_true] at e1 e2
  obtain ⟨rfl, rfl, rfl⟩ := e1
  obtain ⟨rfl, rfl, rfl⟩ := e2
  exact ⟨A, l, c, A', l', c', rfl, h1, h2⟩

/-- An interval's block. -/
def BlkI (w : World) (b : Nat) (x y z x' y' z' : Value) : Prop := w.heap[b]? = some (.cells #[x, y, z, x', y', z'] 26 (0, 0))

theorem BlkI.facts {w : World} {b : Nat} {x y z x' y' z' : Value} (h : BlkI w b x y z x' y' z') : b < w.heap.size ∧ w.cell? ⟨b, 0, none⟩ = some x ∧ w.cell? ⟨b, 1, none⟩ = some y ∧ w.cell? ⟨b, 2, none⟩ = some z ∧
    w.cell? ⟨b, 3, none⟩ = some x' ∧ w.cell? ⟨b, 4, none⟩ = some y' ∧ w.cell? ⟨b, 5, none⟩ = some z' :=
  ⟨(Array.getElem?_eq_some_iff.1 h).1, cell_of_block h 0 _ rfl, cell_of_block h 1 _ rfl, cell_of_block h 2 _ rfl, cell_of_block h 3 _ rfl, cell_of_block h 4 _ rfl, cell_of_block h 5 _ rfl⟩
theorem BlkI.kept {w w1 : World} {b : Nat} {x y z x' y' z' : Value} (h : BlkI w b x y z x' y' z') (k : Kept w w1) : BlkI w1 b x y z x' y' z' :=
  (k.block b (Array.getElem?_eq_some_iff.1 h).1).trans h
theorem blkI_new (w : World) (x y z x' y' z' : Value) : BlkI (w.alloc (.cells #[x, y, z, x', y', z'] 26)) w.heap.size x y z x' y' z' := heap_alloc_new _ _

def RawI.lens (a : RawI) (k : Nat) : Prop := a.lo.m.length ≤ k ∧ a.hi.m.length ≤ k

theorem box1i (w : World) (x y z x' y' z' : Value) : ∃ W, W = w.alloc (.cells #[x, y, z, x', y', z'] 26) ∧ Kept w W ∧ BlkI W w.heap.size x y z x' y' z' :=
  ⟨_, rfl, kept_alloc _ _, blkI_new _ _ _ _ _ _ _⟩

theorem raw_small {w : World} {v : Value} {r : Raw} (h : DyR w v r) : Small r.m := by
  obtain ⟨s, -, hs, -, -⟩ := h; exact hs.1

set_option maxHeartbeats 2000000 in
set_option maxRecDepth 100000 in
theorem imay_c {w : World} {v : Value} {a : RawI} (hv : IvR w v a) (hl : a.lens 17592186044416) :
    Calls Tryd.prog 15 #[v] w (RetK (.bool (mayI a)) w) := by
  obtain ⟨A, l, c, A', l', c', rfl, h1, h2⟩ := ivR_split hv
  have m1 := fun w1 (k : Kept w w1) => may_c (h1.kept k) hl.1
  have m2 := fun w1 (k : Kept w w1) => may_c (h2.kept k) hl.2
  have hc : mayD a.lo = true → mayD a.hi = true → ∀ w1, Kept w w1 → Calls Tryd.prog 45 #[.agg #[.bool a.lo.neg, .slice A l c, .int .i64 a.lo.e], .agg #[.bool a.hi.neg, .slice A' l' c', .int .i64 a.hi.e]] w1 (RetK (.int .i64 (cmpQ a.lo.dy.q a.hi.dy.q)) w1) := by
    intro d1 d2 w1 k
    obtain ⟨e1, o1⟩ := mayD_clean (raw_small h1) d1
    obtain ⟨e2, o2⟩ := mayD_clean (raw_small h2) d2
    have g1 := h1.kept k
    have g2 := h2.kept k
    exact dcmp_c (x := a.lo.dy) (y := a.hi.dy) (by rw [e1]; exact g1) (by rw [e2]; exact g2) o1 o2
  unfold mayI
  have M1 := Lib.hid m1
  have M2 := Lib.hid m2
  have HC := Lib.hid hc
  clear m1 m2 hc h1 h2 hv hl
  generalize a.lo.neg = n1 at *
  generalize a.lo.e = e1 at *
  generalize a.hi.neg = n2 at *
  generalize a.hi.e = e2 at *
  generalize cmpQ a.lo.dy.q a.hi.dy.q = cc at *
  generalize mayD a.lo = b1 at *
  generalize mayD a.hi = b2 at *
  obtain ⟨W, hW, kW, BI⟩ := box1i w (.bool n1) (.slice A l c) (.int .i64 e1) (.bool n2) (.slice A' l' c') (.int .i64 e2)
  have HW := Lib.hid hW
  have HK := Lib.hid kW
  have HB := Lib.hid BI
  clear hW kW BI
  cases b1
  · rw [Bool.false_and, Bool.false_and]
    go_enter Tryd.func15, Tryd.ntmps15
    go_wp2_with (go_at_call 29; rw [← HW.out]; refine (M1.out _ HK.out).mono ?_; rintro e w1 ⟨rfl, q⟩)
    go_ret
    exact ⟨rfl, HK.out.trans q⟩
  · cases b2
    · rw [Bool.and_false, Bool.false_and]
      go_enter Tryd.func15, Tryd.ntmps15
      go_wp2_with fail
      rw [← HW.out]
      refine (M1.out _ HK.out).mono ?_
      rintro e w1 ⟨rfl, q⟩
      have K := Lib.hid (HK.out.trans q)
      obtain ⟨-, c0, c1, c2, c3, c4, c5⟩ := (HB.out.kept q).facts
      have HB2 := Lib.hid (HB.out.kept q)
      clear q
      simp only []
      go_wp2_with fail
      refine (M2.out _ K.out).mono ?_
      rintro e w2 ⟨rfl, q⟩
      replace K := Lib.hid (K.out.trans q)
      clear c0 c1 c2 c3 c4 c5
      obtain ⟨-, c0, c1, c2, c3, c4, c5⟩ := (HB2.out.kept q).facts
      clear q
      simp only []
      go_wp2_with fail
      go_ret
      exact ⟨rfl, K.out⟩
    · rw [Bool.and_true, Bool.true_and]
      have hc := HC.out rfl rfl
      clear HC
      have HC := Lib.hid hc
      clear hc
      obtain ⟨rb, hrb⟩ : ∃ rb, decide (cc ≤ 0) = rb := ⟨_, rfl⟩
      rw [hrb]
      go_enter Tryd.func15, Tryd.ntmps15
      go_wp2_with fail
      rw [← HW.out]
      refine (M1.out _ HK.out).mono ?_
      rintro e w1 ⟨rfl, q⟩
      have K := Lib.hid (HK.out.trans q)
      obtain ⟨-, c0, c1, c2, c3, c4, c5⟩ := (HB.out.kept q).facts
      have HB2 := Lib.hid (HB.out.kept q)
      clear q
      simp only []
      go_wp2_with fail
      refine (M2.out _ K.out).mono ?_
      rintro e w2 ⟨rfl, q⟩
      replace K := Lib.hid (K.out.trans q)
      clear c0 c1 c2 c3 c4 c5
      obtain ⟨-, c0, c1, c2, c3, c4, c5⟩ := (HB2.out.kept q).facts
      clear q
      simp only []
      go_wp2_with fail
      refine (HC.out _ K.out).mono ?_
      rintro e w3 ⟨rfl, q⟩
      replace K := Lib.hid (K.out.trans q)
      clear q
      simp only []
      go_wp2_with fail
      go_ret
      exact ⟨rfl, K.out⟩


end Go.Proofs.YtjdplcenniogdaaDoor
/- Contracts of package ival, second part: Of, Has. -/
namespace Go.Proofs.YtjdplcenniogdaaDoor
open Go.RowKit

/-- The value v reads in w as the clean interval a. -/
def IvC (w : World) (v : Value) (a : Iv) : Prop := IvR w v a.raw
theorem IvC.kept {w w' : World} {v : Value} {a : Iv} (h : IvC w v a) (k : Kept w w') : IvC w' v a := IvR.kept h k

theorem ivC_split {w : World} {v : Value} {a : Iv} (h : IvC w v a) : ∃ A l c A' l' c', v = .agg #[.bool a.lo.neg, .slice A l c, .int .i64 a.lo.e, .bool a.hi.neg, .slice A' l' c', .int .i64 a.hi.e] ∧
    DyR w (.agg #[.bool a.lo.neg, .slice A l c, .int .i64 a.lo.e]) a.lo.raw ∧ DyR w (.agg #[.bool a.hi.neg, .slice A' l' c', .int .i64 a.hi.e]) a.hi.raw := ivR_split h

theorem iv_lens {a : Iv} (h : a.Ok) : a.raw.lens 17592186044416 := ⟨by have := dy_len h.lo; show a.lo.raw.m.length ≤ _; omega, by have := dy_len h.hi; show a.hi.raw.m.length ≤ _; omega⟩

theorem imayT_c {w : World} {v : Value} {a : Iv} (hv : IvC w v a) (h : a.Ok) : Calls Tryd.prog 15 #[v] w (RetK (.bool true) w) := by
  have := imay_c hv (iv_lens h)
  rwa [mayI_raw h] at this
theorem mayT_c {w : World} {v : Value} {d : Dy} (hv : DyR w v d.raw) (h : d.Ok) : Calls Tryd.prog 29 #[v] w (RetK (.bool true) w) := by
  have := may_c hv (by have := dy_len h; omega)
  rwa [h.may] at this

/-- ival.Has of clean ones. -/
def hasI (a : Iv) (d : Dy) : Bool := decide (cmpQ a.lo.q d.q ≤ 0) && decide (cmpQ d.q a.hi.q ≤ 0)

theorem box2id (w : World) (x y z x' y' z' p q r : Value) : ∃ W, W = (w.alloc (.cells #[x, y, z, x', y', z'] 26)).alloc (.cells #[p, q, r] 24) ∧ Kept w W ∧ BlkI W w.heap.size x y z x' y' z' ∧ Blk W (w.heap.size + 1) p q r :=
  ⟨_, rfl, (kept_alloc _ _).trans (kept_alloc _ _), (blkI_new _ _ _ _ _ _ _).kept (kept_alloc _ _), blk_new1 _ _ _ _ _⟩

set_option maxHeartbeats 2000000 in
set_option maxRecDepth 100000 in
theorem has_c {w : World} {v u : Value} {a : Iv} {d : Dy} (hv : IvC w v a) (hu : DyR w u d.raw) (ha : a.Ok) (hd : d.Ok) :
    Calls Tryd.prog 20 #[v, u] w (RetK (.bool (hasI a d)) w) := by
  have m1 := fun w1 (k : Kept w w1) => imayT_c (hv.kept k) ha
  have m2 := fun w1 (k : Kept w w1) => mayT_c (hu.kept k) hd
  obtain ⟨A, l, c, A', l', c', rfl, h1, h2⟩ := ivC_split hv
  obtain ⟨A3, l3, c3, rfl, hu⟩ := dyR_split hu
  have q1 := fun w1 (k : Kept w w1) => dcmp_c (h1.kept k) (hu.kept k) ha.lo hd
  have q2 := fun w1 (k : Kept w w1) => dcmp_c (hu.kept k) (h2.kept k) hd ha.hi
  unfold hasI
  have M1 := Lib.hid m1
  have M2 := Lib.hid m2
  have Q1 := Lib.hid q1
  have Q2 := Lib.hid q2
  clear m1 m2 q1 q2 h1 h2 hv hu ha hd
  generalize cmpQ a.lo.q d.q = r1 at *
  generalize cmpQ d.q a.hi.q = r2 at *
  generalize a.lo.neg = n1 at *
  generalize a.lo.e = e1 at *
  generalize a.hi.neg = n2 at *
  generalize a.hi.e = e2 at *
  generalize d.neg = n3 at *
  generalize d.e = e3 at *
  obtain ⟨W, hW, kW, BI, BD⟩ := box2id w (.bool n1) (.slice A l c) (.int .i64 e1) (.bool n2) (.slice A' l' c') (.int .i64 e2) (.bool n3) (.slice A3 l3 c3) (.int .i64 e3)
  have HW := Lib.hid hW
  have K := Lib.hid kW
  have HB := Lib.hid BI
  have HD := Lib.hid BD
  clear hW kW BI BD
  have hr1 : decide (r1 ≤ 0) = true ∨ decide (r1 ≤ 0) = false := bools _
  rcases hr1 with hr1 | hr1
  · rw [hr1, Bool.true_and]
    obtain ⟨rb, hrb⟩ : ∃ rb, decide (r2 ≤ 0) = rb := ⟨_, rfl⟩
    rw [hrb]
    go_enter Tryd.func20, Tryd.ntmps20
    go_wp2_with fail
    rw [← HW.out]
    refine (M1.out _ K.out).mono ?_
    rintro e w1 ⟨rfl, q⟩
    replace K := Lib.hid (K.out.trans q)
    replace HB := Lib.hid (HB.out.kept q)
    replace HD := Lib.hid (HD.out.kept q)
    clear q
    obtain ⟨-, c0, c1, c2, c3, c4, c5⟩ := HB.out.facts
    obtain ⟨-, d0, d1, d2, -⟩ := HD.out.facts
    simp only []
    go_wp2_with fail
    refine (M2.out _ K.out).mono ?_
    clear c0 c1 c2 c3 c4 c5 d0 d1 d2
    rintro e w1 ⟨rfl, q⟩
    replace K := Lib.hid (K.out.trans q)
    replace HB := Lib.hid (HB.out.kept q)
    replace HD := Lib.hid (HD.out.kept q)
    clear q
    obtain ⟨-, c0, c1, c2, c3, c4, c5⟩ := HB.out.facts
    obtain ⟨-, d0, d1, d2, -⟩ := HD.out.facts
    simp only []
    go_wp2_with fail
    refine (Q1.out _ K.out).mono ?_
    clear c0 c1 c2 c3 c4 c5 d0 d1 d2
    rintro e w1 ⟨rfl, q⟩
    replace K := Lib.hid (K.out.trans q)
    replace HB := Lib.hid (HB.out.kept q)
    replace HD := Lib.hid (HD.out.kept q)
    clear q
    obtain ⟨-, c0, c1, c2, c3, c4, c5⟩ := HB.out.facts
    obtain ⟨-, d0, d1, d2, -⟩ := HD.out.facts
    simp only []
    go_wp2_with fail
    refine (Q2.out _ K.out).mono ?_
    rintro e w4 ⟨rfl, q⟩
    replace K := Lib.hid (K.out.trans q)
    clear q
    simp only []
    go_wp2_with fail
    go_ret
    exact ⟨rfl, K.out⟩
  · rw [hr1, Bool.false_and]
    go_enter Tryd.func20, Tryd.ntmps20
    go_wp2_with fail
    rw [← HW.out]
    refine (M1.out _ K.out).mono ?_
    rintro e w1 ⟨rfl, q⟩
    replace K := Lib.hid (K.out.trans q)
    replace HB := Lib.hid (HB.out.kept q)
    replace HD := Lib.hid (HD.out.kept q)
    clear q
    obtain ⟨-, c0, c1, c2, c3, c4, c5⟩ := HB.out.facts
    obtain ⟨-, d0, d1, d2, -⟩ := HD.out.facts
    simp only []
    go_wp2_with fail
    refine (M2.out _ K.out).mono ?_
    clear c0 c1 c2 c3 c4 c5 d0 d1 d2
    rintro e w1 ⟨rfl, q⟩
    replace K := Lib.hid (K.out.trans q)
    replace HB := Lib.hid (HB.out.kept q)
    replace HD := Lib.hid (HD.out.kept q)
    clear q
    obtain ⟨-, c0, c1, c2, c3, c4, c5⟩ := HB.out.facts
    obtain ⟨-, d0, d1, d2, -⟩ := HD.out.facts
    simp only []
    go_wp2_with fail
    refine (Q1.out _ K.out).mono ?_
    clear c0 c1 c2 c3 c4 c5 d0 d1 d2
    rintro e w1 ⟨rfl, q⟩
    replace K := Lib.hid (K.out.trans q)
    replace HB := Lib.hid (HB.out.kept q)
    replace HD := Lib.hid (HD.out.kept q)
    clear q
    obtain ⟨-, c0, c1, c2, c3, c4, c5⟩ := HB.out.facts
    obtain ⟨-, d0, d1, d2, -⟩ := HD.out.facts
    simp only []
    go_wp2_with fail
    go_ret
    exact ⟨rfl, K.out⟩



end Go.Proofs.YtjdplcenniogdaaDoor
namespace Go.Proofs.YtjdplcenniogdaaDoor
open Go.RowKit

theorem within1_c (n : Int) (w : World) : Calls Tryd.prog 58 #[.int .i64 n] w (RetK (.bool (decide (0 ≤ n))) w) := by
  go_enter Tryd.func58, Tryd.ntmps58
  go_wp2
  go_ret
  exact ⟨rfl, Below.refl _ _⟩

/-- ival.Within of clean ones. -/
def withinI (a b : Iv) : Bool := decide (0 ≤ cmpQ a.lo.q b.lo.q) && decide (0 ≤ cmpQ b.hi.q a.hi.q)
theorem withinI_iff (a b : Iv) : withinI a b = true ↔ b.lo.q ≤ a.lo.q ∧ a.hi.q ≤ b.hi.q := by
  unfold withinI
  simp only [Bool.and_eq_true, decide_eq_true_eq]
  rw [cmpQ_ge, cmpQ_ge]

theorem box2ii (w : World) (x y z x' y' z' p q r p' q' r' : Value) : ∃ W, W = (w.alloc (.cells #[x, y, z, x', y', z'] 26)).alloc (.cells #[p, q, r, p', q', r'] 26) ∧ Kept w W ∧ BlkI W w.heap.size x y z x' y' z' ∧ BlkI W (w.heap.size + 1) p q r p' q' r' := by
  refine ⟨_, rfl, (kept_alloc _ _).trans (kept_alloc _ _), (blkI_new _ _ _ _ _ _ _).kept (kept_alloc _ _), ?_⟩
  have := blkI_new (w.alloc (.cells #[x, y, z, x', y', z'] 26)) p q r p' q' r'
  simpa using this

set_option maxHeartbeats 2000000 in
set_option maxRecDepth 100000 in
theorem ends_c {w : World} {v u : Value} {a b : Iv} (hv : IvC w v a) (hu : IvC w u b) (ha : a.Ok) (hb : b.Ok) :
    Calls Tryd.prog 57 #[v, u, .func (.func 58) #[] #[]] w (RetK (.bool (withinI a b)) w) := by
  have m1 := fun w1 (k : Kept w w1) => imayT_c (hv.kept k) ha
  have m2 := fun w1 (k : Kept w w1) => imayT_c (hu.kept k) hb
  obtain ⟨A, l, c, A', l', c', rfl, h1, h2⟩ := ivC_split hv
  obtain ⟨B, j, e, B', j', e', rfl, g1, g2⟩ := ivC_split hu
  have q1 := fun w1 (k : Kept w w1) => dcmp_c (h1.kept k) (g1.kept k) ha.lo hb.lo
  have q2 := fun w1 (k : Kept w w1) => dcmp_c (g2.kept k) (h2.kept k) hb.hi ha.hi
  unfold withinI
  have M1 := Lib.hid m1
  have M2 := Lib.hid m2
  have Q1 := Lib.hid q1
  have Q2 := Lib.hid q2
  clear m1 m2 q1 q2 h1 h2 g1 g2 hv hu ha hb
  generalize cmpQ a.lo.q b.lo.q = r1 at *
  generalize cmpQ b.hi.q a.hi.q = r2 at *
  generalize a.lo.neg = n1 at *
  generalize a.lo.e = e1 at *
  generalize a.hi.neg = n2 at *
  generalize a.hi.e = e2 at *
  generalize b.lo.neg = n3 at *
  generalize b.lo.e = e3 at *
  generalize b.hi.neg = n4 at *
  generalize b.hi.e = e4 at *
  obtain ⟨W, hW, kW, BI, BJ⟩ := box2ii w (.bool n1) (.slice A l c) (.int .i64 e1) (.bool n2) (.slice A' l' c') (.int .i64 e2) (.bool n3) (.slice B j e) (.int .i64 e3) (.bool n4) (.slice B' j' e') (.int .i64 e4)
  have HW := Lib.hid hW
  have K := Lib.hid kW
  have HB := Lib.hid BI
  have HD := Lib.hid BJ
  clear hW kW BI BJ
  have hr1 : decide (0 ≤ r1) = true ∨ decide (0 ≤ r1) = false := bools _
  rcases hr1 with hr1 | hr1
  · rw [hr1, Bool.true_and]
    obtain ⟨rb, hrb⟩ : ∃ rb, decide (0 ≤ r2) = rb := ⟨_, rfl⟩
    rw [hrb]
    go_enter Tryd.func57, Tryd.ntmps57
    go_wp2_with fail
    rw [← HW.out]
    refine (M1.out _ K.out).mono ?_
    rintro e w1 ⟨rfl, q⟩
    replace K := Lib.hid (K.out.trans q)
    replace HB := Lib.hid (HB.out.kept q)
    replace HD := Lib.hid (HD.out.kept q)
    clear q
    obtain ⟨-, c0, c1, c2, c3, c4, c5⟩ := HB.out.facts
    obtain ⟨-, d0, d1, d2, d3, d4, d5⟩ := HD.out.facts
    simp only []
    go_wp2_with fail
    refine (M2.out _ K.out).mono ?_
    clear c0 c1 c2 c3 c4 c5 d0 d1 d2 d3 d4 d5
    rintro e w1 ⟨rfl, q⟩
    replace K := Lib.hid (K.out.trans q)
    replace HB := Lib.hid (HB.out.kept q)
    replace HD := Lib.hid (HD.out.kept q)
    clear q
    obtain ⟨-, c0, c1, c2, c3, c4, c5⟩ := HB.out.facts
    obtain ⟨-, d0, d1, d2, d3, d4, d5⟩ := HD.out.facts
    simp only []
    go_wp2_with fail
    refine (Q1.out _ K.out).mono ?_
    clear c0 c1 c2 c3 c4 c5 d0 d1 d2 d3 d4 d5
    rintro e w1 ⟨rfl, q⟩
    replace K := Lib.hid (K.out.trans q)
    replace HB := Lib.hid (HB.out.kept q)
    replace HD := Lib.hid (HD.out.kept q)
    clear q
    obtain ⟨-, c0, c1, c2, c3, c4, c5⟩ := HB.out.facts
    obtain ⟨-, d0, d1, d2, d3, d4, d5⟩ := HD.out.facts
    simp only []
    go_wp2_with fail
    refine (within1_c _ _).mono ?_
    clear c0 c1 c2 c3 c4 c5 d0 d1 d2 d3 d4 d5
    rintro e w1 ⟨rfl, q⟩
    replace K := Lib.hid (K.out.trans q)
    replace HB := Lib.hid (HB.out.kept q)
    replace HD := Lib.hid (HD.out.kept q)
    clear q
    obtain ⟨-, c0, c1, c2, c3, c4, c5⟩ := HB.out.facts
    obtain ⟨-, d0, d1, d2, d3, d4, d5⟩ := HD.out.facts
    simp only []
    go_wp2_with fail
    refine (Q2.out _ K.out).mono ?_
    clear c0 c1 c2 c3 c4 c5 d0 d1 d2 d3 d4 d5
    rintro e w1 ⟨rfl, q⟩
    replace K := Lib.hid (K.out.trans q)
    replace HB := Lib.hid (HB.out.kept q)
    replace HD := Lib.hid (HD.out.kept q)
    clear q
    obtain ⟨-, c0, c1, c2, c3, c4, c5⟩ := HB.out.facts
    obtain ⟨-, d0, d1, d2, d3, d4, d5⟩ := HD.out.facts
    simp only []
    go_wp2_with fail
    refine (within1_c _ _).mono ?_
    clear c0 c1 c2 c3 c4 c5 d0 d1 d2 d3 d4 d5
    rintro e w1 ⟨rfl, q⟩
    replace K := Lib.hid (K.out.trans q)
    replace HB := Lib.hid (HB.out.kept q)
    replace HD := Lib.hid (HD.out.kept q)
    clear q
    obtain ⟨-, c0, c1, c2, c3, c4, c5⟩ := HB.out.facts
    obtain ⟨-, d0, d1, d2, d3, d4, d5⟩ := HD.out.facts
    simp only []
    go_wp2_with fail
    go_ret
    exact ⟨by simp [hrb], K.out⟩
  · rw [hr1, Bool.false_and]
    go_enter Tryd.func57, Tryd.ntmps57
    go_wp2_with fail
    rw [← HW.out]
    refine (M1.out _ K.out).mono ?_
    rintro e w1 ⟨rfl, q⟩
    replace K := Lib.hid (K.out.trans q)
    replace HB := Lib.hid (HB.out.kept q)
    replace HD := Lib.hid (HD.out.kept q)
    clear q
    obtain ⟨-, c0, c1, c2, c3, c4, c5⟩ := HB.out.facts
    obtain ⟨-, d0, d1, d2, d3, d4, d5⟩ := HD.out.facts
    simp only []
    go_wp2_with fail
    refine (M2.out _ K.out).mono ?_
    clear c0 c1 c2 c3 c4 c5 d0 d1 d2 d3 d4 d5
    rintro e w1 ⟨rfl, q⟩
    replace K := Lib.hid (K.out.trans q)
    replace HB := Lib.hid (HB.out.kept q)
    replace HD := Lib.hid (HD.out.kept q)
    clear q
    obtain ⟨-, c0, c1, c2, c3, c4, c5⟩ := HB.out.facts
    obtain ⟨-, d0, d1, d2, d3, d4, d5⟩ := HD.out.facts
    simp only []
    go_wp2_with fail
    refine (Q1.out _ K.out).mono ?_
    clear c0 c1 c2 c3 c4 c5 d0 d1 d2 d3 d4 d5
    rintro e w1 ⟨rfl, q⟩
    replace K := Lib.hid (K.out.trans q)
    replace HB := Lib.hid (HB.out.kept q)
    replace HD := Lib.hid (HD.out.kept q)
    clear q
    obtain ⟨-, c0, c1, c2, c3, c4, c5⟩ := HB.out.facts
    obtain ⟨-, d0, d1, d2, d3, d4, d5⟩ := HD.out.facts
    simp only []
    go_wp2_with fail
    refine (within1_c _ _).mono ?_
    clear c0 c1 c2 c3 c4 c5 d0 d1 d2 d3 d4 d5
    rintro e w1 ⟨rfl, q⟩
    replace K := Lib.hid (K.out.trans q)
    replace HB := Lib.hid (HB.out.kept q)
    replace HD := Lib.hid (HD.out.kept q)
    clear q
    obtain ⟨-, c0, c1, c2, c3, c4, c5⟩ := HB.out.facts
    obtain ⟨-, d0, d1, d2, d3, d4, d5⟩ := HD.out.facts
    simp only []
    go_wp2_with fail
    go_ret
    exact ⟨by simp [hr1], K.out⟩



set_option maxHeartbeats 2000000 in
set_option maxRecDepth 100000 in
theorem within_c {w : World} {v u : Value} {a b : Iv} (hv : IvC w v a) (hu : IvC w u b) (ha : a.Ok) (hb : b.Ok) :
    Calls Tryd.prog 19 #[v, u] w (RetK (.bool (withinI a b)) w) := by
  have he := fun w1 (k : Kept w w1) => ends_c (hv.kept k) (hu.kept k) ha hb
  obtain ⟨A, l, c, A', l', c', rfl, -, -⟩ := ivC_split hv
  obtain ⟨B, j, e, B', j', e', rfl, -, -⟩ := ivC_split hu
  have HE := Lib.hid he
  clear he hv hu ha hb
  generalize withinI a b = rb at *
  generalize a.lo.neg = n1 at *
  generalize a.lo.e = e1 at *
  generalize a.hi.neg = n2 at *
  generalize a.hi.e = e2 at *
  generalize b.lo.neg = n3 at *
  generalize b.lo.e = e3 at *
  generalize b.hi.neg = n4 at *
  generalize b.hi.e = e4 at *
  obtain ⟨W, hW, kW, -, -⟩ := box2ii w (.bool n1) (.slice A l c) (.int .i64 e1) (.bool n2) (.slice A' l' c') (.int .i64 e2) (.bool n3) (.slice B j e) (.int .i64 e3) (.bool n4) (.slice B' j' e') (.int .i64 e4)
  have HW := Lib.hid hW
  have K := Lib.hid kW
  clear hW kW
  go_enter Tryd.func19, Tryd.ntmps19
  go_wp2_with fail
  rw [← HW.out]
  refine (HE.out _ K.out).mono ?_
  rintro e w1 ⟨rfl, q⟩
  simp only []
  go_wp2_with fail
  go_ret
  exact ⟨rfl, K.out.trans q⟩

/-- ival.least, greatest of clean ones. -/
def leastI (a b : Dy) : Dy := if cmpQ a.q b.q ≤ 0 then a else b
def greatestI (a b : Dy) : Dy := if 0 ≤ cmpQ a.q b.q then a else b



set_option maxHeartbeats 2000000 in
set_option maxRecDepth 100000 in
theorem ileast_c {w : World} {v u : Value} {x y : Dy} (ha : DyR w v x.raw) (hb : DyR w u y.raw) (hx : x.Ok) (hy : y.Ok) :
    Calls Tryd.prog 74 #[v, u] w (RetD (leastI x y).raw w) := by
  have hc := fun w1 (k : Kept w w1) => dcmp_c (ha.kept k) (hb.kept k) hx hy
  unfold leastI
  obtain ⟨A, l, c, rfl, -, la, xa, xb⟩ := ha.shape
  obtain ⟨A2, l2, c2, rfl, -, lb, ya, yb⟩ := hb.shape
  obtain ⟨W, hW, kW, B0, B1, B2⟩ := boxes3 w (.bool x.neg) (.slice A l c) (.int .i64 x.e) (.bool y.neg) (.slice A2 l2 c2) (.int .i64 y.e)
  have HC := Lib.hid hc
  have HW := Lib.hid hW
  have K := Lib.hid kW
  have HB0 := Lib.hid B0
  have HB1 := Lib.hid B1
  have HB2 := Lib.hid B2
  have LA := Lib.hid la
  have LB := Lib.hid lb
  have BX := Lib.hid (And.intro xa xb)
  have BY := Lib.hid (And.intro ya yb)
  clear hc hW kW B0 B1 B2 la lb xa xb ya yb ha hb hx hy
  simp only [Dy.raw] at *
  generalize cmpQ x.q y.q = cc at *
  by_cases hcc : cc ≤ 0
  · rw [if_pos hcc]
    have hd : decide (cc ≤ 0) = true := by simp [hcc]
    clear hcc
    go_enter Tryd.func74, Tryd.ntmps74
    go_wp2_with fail
    rw [← HW.out]
    refine (HC.out _ K.out).mono ?_
    rintro e w1 ⟨rfl, q⟩
    replace K := Lib.hid (K.out.trans q)
    replace HB0 := Lib.hid (HB0.out.kept q)
    replace HB1 := Lib.hid (HB1.out.kept q)
    replace HB2 := Lib.hid (HB2.out.kept q)
    clear q
    obtain ⟨-, a0, a1, a2, -⟩ := HB0.out.facts
    obtain ⟨-, b0, b1, b2, -⟩ := HB1.out.facts
    obtain ⟨_, c0, c1, c2, f0, f1, f2⟩ := HB2.out.facts
    simp only []
    go_wp2_with fail
    exact ret_dy (HB2.out.laid _ _ _) rfl rfl rfl ⟨dyW_kept K.out (by omega), _, rfl, ((LA.out.kept K.out).dyW HB2.out (noLimb_bool _) (noLimb_slice _ _ _) (noLimb_i64 _)).dyR (r := ⟨x.neg, limbs x.m, x.e⟩) BX.out.1 BX.out.2⟩
  · rw [if_neg hcc]
    have hd : decide (cc ≤ 0) = false := by simp [hcc]
    clear hcc
    go_enter Tryd.func74, Tryd.ntmps74
    go_wp2_with fail
    rw [← HW.out]
    refine (HC.out _ K.out).mono ?_
    rintro e w1 ⟨rfl, q⟩
    replace K := Lib.hid (K.out.trans q)
    replace HB0 := Lib.hid (HB0.out.kept q)
    replace HB1 := Lib.hid (HB1.out.kept q)
    replace HB2 := Lib.hid (HB2.out.kept q)
    clear q
    obtain ⟨-, a0, a1, a2, -⟩ := HB0.out.facts
    obtain ⟨-, b0, b1, b2, -⟩ := HB1.out.facts
    obtain ⟨_, c0, c1, c2, f0, f1, f2⟩ := HB2.out.facts
    simp only []
    go_wp2_with fail
    exact ret_dy (HB2.out.laid _ _ _) rfl rfl rfl ⟨dyW_kept K.out (by omega), _, rfl, ((LB.out.kept K.out).dyW HB2.out (noLimb_bool _) (noLimb_slice _ _ _) (noLimb_i64 _)).dyR (r := ⟨y.neg, limbs y.m, y.e⟩) BY.out.1 BY.out.2⟩

set_option maxHeartbeats 2000000 in
set_option maxRecDepth 100000 in
theorem igreatest_c {w : World} {v u : Value} {x y : Dy} (ha : DyR w v x.raw) (hb : DyR w u y.raw) (hx : x.Ok) (hy : y.Ok) :
    Calls Tryd.prog 75 #[v, u] w (RetD (greatestI x y).raw w) := by
  have hc := fun w1 (k : Kept w w1) => dcmp_c (ha.kept k) (hb.kept k) hx hy
  unfold greatestI
  obtain ⟨A, l, c, rfl, -, la, xa, xb⟩ := ha.shape
  obtain ⟨A2, l2, c2, rfl, -, lb, ya, yb⟩ := hb.shape
  obtain ⟨W, hW, kW, B0, B1, B2⟩ := boxes3 w (.bool x.neg) (.slice A l c) (.int .i64 x.e) (.bool y.neg) (.slice A2 l2 c2) (.int .i64 y.e)
  have HC := Lib.hid hc
  have HW := Lib.hid hW
  have K := Lib.hid kW
  have HB0 := Lib.hid B0
  have HB1 := Lib.hid B1
  have HB2 := Lib.hid B2
  have LA := Lib.hid la
  have LB := Lib.hid lb
  have BX := Lib.hid (And.intro xa xb)
  have BY := Lib.hid (And.intro ya yb)
  clear hc hW kW B0 B1 B2 la lb xa xb ya yb ha hb hx hy
  simp only [Dy.raw] at *
  generalize cmpQ x.q y.q = cc at *
  by_cases hcc : 0 ≤ cc
  · rw [if_pos hcc]
    have hd : decide (0 ≤ cc) = true := by simp [hcc]
    clear hcc
    go_enter Tryd.func75, Tryd.ntmps75
    go_wp2_with fail
    rw [← HW.out]
    refine (HC.out _ K.out).mono ?_
    rintro e w1 ⟨rfl, q⟩
    replace K := Lib.hid (K.out.trans q)
    replace HB0 := Lib.hid (HB0.out.kept q)
    replace HB1 := Lib.hid (HB1.out.kept q)
    replace HB2 := Lib.hid (HB2.out.kept q)
    clear q
    obtain ⟨-, a0, a1, a2, -⟩ := HB0.out.facts
    obtain ⟨-, b0, b1, b2, -⟩ := HB1.out.facts
    obtain ⟨_, c0, c1, c2, f0, f1, f2⟩ := HB2.out.facts
    simp only []
    go_wp2_with fail
    exact ret_dy (HB2.out.laid _ _ _) rfl rfl rfl ⟨dyW_kept K.out (by omega), _, rfl, ((LA.out.kept K.out).dyW HB2.out (noLimb_bool _) (noLimb_slice _ _ _) (noLimb_i64 _)).dyR (r := ⟨x.neg, limbs x.m, x.e⟩) BX.out.1 BX.out.2⟩
  · rw [if_neg hcc]
    have hd : decide (0 ≤ cc) = false := by simp [hcc]
    clear hcc
    go_enter Tryd.func75, Tryd.ntmps75
    go_wp2_with fail
    rw [← HW.out]
    refine (HC.out _ K.out).mono ?_
    rintro e w1 ⟨rfl, q⟩
    replace K := Lib.hid (K.out.trans q)
    replace HB0 := Lib.hid (HB0.out.kept q)
    replace HB1 := Lib.hid (HB1.out.kept q)
    replace HB2 := Lib.hid (HB2.out.kept q)
    clear q
    obtain ⟨-, a0, a1, a2, -⟩ := HB0.out.facts
    obtain ⟨-, b0, b1, b2, -⟩ := HB1.out.facts
    obtain ⟨_, c0, c1, c2, f0, f1, f2⟩ := HB2.out.facts
    simp only []
    go_wp2_with fail
    exact ret_dy (HB2.out.laid _ _ _) rfl rfl rfl ⟨dyW_kept K.out (by omega), _, rfl, ((LB.out.kept K.out).dyW HB2.out (noLimb_bool _) (noLimb_slice _ _ _) (noLimb_i64 _)).dyR (r := ⟨y.neg, limbs y.m, y.e⟩) BY.out.1 BY.out.2⟩

end Go.Proofs.YtjdplcenniogdaaDoor
