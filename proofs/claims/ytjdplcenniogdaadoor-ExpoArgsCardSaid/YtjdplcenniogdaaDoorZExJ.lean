/- Laws of layer 7: ExpoArgs. -/
import Derived.Test.YtjdplcenniogdaaDoorZExI
import Derived.Test.YtjdplcenniogdaaDoorZDgF
namespace Go.Proofs.YtjdplcenniogdaaDoor
open Go.RowKit

theorem absD_q (d : Dy) : (absD d).q = (d.m : Rat) * pw d.e := by unfold absD Dy.q sq; rfl
theorem absQ (d : Dy) : (d.neg = false ∧ d.q = (absD d).q) ∨ (d.neg = true ∧ d.q = -(absD d).q) := by
  rw [absD_q]
  unfold Dy.q sq
  cases d.neg
  · exact .inl ⟨rfl, rfl⟩
  · exact .inr ⟨rfl, by rw [if_pos rfl, Rat.neg_mul]⟩
theorem absD_nonneg (d : Dy) : 0 ≤ (absD d).q := by rw [absD_q]; exact Rat.mul_nonneg (nat_cast_nonneg _) (pw_nonneg _)
theorem far_pos : 0 < far.q := (sg_pos (d := far) rfl).1
theorem far_abs (d : Dy) : (decide (cmpQ d.q far.q ≤ 0) && decide (0 ≤ cmpQ d.q (negD far).q)) = decide (cmpQ (absD d).q far.q ≤ 0) := by
  have h1 := absD_nonneg d
  have h2 := far_pos
  have e : (decide (cmpQ d.q far.q ≤ 0) && decide (0 ≤ cmpQ d.q (negD far).q)) = decide (d.q ≤ far.q ∧ -far.q ≤ d.q) := by
    rw [← Bool.decide_and]
    apply decide_eq_decide.2
    rw [cmpQ_le, cmpQ_ge, negD_q]
  rw [e]
  apply decide_eq_decide.2
  rw [cmpQ_le]
  rcases absQ d with ⟨-, h⟩ | ⟨-, h⟩ <;> rw [h] <;> grind

theorem far_raw : far.raw = ⟨false, [1], 6⟩ := by unfold Dy.raw far; simp only [limbs1]
theorem box_di (w : World) (x y z p q r p' q' r' : Value) : ∃ W, W = (w.alloc (.cells #[x, y, z] 24)).alloc (.cells #[p, q, r, p', q', r'] 26) ∧ Kept w W ∧ Blk W w.heap.size x y z ∧ BlkI W (w.heap.size + 1) p q r p' q' r' := by
  refine ⟨_, rfl, (kept_alloc _ _).trans (kept_alloc _ _), (blk_new _ _ _ _).kept (kept_alloc _ _), ?_⟩
  have := blkI_new (w.alloc (.cells #[x, y, z] 24)) p q r p' q' r'
  simpa using this
/-- The row [1], the great one, the number with its sign struck. -/
theorem box_big (w : World) (y z : Value) : ∃ V, V = ((w.alloc (.cells #[.int .u64 1] 28)).alloc (.cells #[.bool false, .slice (some ⟨w.heap.size, 0, none⟩) 1 1, .int .i64 6] 24)).alloc (.cells #[.bool false, y, z] 24) ∧
    Kept w V ∧ Lim V (.slice (some ⟨w.heap.size, 0, none⟩) 1 1) [1] ∧ Blk V (w.heap.size + 1) (.bool false) (.slice (some ⟨w.heap.size, 0, none⟩) 1 1) (.int .i64 6) ∧ Blk V (w.heap.size + 1 + 1) (.bool false) y z ∧ w.heap.size + 1 + 1 < V.heap.size := by
  refine ⟨_, rfl, ?_, ?_, ?_, ?_, ?_⟩
  · exact ((kept_alloc _ _).trans (kept_alloc _ _)).trans (kept_alloc _ _)
  · refine lim_new1 (T := 28) ?_
    have h : (w.alloc (.cells #[.int .u64 1] 28)).heap[w.heap.size]? = some (.cells #[.int .u64 1] 28 (0, 0)) := heap_alloc_new _ _
    have k := (kept_alloc (w.alloc (.cells #[.int .u64 1] 28)) (.cells #[.bool false, .slice (some ⟨w.heap.size, 0, none⟩) 1 1, .int .i64 6] 24)).trans (kept_alloc _ (.cells #[.bool false, y, z] 24))
    exact (k.block _ (Array.getElem?_eq_some_iff.1 h).1).trans h
  · exact (blk_new1 w _ _ _ _).kept (kept_alloc _ _)
  · exact blk_new2' w _ _ (.bool false) y z
  · simp

set_option maxHeartbeats 4000000 in
set_option maxRecDepth 100000 in
theorem args_c {w : World} {vd va : Value} {d : Raw} {a : RawI} {p : Int} (hd : DyR w vd d) (ha : IvR w va a) (ld : d.m.length ≤ 17592186044416) (la : a.lens 17592186044416) (hT : Tab w) :
    Calls Tryd.prog 3 #[vd, va, .int .i64 p] w (RetK (.bool true) w) := by
  have T := Lib.hid hT
  have MD := Lib.hid (fun w1 (k : Kept w w1) => qmay_c (hd.kept k) ld)
  have MI := Lib.hid (fun w1 (k : Kept w w1) => q5may_c (ha.kept k) la)
  have CX := Lib.hid (fun w1 (k : Kept w w1) (h : mayX d p ≠ 0) => xexpE_c (p := p) (up := true) (hd.kept k) ld (hT.kept k) h)
  have CV := Lib.hid (fun w1 (k : Kept w w1) (h : mayI a = false) => xoverE_c (p := p) (ha.kept k) la h)
  have hsm := raw_small hd
  obtain ⟨A, l, c, rfl, hs⟩ := rawR_split hd
  obtain ⟨A1, l1, r1, A2, l2, r2, rfl, -, -⟩ := ivR_split ha
  have HS : Hid (mayD d = true → d.dy.Ok ∧ d.dy.e = d.e ∧ ∀ w1, Kept w w1 → DyR w1 (.agg #[.bool false, .slice A l c, .int .i64 d.e]) (absD d.dy).raw) := by
    intro h
    obtain ⟨h1, h2⟩ := mayD_clean hsm h
    refine ⟨h2, rfl, fun w1 k => ?_⟩
    obtain ⟨s, he, hs, g1, g2⟩ := hs.kept k
    simp only [Value.agg.injEq, List.cons.injEq, Array.mk.injEq, and_true] at he
    obtain ⟨-, rfl, -⟩ := he
    have e : (absD d.dy).raw.m = d.m := by show d.dy.raw.m = d.m; exact congrArg Raw.m h1
    exact ⟨_, rfl, by rw [e]; exact hs, g1, g2⟩
  have HX : Hid (mayX d p = if (mayD d && !decide (p < 1) && !decide (300 < p)) = true then (if decide (cmpQ (absD d.dy).q far.q ≤ 0) = true then (if d.e < -400 then 2 else 0) else 4) else 1) := by unfold mayX; rw [far_abs]; exact rfl
  clear hd ha ld la hT hs hsm
  obtain ⟨kx, hkx⟩ : ∃ k, mayX d p = k := ⟨_, rfl⟩
  obtain ⟨md, hmd⟩ : ∃ b, mayD d = b := ⟨_, rfl⟩
  obtain ⟨b1, hb1⟩ : ∃ b, (!decide (p < 1)) = b := ⟨_, rfl⟩
  obtain ⟨b2, hb2⟩ : ∃ b, (!decide (300 < p)) = b := ⟨_, rfl⟩
  obtain ⟨ma, hma⟩ : ∃ b, mayI a = b := ⟨_, rfl⟩
  rw [hkx] at HX CX
  rw [hmd, hb1, hb2] at HX
  rw [hmd] at MD HS
  rw [hma] at MI CV
  have B1 : Hid (decide (p < 1) = !b1) := by rw [← hb1, Bool.not_not]; exact rfl
  have B2 : Hid (decide (300 < p) = !b2) := by rw [← hb2, Bool.not_not]; exact rfl
  have B3 : Hid (decide (1 ≤ p) = b1) := by
    rw [← hb1]
    by_cases h : p < 1
    · rw [decide_eq_true h, decide_eq_false (by omega)]; exact rfl
    · rw [decide_eq_false h, decide_eq_true (by omega)]; exact rfl
  have B4 : Hid (decide (p ≤ 300) = b2) := by
    rw [← hb2]
    by_cases h : 300 < p
    · rw [decide_eq_true h, decide_eq_false (by omega)]; exact rfl
    · rw [decide_eq_false h, decide_eq_true (by omega)]; exact rfl
  clear hkx hmd hb1 hb2 hma
  obtain ⟨g0, h0⟩ : ∃ x, decide ((70 : Int) < (l : Int)) = !x := ⟨!decide ((70 : Int) < (l : Int)), by simp⟩
  obtain ⟨g1, h1⟩ : ∃ x, decide ((70 : Int) < (l1 : Int)) = !x := ⟨!decide ((70 : Int) < (l1 : Int)), by simp⟩
  obtain ⟨g2, h2⟩ : ∃ x, decide ((70 : Int) < (l2 : Int)) = !x := ⟨!decide ((70 : Int) < (l2 : Int)), by simp⟩
  have G0 := Lib.hid h0
  have G1 := Lib.hid h1
  have G2 := Lib.hid h2
  clear h0 h1 h2
  obtain ⟨dd, hdd⟩ : ∃ x, d.dy = x := ⟨_, rfl⟩
  obtain ⟨n1, hn1⟩ : ∃ x, d.neg = x := ⟨_, rfl⟩
  obtain ⟨e1, he1⟩ : ∃ x, d.e = x := ⟨_, rfl⟩
  simp only [hdd, hn1, he1] at *
  clear hdd hn1 he1
  generalize a.lo.neg = na at *
  generalize a.lo.e = ea at *
  generalize a.hi.neg = nb at *
  generalize a.hi.e = eb at *
  obtain ⟨W, hW, kW, BA, BB⟩ := box_di w (.bool n1) (.slice A l c) (.int .i64 e1) (.bool na) (.slice A1 l1 r1) (.int .i64 ea) (.bool nb) (.slice A2 l2 r2) (.int .i64 eb)
  have HW := Lib.hid hW
  have K := Lib.hid kW
  have HA := Lib.hid BA
  have HB := Lib.hid BB
  clear hW kW BA BB
  go_enter Tryd.func3, Tryd.ntmps3
  go_upto_region 1 with fail
  rw [← HW.out]
  clear HW
  refine region_seq (m := 18) (V := VL [
      (fun v _ => v = (.pointer (some ⟨w.heap.size, 1, none⟩))),
      (fun v _ => v = (.slice A l c)),
      (fun v _ => v = (.int .i64 (l : Int))),
      (fun v _ => v = (.bool (!g0))),
      (fun v _ => v = (.bool (!g0))),
      (fun v wv => (g0 = true → (fun v _ => v = (.pointer (some ⟨w.heap.size + 1, 0, none⟩))) v wv) ∧ (g0 = false → v = undef)),
      (fun v wv => (g0 = true → (fun v _ => v = (.pointer (some ⟨w.heap.size + 1, 1, none⟩))) v wv) ∧ (g0 = false → v = undef)),
      (fun v wv => (g0 = true → (fun v _ => v = (.slice A1 l1 r1)) v wv) ∧ (g0 = false → v = undef)),
      (fun v wv => (g0 = true → (fun v _ => v = (.int .i64 (l1 : Int))) v wv) ∧ (g0 = false → v = undef)),
      (fun v wv => (g0 = true → (fun v _ => v = (.bool (!g1))) v wv) ∧ (g0 = false → v = undef)),
      (fun v _ => v = (.bool (!(g0 && g1)))),
      (fun v _ => v = (.bool (!(g0 && g1)))),
      (fun v wv => ((g0 && g1) = true → (fun v _ => v = (.pointer (some ⟨w.heap.size + 1, 3, none⟩))) v wv) ∧ ((g0 && g1) = false → v = undef)),
      (fun v wv => ((g0 && g1) = true → (fun v _ => v = (.pointer (some ⟨w.heap.size + 1, 4, none⟩))) v wv) ∧ ((g0 && g1) = false → v = undef)),
      (fun v wv => ((g0 && g1) = true → (fun v _ => v = (.slice A2 l2 r2)) v wv) ∧ ((g0 && g1) = false → v = undef)),
      (fun v wv => ((g0 && g1) = true → (fun v _ => v = (.int .i64 (l2 : Int))) v wv) ∧ ((g0 && g1) = false → v = undef)),
      (fun v wv => ((g0 && g1) = true → (fun v _ => v = (.bool (!g2))) v wv) ∧ ((g0 && g1) = false → v = undef)),
      (fun v _ => v = (.bool (!(g0 && g1 && g2))))])
    rfl (by kernel_rfl) (by kernel_rfl) (by kernel_rfl) (mono_of _ ⟨mono_eq _, mono_eq _, mono_eq _, mono_eq _, mono_eq _, fun v w w' k h => ⟨fun hC => (fun v w w' k h => by first | exact h | exact h.kept k | exact ⟨h.1, h.2.kept k⟩) v w w' k (h.1 hC), h.2⟩, fun v w w' k h => ⟨fun hC => (fun v w w' k h => by first | exact h | exact h.kept k | exact ⟨h.1, h.2.kept k⟩) v w w' k (h.1 hC), h.2⟩, fun v w w' k h => ⟨fun hC => (fun v w w' k h => by first | exact h | exact h.kept k | exact ⟨h.1, h.2.kept k⟩) v w w' k (h.1 hC), h.2⟩, fun v w w' k h => ⟨fun hC => (fun v w w' k h => by first | exact h | exact h.kept k | exact ⟨h.1, h.2.kept k⟩) v w w' k (h.1 hC), h.2⟩, fun v w w' k h => ⟨fun hC => (fun v w w' k h => by first | exact h | exact h.kept k | exact ⟨h.1, h.2.kept k⟩) v w w' k (h.1 hC), h.2⟩, mono_eq _, mono_eq _, fun v w w' k h => ⟨fun hC => (fun v w w' k h => by first | exact h | exact h.kept k | exact ⟨h.1, h.2.kept k⟩) v w w' k (h.1 hC), h.2⟩, fun v w w' k h => ⟨fun hC => (fun v w w' k h => by first | exact h | exact h.kept k | exact ⟨h.1, h.2.kept k⟩) v w w' k (h.1 hC), h.2⟩, fun v w w' k h => ⟨fun hC => (fun v w w' k h => by first | exact h | exact h.kept k | exact ⟨h.1, h.2.kept k⟩) v w w' k (h.1 hC), h.2⟩, fun v w w' k h => ⟨fun hC => (fun v w w' k h => by first | exact h | exact h.kept k | exact ⟨h.1, h.2.kept k⟩) v w w' k (h.1 hC), h.2⟩, fun v w w' k h => ⟨fun hC => (fun v w w' k h => by first | exact h | exact h.kept k | exact ⟨h.1, h.2.kept k⟩) v w w' k (h.1 hC), h.2⟩, mono_eq _, trivial⟩) (steps_of ⟨
      (fun aF wF F => by
    have s3 : aF.tmps.getD 3 undef = (.pointer (some ⟨w.heap.size, 0, none⟩)) := F.old 3 (by kernel_rfl)
    exact step_val (by simp [Region.wanted]) (by go_simp) rfl),
      (fun aF wF F => by
    have s14 : aF.tmps.getD 14 undef = (.pointer (some ⟨w.heap.size, 1, none⟩)) := F.done 0 14 (by kernel_rfl) rfl
    have c0 := cell_at HA.out F.kept 1 _ rfl
    exact step_val (by simp [Region.wanted]) (by go_simp) rfl),
      (fun aF wF F => by
    have s15 : aF.tmps.getD 15 undef = (.slice A l c) := F.done 1 15 (by kernel_rfl) rfl
    exact step_val (by simp [Region.wanted]) (by go_simp) rfl),
      (fun aF wF F => by
    have s16 : aF.tmps.getD 16 undef = (.int .i64 (l : Int)) := F.done 2 16 (by kernel_rfl) rfl
    exact step_val (by simp [Region.wanted]) (by (go_simp; exact G0.out)) rfl),
      (fun aF wF F => by
    have s17 : aF.tmps.getD 17 undef = (.bool (!g0)) := F.done 3 17 (by kernel_rfl) rfl
    exact step_val (by simp [Region.wanted]) (by go_simp) rfl),
      (fun aF wF F => by
    have sg : aF.tmps.getD 18 undef = (.bool (!g0)) := F.done 4 18 (by kernel_rfl) rfl
    have s4 : aF.tmps.getD 4 undef = (.pointer (some ⟨w.heap.size + 1, 0, none⟩)) := F.old 4 (by kernel_rfl)
    rcases bools g0 with hC | hC
    · refine step_imp (V1 := fun _ => (fun v _ => v = (.pointer (some ⟨w.heap.size + 1, 0, none⟩)))) ?_ (fun _ _ h => ⟨fun _ => h, fun hN => absurd (hC.symm.trans hN) (by decide)⟩)
      exact step_val ((wanted_guard rfl rfl sg).trans (by first | rfl | simp [hC])) (by go_simp) rfl
    · exact step_out ((wanted_guard rfl rfl sg).trans (by first | rfl | simp [hC])) ⟨fun h => absurd (hC.symm.trans h) (by decide), fun _ => rfl⟩),
      (fun aF wF F => by
    have sg : aF.tmps.getD 18 undef = (.bool (!g0)) := F.done 4 18 (by kernel_rfl) rfl
    have s19 : (g0 = true → aF.tmps.getD 19 undef = (.pointer (some ⟨w.heap.size + 1, 0, none⟩))) ∧ (g0 = false → aF.tmps.getD 19 undef = undef) := F.done 5 19 (by kernel_rfl) rfl
    rcases bools g0 with hC | hC
    · refine step_imp (V1 := fun _ => (fun v _ => v = (.pointer (some ⟨w.heap.size + 1, 1, none⟩)))) ?_ (fun _ _ h => ⟨fun _ => h, fun hN => absurd (hC.symm.trans hN) (by decide)⟩)
      replace s19 := s19.1 hC
      exact step_val ((wanted_guard rfl rfl sg).trans (by first | rfl | simp [hC])) (by go_simp) rfl
    · exact step_out ((wanted_guard rfl rfl sg).trans (by first | rfl | simp [hC])) ⟨fun h => absurd (hC.symm.trans h) (by decide), fun _ => rfl⟩),
      (fun aF wF F => by
    have sg : aF.tmps.getD 18 undef = (.bool (!g0)) := F.done 4 18 (by kernel_rfl) rfl
    have s20 : (g0 = true → aF.tmps.getD 20 undef = (.pointer (some ⟨w.heap.size + 1, 1, none⟩))) ∧ (g0 = false → aF.tmps.getD 20 undef = undef) := F.done 6 20 (by kernel_rfl) rfl
    have c0 := cell_at HB.out F.kept 1 _ rfl
    rcases bools g0 with hC | hC
    · refine step_imp (V1 := fun _ => (fun v _ => v = (.slice A1 l1 r1))) ?_ (fun _ _ h => ⟨fun _ => h, fun hN => absurd (hC.symm.trans hN) (by decide)⟩)
      replace s20 := s20.1 hC
      exact step_val ((wanted_guard rfl rfl sg).trans (by first | rfl | simp [hC])) (by go_simp) rfl
    · exact step_out ((wanted_guard rfl rfl sg).trans (by first | rfl | simp [hC])) ⟨fun h => absurd (hC.symm.trans h) (by decide), fun _ => rfl⟩),
      (fun aF wF F => by
    have sg : aF.tmps.getD 18 undef = (.bool (!g0)) := F.done 4 18 (by kernel_rfl) rfl
    have s21 : (g0 = true → aF.tmps.getD 21 undef = (.slice A1 l1 r1)) ∧ (g0 = false → aF.tmps.getD 21 undef = undef) := F.done 7 21 (by kernel_rfl) rfl
    rcases bools g0 with hC | hC
    · refine step_imp (V1 := fun _ => (fun v _ => v = (.int .i64 (l1 : Int)))) ?_ (fun _ _ h => ⟨fun _ => h, fun hN => absurd (hC.symm.trans hN) (by decide)⟩)
      replace s21 := s21.1 hC
      exact step_val ((wanted_guard rfl rfl sg).trans (by first | rfl | simp [hC])) (by go_simp) rfl
    · exact step_out ((wanted_guard rfl rfl sg).trans (by first | rfl | simp [hC])) ⟨fun h => absurd (hC.symm.trans h) (by decide), fun _ => rfl⟩),
      (fun aF wF F => by
    have sg : aF.tmps.getD 18 undef = (.bool (!g0)) := F.done 4 18 (by kernel_rfl) rfl
    have s22 : (g0 = true → aF.tmps.getD 22 undef = (.int .i64 (l1 : Int))) ∧ (g0 = false → aF.tmps.getD 22 undef = undef) := F.done 8 22 (by kernel_rfl) rfl
    rcases bools g0 with hC | hC
    · refine step_imp (V1 := fun _ => (fun v _ => v = (.bool (!g1)))) ?_ (fun _ _ h => ⟨fun _ => h, fun hN => absurd (hC.symm.trans hN) (by decide)⟩)
      replace s22 := s22.1 hC
      exact step_val ((wanted_guard rfl rfl sg).trans (by first | rfl | simp [hC])) (by (go_simp; exact G1.out)) rfl
    · exact step_out ((wanted_guard rfl rfl sg).trans (by first | rfl | simp [hC])) ⟨fun h => absurd (hC.symm.trans h) (by decide), fun _ => rfl⟩),
      (fun aF wF F => by
    have s18 : aF.tmps.getD 18 undef = (.bool (!g0)) := F.done 4 18 (by kernel_rfl) rfl
    have s23 : (g0 = true → aF.tmps.getD 23 undef = (.bool (!g1))) ∧ (g0 = false → aF.tmps.getD 23 undef = undef) := F.done 9 23 (by kernel_rfl) rfl
    rcases bools g0 with hE | hE
    · replace s23 := s23.1 hE
      exact step_val (by simp [Region.wanted]) (by first | (go_simp; done) | (go_simp; simp_all; done) | (simp_all; done)) rfl
    · exact step_val (by simp [Region.wanted]) (by first | (go_simp; done) | (go_simp; simp_all; done) | (simp_all; done)) rfl),
      (fun aF wF F => by
    have s24 : aF.tmps.getD 24 undef = (.bool (!(g0 && g1))) := F.done 10 24 (by kernel_rfl) rfl
    exact step_val (by simp [Region.wanted]) (by go_simp) rfl),
      (fun aF wF F => by
    have sg : aF.tmps.getD 25 undef = (.bool (!(g0 && g1))) := F.done 11 25 (by kernel_rfl) rfl
    have s4 : aF.tmps.getD 4 undef = (.pointer (some ⟨w.heap.size + 1, 0, none⟩)) := F.old 4 (by kernel_rfl)
    rcases bools (g0 && g1) with hC | hC
    · refine step_imp (V1 := fun _ => (fun v _ => v = (.pointer (some ⟨w.heap.size + 1, 3, none⟩)))) ?_ (fun _ _ h => ⟨fun _ => h, fun hN => absurd (hC.symm.trans hN) (by decide)⟩)
      exact step_val ((wanted_guard rfl rfl sg).trans (by first | rfl | simp [hC])) (by go_simp) rfl
    · exact step_out ((wanted_guard rfl rfl sg).trans (by first | rfl | simp [hC])) ⟨fun h => absurd (hC.symm.trans h) (by decide), fun _ => rfl⟩),
      (fun aF wF F => by
    have sg : aF.tmps.getD 25 undef = (.bool (!(g0 && g1))) := F.done 11 25 (by kernel_rfl) rfl
    have s26 : ((g0 && g1) = true → aF.tmps.getD 26 undef = (.pointer (some ⟨w.heap.size + 1, 3, none⟩))) ∧ ((g0 && g1) = false → aF.tmps.getD 26 undef = undef) := F.done 12 26 (by kernel_rfl) rfl
    rcases bools (g0 && g1) with hC | hC
    · refine step_imp (V1 := fun _ => (fun v _ => v = (.pointer (some ⟨w.heap.size + 1, 4, none⟩)))) ?_ (fun _ _ h => ⟨fun _ => h, fun hN => absurd (hC.symm.trans hN) (by decide)⟩)
      replace s26 := s26.1 hC
      exact step_val ((wanted_guard rfl rfl sg).trans (by first | rfl | simp [hC])) (by go_simp) rfl
    · exact step_out ((wanted_guard rfl rfl sg).trans (by first | rfl | simp [hC])) ⟨fun h => absurd (hC.symm.trans h) (by decide), fun _ => rfl⟩),
      (fun aF wF F => by
    have sg : aF.tmps.getD 25 undef = (.bool (!(g0 && g1))) := F.done 11 25 (by kernel_rfl) rfl
    have s27 : ((g0 && g1) = true → aF.tmps.getD 27 undef = (.pointer (some ⟨w.heap.size + 1, 4, none⟩))) ∧ ((g0 && g1) = false → aF.tmps.getD 27 undef = undef) := F.done 13 27 (by kernel_rfl) rfl
    have c0 := cell_at HB.out F.kept 4 _ rfl
    rcases bools (g0 && g1) with hC | hC
    · refine step_imp (V1 := fun _ => (fun v _ => v = (.slice A2 l2 r2))) ?_ (fun _ _ h => ⟨fun _ => h, fun hN => absurd (hC.symm.trans hN) (by decide)⟩)
      replace s27 := s27.1 hC
      exact step_val ((wanted_guard rfl rfl sg).trans (by first | rfl | simp [hC])) (by go_simp) rfl
    · exact step_out ((wanted_guard rfl rfl sg).trans (by first | rfl | simp [hC])) ⟨fun h => absurd (hC.symm.trans h) (by decide), fun _ => rfl⟩),
      (fun aF wF F => by
    have sg : aF.tmps.getD 25 undef = (.bool (!(g0 && g1))) := F.done 11 25 (by kernel_rfl) rfl
    have s28 : ((g0 && g1) = true → aF.tmps.getD 28 undef = (.slice A2 l2 r2)) ∧ ((g0 && g1) = false → aF.tmps.getD 28 undef = undef) := F.done 14 28 (by kernel_rfl) rfl
    rcases bools (g0 && g1) with hC | hC
    · refine step_imp (V1 := fun _ => (fun v _ => v = (.int .i64 (l2 : Int)))) ?_ (fun _ _ h => ⟨fun _ => h, fun hN => absurd (hC.symm.trans hN) (by decide)⟩)
      replace s28 := s28.1 hC
      exact step_val ((wanted_guard rfl rfl sg).trans (by first | rfl | simp [hC])) (by go_simp) rfl
    · exact step_out ((wanted_guard rfl rfl sg).trans (by first | rfl | simp [hC])) ⟨fun h => absurd (hC.symm.trans h) (by decide), fun _ => rfl⟩),
      (fun aF wF F => by
    have sg : aF.tmps.getD 25 undef = (.bool (!(g0 && g1))) := F.done 11 25 (by kernel_rfl) rfl
    have s29 : ((g0 && g1) = true → aF.tmps.getD 29 undef = (.int .i64 (l2 : Int))) ∧ ((g0 && g1) = false → aF.tmps.getD 29 undef = undef) := F.done 15 29 (by kernel_rfl) rfl
    rcases bools (g0 && g1) with hC | hC
    · refine step_imp (V1 := fun _ => (fun v _ => v = (.bool (!g2)))) ?_ (fun _ _ h => ⟨fun _ => h, fun hN => absurd (hC.symm.trans hN) (by decide)⟩)
      replace s29 := s29.1 hC
      exact step_val ((wanted_guard rfl rfl sg).trans (by first | rfl | simp [hC])) (by (go_simp; exact G2.out)) rfl
    · exact step_out ((wanted_guard rfl rfl sg).trans (by first | rfl | simp [hC])) ⟨fun h => absurd (hC.symm.trans h) (by decide), fun _ => rfl⟩),
      (fun aF wF F => by
    have s25 : aF.tmps.getD 25 undef = (.bool (!(g0 && g1))) := F.done 11 25 (by kernel_rfl) rfl
    have s30 : ((g0 && g1) = true → aF.tmps.getD 30 undef = (.bool (!g2))) ∧ ((g0 && g1) = false → aF.tmps.getD 30 undef = undef) := F.done 16 30 (by kernel_rfl) rfl
    rcases bools (g0 && g1) with hE | hE
    · replace s30 := s30.1 hE
      exact step_val (by simp [Region.wanted]) (by first | (go_simp; done) | (go_simp; simp_all; done) | (simp_all; done)) rfl
    · exact step_val (by simp [Region.wanted]) (by first | (go_simp; done) | (go_simp; simp_all; done) | (simp_all; done)) rfl),
      trivial⟩) ?_
  intro u w1 k1 hu
  have e14 : u 0 = (.pointer (some ⟨w.heap.size, 1, none⟩)) := hu 0 (by decide)
  have e15 : u 1 = (.slice A l c) := hu 1 (by decide)
  have e16 : u 2 = (.int .i64 (l : Int)) := hu 2 (by decide)
  have e17 : u 3 = (.bool (!g0)) := hu 3 (by decide)
  have e18 : u 4 = (.bool (!g0)) := hu 4 (by decide)
  have p19 := hu 5 (by decide)
  have p20 := hu 6 (by decide)
  have p21 := hu 7 (by decide)
  have p22 := hu 8 (by decide)
  have p23 := hu 9 (by decide)
  have e24 : u 10 = (.bool (!(g0 && g1))) := hu 10 (by decide)
  have e25 : u 11 = (.bool (!(g0 && g1))) := hu 11 (by decide)
  have p26 := hu 12 (by decide)
  have p27 := hu 13 (by decide)
  have p28 := hu 14 (by decide)
  have p29 := hu 15 (by decide)
  have p30 := hu 16 (by decide)
  have e31 : u 17 = (.bool (!(g0 && g1 && g2))) := hu 17 (by decide)
  clear hu
  simp only [puts, slotOf, if_true, Act.put, List.setIfInBounds_toArray, List.set_cons_zero, List.set_cons_succ, List.getElem?_toArray, List.getElem?_cons_zero, List.getElem?_cons_succ, Option.bind_some, e14, e15, e16, e17, e18, e24, e25, e31]
  clear e14 e15 e16 e17 e18 e24 e25 e31
  generalize u 5 = v19 at *
  try simp only [VL, List.getD_cons_zero, List.getD_cons_succ] at p19
  generalize u 6 = v20 at *
  try simp only [VL, List.getD_cons_zero, List.getD_cons_succ] at p20
  generalize u 7 = v21 at *
  try simp only [VL, List.getD_cons_zero, List.getD_cons_succ] at p21
  generalize u 8 = v22 at *
  try simp only [VL, List.getD_cons_zero, List.getD_cons_succ] at p22
  generalize u 9 = v23 at *
  try simp only [VL, List.getD_cons_zero, List.getD_cons_succ] at p23
  generalize u 12 = v26 at *
  try simp only [VL, List.getD_cons_zero, List.getD_cons_succ] at p26
  generalize u 13 = v27 at *
  try simp only [VL, List.getD_cons_zero, List.getD_cons_succ] at p27
  generalize u 14 = v28 at *
  try simp only [VL, List.getD_cons_zero, List.getD_cons_succ] at p28
  generalize u 15 = v29 at *
  try simp only [VL, List.getD_cons_zero, List.getD_cons_succ] at p29
  generalize u 16 = v30 at *
  try simp only [VL, List.getD_cons_zero, List.getD_cons_succ] at p30
  clear p19 p20 p21 p22 p23 p26 p27 p28 p29 p30 G0 G1 G2
  replace K := Lib.hid (K.out.trans k1)
  replace HA := Lib.hid (HA.out.kept k1)
  replace HB := Lib.hid (HB.out.kept k1)
  clear k1
  rcases (bools (g0 && g1 && g2)).symm with hg | hg
  · rw [hg]
    go_wp2_with fail
    refine (told7_c (T.out.kept K.out)).mono ?_
    rintro e w2 ⟨rfl, q⟩
    simp only []
    go_wp2_with fail
    go_ret
    exact ⟨rfl, K.out.trans q⟩
  rw [hg]
  clear hg
  obtain ⟨V, hV, kV, hl, hb, hx, hs⟩ := box_big w1 (.slice A l c) (.int .i64 e1)
  have HV := Lib.hid hV
  obtain ⟨hlt, a0, a1, a2, -⟩ := HA.out.facts
  go_upto_region 6 with fail
  rw [← HV.out]
  clear HV hlt a0 a1 a2
  replace K := Lib.hid (K.out.trans kV)
  replace HA := Lib.hid (HA.out.kept kV)
  have lB : w.heap.size + 1 < w1.heap.size := HB.out.facts.1
  replace HB := Lib.hid (HB.out.kept kV)
  have H7 := Lib.hid hb
  have H8 := Lib.hid hx
  have L7 := Lib.hid hl
  clear kV hl hb hx hs
  generalize w1.heap.size = g at *
  go_upto_region 8 with fail
  refine region_seq1 (m := 11) (V := VL [
      (fun v _ => v = (.agg #[.bool n1, .slice A l c, .int .i64 e1])),
      (fun v _ => v = (.bool md)),
      (fun v _ => v = (.bool (!md))),
      (fun v _ => v = (.bool (!md))),
      (fun v wv => (md = true → (fun v _ => v = .int .i64 p) v wv) ∧ (md = false → v = undef)),
      (fun v wv => (md = true → (fun v _ => v = (.bool (!b1))) v wv) ∧ (md = false → v = undef)),
      (fun v _ => v = (.bool (!(md && b1)))),
      (fun v _ => v = (.bool (!(md && b1)))),
      (fun v wv => ((md && b1) = true → (fun v _ => v = .int .i64 p) v wv) ∧ ((md && b1) = false → v = undef)),
      (fun v wv => ((md && b1) = true → (fun v _ => v = (.bool (!b2))) v wv) ∧ ((md && b1) = false → v = undef)),
      (fun v _ => v = (.bool (!(md && b1 && b2))))])
    rfl rfl rfl (by kernel_rfl) (by kernel_rfl) (by kernel_rfl) (mono_of _ ⟨mono_eq _, mono_eq _, mono_eq _, mono_eq _, fun v w w' k h => ⟨fun hC => (fun v w w' k h => by first | exact h | exact h.kept k | exact ⟨h.1, h.2.kept k⟩) v w w' k (h.1 hC), h.2⟩, fun v w w' k h => ⟨fun hC => (fun v w w' k h => by first | exact h | exact h.kept k | exact ⟨h.1, h.2.kept k⟩) v w w' k (h.1 hC), h.2⟩, mono_eq _, mono_eq _, fun v w w' k h => ⟨fun hC => (fun v w w' k h => by first | exact h | exact h.kept k | exact ⟨h.1, h.2.kept k⟩) v w w' k (h.1 hC), h.2⟩, fun v w w' k h => ⟨fun hC => (fun v w w' k h => by first | exact h | exact h.kept k | exact ⟨h.1, h.2.kept k⟩) v w w' k (h.1 hC), h.2⟩, mono_eq _, trivial⟩) (steps_of ⟨
      (fun aF wF F => by
    have s3 : aF.tmps.getD 3 undef = (.pointer (some ⟨w.heap.size, 0, none⟩)) := F.old 3 (by kernel_rfl)
    have c0 := cell_at HA.out F.kept 0 _ rfl
    have c1 := cell_at HA.out F.kept 1 _ rfl
    have c2 := cell_at HA.out F.kept 2 _ rfl
    exact step_val (by simp [Region.wanted]) (by go_simp) rfl),
      (fun aF wF F => by
    have s39 : aF.tmps.getD 39 undef = (.agg #[.bool n1, .slice A l c, .int .i64 e1]) := F.done 0 39 (by kernel_rfl) rfl
    exact step_good (by simp [Region.wanted]) (by go_simp) (MD.out _ (K.out.trans F.kept)) (fun _ _ h => RetK.good h) (fun _ _ h => h)),
      (fun aF wF F => by
    have s40 : aF.tmps.getD 40 undef = (.bool md) := F.done 1 40 (by kernel_rfl) rfl
    exact step_val (by simp [Region.wanted]) (by go_simp) rfl),
      (fun aF wF F => by
    have s41 : aF.tmps.getD 41 undef = (.bool (!md)) := F.done 2 41 (by kernel_rfl) rfl
    exact step_val (by simp [Region.wanted]) (by go_simp) rfl),
      (fun aF wF F => by
    have sg : aF.tmps.getD 42 undef = (.bool (!md)) := F.done 3 42 (by kernel_rfl) rfl
    have s2 : aF.tmps.getD 2 undef = .int .i64 p := F.old 2 (by kernel_rfl)
    rcases bools md with hC | hC
    · refine step_imp (V1 := fun _ => (fun v _ => v = .int .i64 p)) ?_ (fun _ _ h => ⟨fun _ => h, fun hN => absurd (hC.symm.trans hN) (by decide)⟩)
      exact step_val ((wanted_guard rfl rfl sg).trans (by first | rfl | simp [hC])) (by go_simp) rfl
    · exact step_out ((wanted_guard rfl rfl sg).trans (by first | rfl | simp [hC])) ⟨fun h => absurd (hC.symm.trans h) (by decide), fun _ => rfl⟩),
      (fun aF wF F => by
    have sg : aF.tmps.getD 42 undef = (.bool (!md)) := F.done 3 42 (by kernel_rfl) rfl
    have s43 : (md = true → aF.tmps.getD 43 undef = .int .i64 p) ∧ (md = false → aF.tmps.getD 43 undef = undef) := F.done 4 43 (by kernel_rfl) rfl
    rcases bools md with hC | hC
    · refine step_imp (V1 := fun _ => (fun v _ => v = (.bool (!b1)))) ?_ (fun _ _ h => ⟨fun _ => h, fun hN => absurd (hC.symm.trans hN) (by decide)⟩)
      replace s43 := s43.1 hC
      exact step_val ((wanted_guard rfl rfl sg).trans (by first | rfl | simp [hC])) (by (go_simp; exact B1.out)) rfl
    · exact step_out ((wanted_guard rfl rfl sg).trans (by first | rfl | simp [hC])) ⟨fun h => absurd (hC.symm.trans h) (by decide), fun _ => rfl⟩),
      (fun aF wF F => by
    have s42 : aF.tmps.getD 42 undef = (.bool (!md)) := F.done 3 42 (by kernel_rfl) rfl
    have s44 : (md = true → aF.tmps.getD 44 undef = (.bool (!b1))) ∧ (md = false → aF.tmps.getD 44 undef = undef) := F.done 5 44 (by kernel_rfl) rfl
    rcases bools md with hE | hE
    · replace s44 := s44.1 hE
      exact step_val (by simp [Region.wanted]) (by first | (go_simp; done) | (go_simp; simp_all; done) | (simp_all; done)) rfl
    · exact step_val (by simp [Region.wanted]) (by first | (go_simp; done) | (go_simp; simp_all; done) | (simp_all; done)) rfl),
      (fun aF wF F => by
    have s45 : aF.tmps.getD 45 undef = (.bool (!(md && b1))) := F.done 6 45 (by kernel_rfl) rfl
    exact step_val (by simp [Region.wanted]) (by go_simp) rfl),
      (fun aF wF F => by
    have sg : aF.tmps.getD 46 undef = (.bool (!(md && b1))) := F.done 7 46 (by kernel_rfl) rfl
    have s2 : aF.tmps.getD 2 undef = .int .i64 p := F.old 2 (by kernel_rfl)
    rcases bools (md && b1) with hC | hC
    · refine step_imp (V1 := fun _ => (fun v _ => v = .int .i64 p)) ?_ (fun _ _ h => ⟨fun _ => h, fun hN => absurd (hC.symm.trans hN) (by decide)⟩)
      exact step_val ((wanted_guard rfl rfl sg).trans (by first | rfl | simp [hC])) (by go_simp) rfl
    · exact step_out ((wanted_guard rfl rfl sg).trans (by first | rfl | simp [hC])) ⟨fun h => absurd (hC.symm.trans h) (by decide), fun _ => rfl⟩),
      (fun aF wF F => by
    have sg : aF.tmps.getD 46 undef = (.bool (!(md && b1))) := F.done 7 46 (by kernel_rfl) rfl
    have s47 : ((md && b1) = true → aF.tmps.getD 47 undef = .int .i64 p) ∧ ((md && b1) = false → aF.tmps.getD 47 undef = undef) := F.done 8 47 (by kernel_rfl) rfl
    rcases bools (md && b1) with hC | hC
    · refine step_imp (V1 := fun _ => (fun v _ => v = (.bool (!b2)))) ?_ (fun _ _ h => ⟨fun _ => h, fun hN => absurd (hC.symm.trans hN) (by decide)⟩)
      replace s47 := s47.1 hC
      exact step_val ((wanted_guard rfl rfl sg).trans (by first | rfl | simp [hC])) (by (go_simp; exact B2.out)) rfl
    · exact step_out ((wanted_guard rfl rfl sg).trans (by first | rfl | simp [hC])) ⟨fun h => absurd (hC.symm.trans h) (by decide), fun _ => rfl⟩),
      (fun aF wF F => by
    have s46 : aF.tmps.getD 46 undef = (.bool (!(md && b1))) := F.done 7 46 (by kernel_rfl) rfl
    have s48 : ((md && b1) = true → aF.tmps.getD 48 undef = (.bool (!b2))) ∧ ((md && b1) = false → aF.tmps.getD 48 undef = undef) := F.done 9 48 (by kernel_rfl) rfl
    rcases bools (md && b1) with hE | hE
    · replace s48 := s48.1 hE
      exact step_val (by simp [Region.wanted]) (by first | (go_simp; done) | (go_simp; simp_all; done) | (simp_all; done)) rfl
    · exact step_val (by simp [Region.wanted]) (by first | (go_simp; done) | (go_simp; simp_all; done) | (simp_all; done)) rfl),
      trivial⟩) ?_
  intro u w1 k1 hu
  have e39 : u 0 = (.agg #[.bool n1, .slice A l c, .int .i64 e1]) := hu 0 (by decide)
  have e40 : u 1 = (.bool md) := hu 1 (by decide)
  have e41 : u 2 = (.bool (!md)) := hu 2 (by decide)
  have e42 : u 3 = (.bool (!md)) := hu 3 (by decide)
  have p43 := hu 4 (by decide)
  have p44 := hu 5 (by decide)
  have e45 : u 6 = (.bool (!(md && b1))) := hu 6 (by decide)
  have e46 : u 7 = (.bool (!(md && b1))) := hu 7 (by decide)
  have p47 := hu 8 (by decide)
  have p48 := hu 9 (by decide)
  have e49 : u 10 = (.bool (!(md && b1 && b2))) := hu 10 (by decide)
  clear hu
  simp only [puts, slotOf, if_true, Act.put, List.setIfInBounds_toArray, List.set_cons_zero, List.set_cons_succ, List.getElem?_toArray, List.getElem?_cons_zero, List.getElem?_cons_succ, Option.bind_some, e39, e40, e41, e42, e45, e46, e49]
  clear e39 e40 e41 e42 e45 e46 e49
  generalize u 4 = v43 at *
  try simp only [VL, List.getD_cons_zero, List.getD_cons_succ] at p43
  generalize u 5 = v44 at *
  try simp only [VL, List.getD_cons_zero, List.getD_cons_succ] at p44
  generalize u 8 = v47 at *
  try simp only [VL, List.getD_cons_zero, List.getD_cons_succ] at p47
  generalize u 9 = v48 at *
  try simp only [VL, List.getD_cons_zero, List.getD_cons_succ] at p48
  clear p43 p44 p47 p48 MD B1 B2
  replace K := Lib.hid (K.out.trans k1)
  replace HA := Lib.hid (HA.out.kept k1)
  replace HB := Lib.hid (HB.out.kept k1)
  replace H7 := Lib.hid (H7.out.kept k1)
  replace H8 := Lib.hid (H8.out.kept k1)
  replace L7 := Lib.hid (L7.out.kept k1)
  clear k1
  rcases (bools (md && b1 && b2)).symm with hg | hg
  · rw [hg]
    rw [hg] at HX
    obtain rfl : kx = 1 := HX.out
    have C0 := Lib.hid (fun w1 k => CX.out w1 k (by decide))
    clear HX CX hg HS H7 H8 L7
    obtain ⟨oE, hoE⟩ : ∃ o : Outc Raw, o = ⟨rz, 1⟩ := ⟨_, rfl⟩
    rw [← hoE] at C0
    have KE : Hid (oE.k = 1) := by rw [hoE]; exact rfl
    have CS := Lib.hid (fun w1 v (h : DyR w1 v oE.v) => show Calls Tryd.prog 12 #[v, .agg #[.bool false, .slice none 0 0, .int .i64 0]] w1 (RetK (.bool true) w1) by
      rw [hoE] at h
      have h := dsame_c h (dyR_zero w1) (by decide)
      have e : sameR rz rz = true := by unfold sameR; simp
      rwa [e] at h)
    clear hoE
    go_upto_region 14 with fail
    obtain ⟨-, c0, c1', c2', -⟩ := HA.out.facts
    go_wp2_with fail
    refine (C0.out _ K.out).mono ?_
    rintro e w1 ⟨q, u, rfl, hd⟩
    obtain ⟨PE, pE, qE, rfl, z1⟩ := rawR_split hd
    simp only []
    obtain ⟨V, hV, kV, hb, lV⟩ := boxF w1 (.bool oE.v.neg) (.slice PE pE qE) (.int .i64 oE.v.e)
    have HV := Lib.hid hV
    have kk := q.trans kV
    skip
    replace K := Lib.hid (K.out.trans kk)
    replace HB := Lib.hid (HB.out.kept kk)
    have HE := Lib.hid hb
    have ZE := Lib.hid (z1.kept kV)
    clear hV kV hb lV kk q hd z1 C0 c0 c1' c2'
    go_upto_region 15 with fail
    rw [← HV.out]
    clear HV
    generalize w1.heap.size = bE at *
    rw [KE.out]
    clear KE
    obtain ⟨-, c0, c1', c2', -⟩ := HE.out.facts
    go_wp2_with fail
    refine (CS.out _ _ ZE.out).mono ?_
    rintro e w5 ⟨rfl, q⟩
    simp only []
    replace K := Lib.hid (K.out.trans q)
    replace HB := Lib.hid (HB.out.kept q)
    clear q c0 c1' c2' CS HE ZE
    go_upto_region 17 with fail
    refine region_seq (m := 11) (V := VL [
        (fun v _ => v = .int .i64 p),
        (fun v _ => v = (.bool b1)),
        (fun v _ => v = (.bool b1)),
        (fun v wv => (b1 = true → (fun v _ => v = .int .i64 p) v wv) ∧ (b1 = false → v = undef)),
        (fun v wv => (b1 = true → (fun v _ => v = (.bool b2)) v wv) ∧ (b1 = false → v = undef)),
        (fun v _ => v = (.bool (b1 && b2))),
        (fun v _ => v = (.bool (b1 && b2))),
        (fun v wv => ((b1 && b2) = true → (fun v _ => v = (.agg #[.bool na, .slice A1 l1 r1, .int .i64 ea, .bool nb, .slice A2 l2 r2, .int .i64 eb])) v wv) ∧ ((b1 && b2) = false → v = undef)),
        (fun v wv => ((b1 && b2) = true → (fun v _ => v = (.bool ma)) v wv) ∧ ((b1 && b2) = false → v = undef)),
        (fun v wv => ((b1 && b2) = true → (fun v _ => v = (.bool (!ma))) v wv) ∧ ((b1 && b2) = false → v = undef)),
        (fun v _ => v = (.bool (b1 && b2 && !ma)))])
      rfl (by kernel_rfl) (by kernel_rfl) (by kernel_rfl) (mono_of _ ⟨mono_eq _, mono_eq _, mono_eq _, fun v w w' k h => ⟨fun hC => (fun v w w' k h => by first | exact h | exact h.kept k | exact ⟨h.1, h.2.kept k⟩) v w w' k (h.1 hC), h.2⟩, fun v w w' k h => ⟨fun hC => (fun v w w' k h => by first | exact h | exact h.kept k | exact ⟨h.1, h.2.kept k⟩) v w w' k (h.1 hC), h.2⟩, mono_eq _, mono_eq _, fun v w w' k h => ⟨fun hC => (fun v w w' k h => by first | exact h | exact h.kept k | exact ⟨h.1, h.2.kept k⟩) v w w' k (h.1 hC), h.2⟩, fun v w w' k h => ⟨fun hC => (fun v w w' k h => by first | exact h | exact h.kept k | exact ⟨h.1, h.2.kept k⟩) v w w' k (h.1 hC), h.2⟩, fun v w w' k h => ⟨fun hC => (fun v w w' k h => by first | exact h | exact h.kept k | exact ⟨h.1, h.2.kept k⟩) v w w' k (h.1 hC), h.2⟩, mono_eq _, trivial⟩) (steps_of ⟨
        (fun aF wF F => by
      have s2 : aF.tmps.getD 2 undef = .int .i64 p := F.old 2 (by kernel_rfl)
      exact step_val (by simp [Region.wanted]) (by go_simp) rfl),
        (fun aF wF F => by
      have s74 : aF.tmps.getD 74 undef = .int .i64 p := F.done 0 74 (by kernel_rfl) rfl
      exact step_val (by simp [Region.wanted]) (by (go_simp; exact B3.out)) rfl),
        (fun aF wF F => by
      have s75 : aF.tmps.getD 75 undef = (.bool b1) := F.done 1 75 (by kernel_rfl) rfl
      exact step_val (by simp [Region.wanted]) (by go_simp) rfl),
        (fun aF wF F => by
      have sg : aF.tmps.getD 76 undef = (.bool b1) := F.done 2 76 (by kernel_rfl) rfl
      have s2 : aF.tmps.getD 2 undef = .int .i64 p := F.old 2 (by kernel_rfl)
      rcases bools b1 with hC | hC
      · refine step_imp (V1 := fun _ => (fun v _ => v = .int .i64 p)) ?_ (fun _ _ h => ⟨fun _ => h, fun hN => absurd (hC.symm.trans hN) (by decide)⟩)
        exact step_val ((wanted_guard rfl rfl sg).trans (by first | rfl | simp [hC])) (by go_simp) rfl
      · exact step_out ((wanted_guard rfl rfl sg).trans (by first | rfl | simp [hC])) ⟨fun h => absurd (hC.symm.trans h) (by decide), fun _ => rfl⟩),
        (fun aF wF F => by
      have sg : aF.tmps.getD 76 undef = (.bool b1) := F.done 2 76 (by kernel_rfl) rfl
      have s77 : (b1 = true → aF.tmps.getD 77 undef = .int .i64 p) ∧ (b1 = false → aF.tmps.getD 77 undef = undef) := F.done 3 77 (by kernel_rfl) rfl
      rcases bools b1 with hC | hC
      · refine step_imp (V1 := fun _ => (fun v _ => v = (.bool b2))) ?_ (fun _ _ h => ⟨fun _ => h, fun hN => absurd (hC.symm.trans hN) (by decide)⟩)
        replace s77 := s77.1 hC
        exact step_val ((wanted_guard rfl rfl sg).trans (by first | rfl | simp [hC])) (by (go_simp; exact B4.out)) rfl
      · exact step_out ((wanted_guard rfl rfl sg).trans (by first | rfl | simp [hC])) ⟨fun h => absurd (hC.symm.trans h) (by decide), fun _ => rfl⟩),
        (fun aF wF F => by
      have s76 : aF.tmps.getD 76 undef = (.bool b1) := F.done 2 76 (by kernel_rfl) rfl
      have s78 : (b1 = true → aF.tmps.getD 78 undef = (.bool b2)) ∧ (b1 = false → aF.tmps.getD 78 undef = undef) := F.done 4 78 (by kernel_rfl) rfl
      rcases bools b1 with hE | hE
      · replace s78 := s78.1 hE
        exact step_val (by simp [Region.wanted]) (by first | (go_simp; done) | (go_simp; simp_all; done) | (simp_all; done)) rfl
      · exact step_val (by simp [Region.wanted]) (by first | (go_simp; done) | (go_simp; simp_all; done) | (simp_all; done)) rfl),
        (fun aF wF F => by
      have s79 : aF.tmps.getD 79 undef = (.bool (b1 && b2)) := F.done 5 79 (by kernel_rfl) rfl
      exact step_val (by simp [Region.wanted]) (by go_simp) rfl),
        (fun aF wF F => by
      have sg : aF.tmps.getD 80 undef = (.bool (b1 && b2)) := F.done 6 80 (by kernel_rfl) rfl
      have s4 : aF.tmps.getD 4 undef = (.pointer (some ⟨w.heap.size + 1, 0, none⟩)) := F.old 4 (by kernel_rfl)
      have c0 := cell_at HB.out F.kept 0 _ rfl
      have c1 := cell_at HB.out F.kept 1 _ rfl
      have c2 := cell_at HB.out F.kept 2 _ rfl
      have c3 := cell_at HB.out F.kept 3 _ rfl
      have c4 := cell_at HB.out F.kept 4 _ rfl
      have c5 := cell_at HB.out F.kept 5 _ rfl
      rcases bools (b1 && b2) with hC | hC
      · refine step_imp (V1 := fun _ => (fun v _ => v = (.agg #[.bool na, .slice A1 l1 r1, .int .i64 ea, .bool nb, .slice A2 l2 r2, .int .i64 eb]))) ?_ (fun _ _ h => ⟨fun _ => h, fun hN => absurd (hC.symm.trans hN) (by decide)⟩)
        exact step_val ((wanted_guard rfl rfl sg).trans (by first | rfl | simp [hC])) (by go_simp) rfl
      · exact step_out ((wanted_guard rfl rfl sg).trans (by first | rfl | simp [hC])) ⟨fun h => absurd (hC.symm.trans h) (by decide), fun _ => rfl⟩),
        (fun aF wF F => by
      have sg : aF.tmps.getD 80 undef = (.bool (b1 && b2)) := F.done 6 80 (by kernel_rfl) rfl
      have s81 : ((b1 && b2) = true → aF.tmps.getD 81 undef = (.agg #[.bool na, .slice A1 l1 r1, .int .i64 ea, .bool nb, .slice A2 l2 r2, .int .i64 eb])) ∧ ((b1 && b2) = false → aF.tmps.getD 81 undef = undef) := F.done 7 81 (by kernel_rfl) rfl
      rcases bools (b1 && b2) with hC | hC
      · refine step_imp (V1 := fun _ => (fun v _ => v = (.bool ma))) ?_ (fun _ _ h => ⟨fun _ => h, fun hN => absurd (hC.symm.trans hN) (by decide)⟩)
        replace s81 := s81.1 hC
        exact step_good ((wanted_guard rfl rfl sg).trans (by first | rfl | simp [hC])) (by go_simp) (MI.out _ (K.out.trans F.kept)) (fun _ _ h => RetK.good h) (fun _ _ h => h)
      · exact step_out ((wanted_guard rfl rfl sg).trans (by first | rfl | simp [hC])) ⟨fun h => absurd (hC.symm.trans h) (by decide), fun _ => rfl⟩),
        (fun aF wF F => by
      have sg : aF.tmps.getD 80 undef = (.bool (b1 && b2)) := F.done 6 80 (by kernel_rfl) rfl
      have s82 : ((b1 && b2) = true → aF.tmps.getD 82 undef = (.bool ma)) ∧ ((b1 && b2) = false → aF.tmps.getD 82 undef = undef) := F.done 8 82 (by kernel_rfl) rfl
      rcases bools (b1 && b2) with hC | hC
      · refine step_imp (V1 := fun _ => (fun v _ => v = (.bool (!ma)))) ?_ (fun _ _ h => ⟨fun _ => h, fun hN => absurd (hC.symm.trans hN) (by decide)⟩)
        replace s82 := s82.1 hC
        exact step_val ((wanted_guard rfl rfl sg).trans (by first | rfl | simp [hC])) (by go_simp) rfl
      · exact step_out ((wanted_guard rfl rfl sg).trans (by first | rfl | simp [hC])) ⟨fun h => absurd (hC.symm.trans h) (by decide), fun _ => rfl⟩),
        (fun aF wF F => by
      have s80 : aF.tmps.getD 80 undef = (.bool (b1 && b2)) := F.done 6 80 (by kernel_rfl) rfl
      have s83 : ((b1 && b2) = true → aF.tmps.getD 83 undef = (.bool (!ma))) ∧ ((b1 && b2) = false → aF.tmps.getD 83 undef = undef) := F.done 9 83 (by kernel_rfl) rfl
      rcases bools (b1 && b2) with hE | hE
      · replace s83 := s83.1 hE
        exact step_val (by simp [Region.wanted]) (by first | (go_simp; done) | (go_simp; simp_all; done) | (simp_all; done)) rfl
      · exact step_val (by simp [Region.wanted]) (by first | (go_simp; done) | (go_simp; simp_all; done) | (simp_all; done)) rfl),
        trivial⟩) ?_
    intro u w1 k1 hu
    have e74 : u 0 = .int .i64 p := hu 0 (by decide)
    have e75 : u 1 = (.bool b1) := hu 1 (by decide)
    have e76 : u 2 = (.bool b1) := hu 2 (by decide)
    have p77 := hu 3 (by decide)
    have p78 := hu 4 (by decide)
    have e79 : u 5 = (.bool (b1 && b2)) := hu 5 (by decide)
    have e80 : u 6 = (.bool (b1 && b2)) := hu 6 (by decide)
    have p81 := hu 7 (by decide)
    have p82 := hu 8 (by decide)
    have p83 := hu 9 (by decide)
    have e84 : u 10 = (.bool (b1 && b2 && !ma)) := hu 10 (by decide)
    clear hu
    simp only [puts, slotOf, if_true, Act.put, List.setIfInBounds_toArray, List.set_cons_zero, List.set_cons_succ, List.getElem?_toArray, List.getElem?_cons_zero, List.getElem?_cons_succ, Option.bind_some, e74, e75, e76, e79, e80, e84]
    clear e74 e75 e76 e79 e80 e84
    generalize u 3 = v77 at *
    try simp only [VL, List.getD_cons_zero, List.getD_cons_succ] at p77
    generalize u 4 = v78 at *
    try simp only [VL, List.getD_cons_zero, List.getD_cons_succ] at p78
    generalize u 7 = v81 at *
    try simp only [VL, List.getD_cons_zero, List.getD_cons_succ] at p81
    generalize u 8 = v82 at *
    try simp only [VL, List.getD_cons_zero, List.getD_cons_succ] at p82
    generalize u 9 = v83 at *
    try simp only [VL, List.getD_cons_zero, List.getD_cons_succ] at p83
    clear p77 p78 p81 p82 p83 B3 B4 MI
    replace K := Lib.hid (K.out.trans k1)
    replace HB := Lib.hid (HB.out.kept k1)
    clear k1
    rcases (bools (b1 && b2 && !ma)).symm with hg | hg
    · rw [hg]
      go_wp2_with fail
      refine (told7_c (T.out.kept K.out)).mono ?_
      rintro e w2 ⟨rfl, q⟩
      simp only []
      go_wp2_with fail
      go_ret
      exact ⟨rfl, K.out.trans q⟩
    rw [hg]
    simp only [Bool.and_eq_true, Bool.not_eq_true'] at hg
    have CO := Lib.hid (fun w1 k => CV.out w1 k hg.2)
    clear CV hg
    obtain ⟨oV, hoV⟩ : ∃ o : Outc RawI, o = ⟨⟨rz, rz⟩, 1⟩ := ⟨_, rfl⟩
    rw [← hoV] at CO
    have KV : Hid (oV.k = 1) := by rw [hoV]; exact rfl
    clear hoV
    obtain ⟨-, y0, y1, y2, y3, y4, y5⟩ := HB.out.facts
    go_upto_region 18 with fail
    go_wp2_with fail
    refine (CO.out _ K.out).mono ?_
    rintro e w1 ⟨q, u, rfl, hd⟩
    obtain ⟨PO, pO, qO, RO, rO, sO, rfl, z1, z2⟩ := ivR_split hd
    simp only []
    obtain ⟨V, hV, kV, hb, lV⟩ := boxG w1 (.bool oV.v.lo.neg) (.slice PO pO qO) (.int .i64 oV.v.lo.e) (.bool oV.v.hi.neg) (.slice RO rO sO) (.int .i64 oV.v.hi.e)
    have HV := Lib.hid hV
    have kk := q.trans kV
    skip
    replace K := Lib.hid (K.out.trans kk)
    skip
    have HO := Lib.hid hb
    have ZO := Lib.hid (And.intro (z1.kept kV) (z2.kept kV))
    clear hV kV hb lV kk q hd z1 z2 CO y0 y1 y2 y3 y4 y5
    go_upto_region 19 with fail
    rw [← HV.out]
    clear HV
    generalize w1.heap.size = bO at *
    rw [KV.out]
    go_wp2_with fail
    refine (told7_c (T.out.kept K.out)).mono ?_
    rintro e w2 ⟨rfl, q⟩
    simp only []
    go_wp2_with fail
    go_ret
    exact ⟨rfl, K.out.trans q⟩
  rw [hg]
  rw [hg] at HX
  simp only [Bool.and_eq_true] at hg
  obtain ⟨okd, -, hdx⟩ := HS.out hg.1.1
  have CM := Lib.hid (fun w1 v (k : Kept w w1) (h : DyR w1 v far.raw) => qcmp_c (hdx w1 k) h (absD_ok okd) far_ok)
  clear hg hdx okd HS
  obtain ⟨qb, hqb⟩ : ∃ b, decide (cmpQ (absD dd).q far.q ≤ 0) = b := ⟨_, rfl⟩
  rw [hqb] at HX
  have Q1 : Hid (decide (0 < cmpQ (absD dd).q far.q) = !qb) := by
    rw [← hqb]
    by_cases h : cmpQ (absD dd).q far.q ≤ 0
    · rw [decide_eq_true h, decide_eq_false (by omega)]; exact rfl
    · rw [decide_eq_false h, decide_eq_true (by omega)]; exact rfl
  clear hqb
  generalize cmpQ (absD dd).q far.q = cc at *
  have HFR : Hid (far.raw = ⟨false, [1], 6⟩) := far_raw
  go_upto_region 10 with fail
  refine region_seq1 (m := 4) (V := VL [
      (fun v _ => v = (.agg #[.bool false, .slice A l c, .int .i64 e1])),
      (fun v _ => v = (.agg #[.bool false, .slice (some ⟨g, 0, none⟩) 1 1, .int .i64 6])),
      (fun v _ => v = (.int .i64 cc)),
      (fun v _ => v = (.bool (!qb)))])
    rfl rfl rfl (by kernel_rfl) (by kernel_rfl) (by kernel_rfl) (mono_of _ ⟨mono_eq _, mono_eq _, mono_eq _, mono_eq _, trivial⟩) (steps_of ⟨
      (fun aF wF F => by
    have s8 : aF.tmps.getD 8 undef = (.pointer (some ⟨g + 1 + 1, 0, none⟩)) := F.old 8 (by kernel_rfl)
    have c0 := cell_at H8.out F.kept 0 _ rfl
    have c1 := cell_at H8.out F.kept 1 _ rfl
    have c2 := cell_at H8.out F.kept 2 _ rfl
    exact step_val (by simp [Region.wanted]) (by go_simp) rfl),
      (fun aF wF F => by
    have s7 : aF.tmps.getD 7 undef = (.pointer (some ⟨g + 1, 0, none⟩)) := F.old 7 (by kernel_rfl)
    have c0 := cell_at H7.out F.kept 0 _ rfl
    have c1 := cell_at H7.out F.kept 1 _ rfl
    have c2 := cell_at H7.out F.kept 2 _ rfl
    exact step_val (by simp [Region.wanted]) (by go_simp) rfl),
      (fun aF wF F => by
    have s51 : aF.tmps.getD 51 undef = (.agg #[.bool false, .slice A l c, .int .i64 e1]) := F.done 0 51 (by kernel_rfl) rfl
    have s52 : aF.tmps.getD 52 undef = (.agg #[.bool false, .slice (some ⟨g, 0, none⟩) 1 1, .int .i64 6]) := F.done 1 52 (by kernel_rfl) rfl
    exact step_good (by simp [Region.wanted]) (by go_simp) (CM.out _ (.agg #[.bool false, .slice (some ⟨g, 0, none⟩) 1 1, .int .i64 6]) (K.out.trans F.kept) (by rw [HFR.out]; exact ⟨_, rfl, L7.out.kept F.kept, by decide, by decide⟩)) (fun _ _ h => RetK.good h) (fun _ _ h => h)),
      (fun aF wF F => by
    have s53 : aF.tmps.getD 53 undef = (.int .i64 cc) := F.done 2 53 (by kernel_rfl) rfl
    exact step_val (by simp [Region.wanted]) (by (go_simp; exact Q1.out)) rfl),
      trivial⟩) ?_
  intro u w1 k1 hu
  have e51 : u 0 = (.agg #[.bool false, .slice A l c, .int .i64 e1]) := hu 0 (by decide)
  have e52 : u 1 = (.agg #[.bool false, .slice (some ⟨g, 0, none⟩) 1 1, .int .i64 6]) := hu 1 (by decide)
  have e53 : u 2 = (.int .i64 cc) := hu 2 (by decide)
  have e54 : u 3 = (.bool (!qb)) := hu 3 (by decide)
  clear hu
  simp only [puts, slotOf, if_true, Act.put, List.setIfInBounds_toArray, List.set_cons_zero, List.set_cons_succ, List.getElem?_toArray, List.getElem?_cons_zero, List.getElem?_cons_succ, Option.bind_some, e51, e52, e53, e54]
  clear e51 e52 e53 e54
  clear CM Q1 HFR
  replace K := Lib.hid (K.out.trans k1)
  replace HA := Lib.hid (HA.out.kept k1)
  replace HB := Lib.hid (HB.out.kept k1)
  clear k1 H7 H8 L7
  rcases (bools qb).symm with hg | hg
  · subst hg
    obtain rfl : kx = 4 := HX.out
    have C0 := Lib.hid (fun w1 k => CX.out w1 k (by decide))
    clear HX CX
    obtain ⟨oE, hoE⟩ : ∃ o : Outc Raw, o = ⟨rz, 4⟩ := ⟨_, rfl⟩
    rw [← hoE] at C0
    have KE : Hid (oE.k = 4) := by rw [hoE]; exact rfl
    have CS := Lib.hid (fun w1 v (h : DyR w1 v oE.v) => show Calls Tryd.prog 12 #[v, .agg #[.bool false, .slice none 0 0, .int .i64 0]] w1 (RetK (.bool true) w1) by
      rw [hoE] at h
      have h := dsame_c h (dyR_zero w1) (by decide)
      have e : sameR rz rz = true := by unfold sameR; simp
      rwa [e] at h)
    clear hoE
    go_upto_region 14 with fail
    obtain ⟨-, c0, c1', c2', -⟩ := HA.out.facts
    go_wp2_with fail
    refine (C0.out _ K.out).mono ?_
    rintro e w1 ⟨q, u, rfl, hd⟩
    obtain ⟨PE, pE, qE, rfl, z1⟩ := rawR_split hd
    simp only []
    obtain ⟨V, hV, kV, hb, lV⟩ := boxF w1 (.bool oE.v.neg) (.slice PE pE qE) (.int .i64 oE.v.e)
    have HV := Lib.hid hV
    have kk := q.trans kV
    skip
    replace K := Lib.hid (K.out.trans kk)
    replace HB := Lib.hid (HB.out.kept kk)
    have HE := Lib.hid hb
    have ZE := Lib.hid (z1.kept kV)
    clear hV kV hb lV kk q hd z1 C0 c0 c1' c2'
    go_upto_region 15 with fail
    rw [← HV.out]
    clear HV
    generalize w1.heap.size = bE at *
    rw [KE.out]
    clear KE
    obtain ⟨-, c0, c1', c2', -⟩ := HE.out.facts
    go_wp2_with fail
    refine (CS.out _ _ ZE.out).mono ?_
    rintro e w5 ⟨rfl, q⟩
    simp only []
    replace K := Lib.hid (K.out.trans q)
    replace HB := Lib.hid (HB.out.kept q)
    clear q c0 c1' c2' CS HE ZE
    go_upto_region 17 with fail
    refine region_seq (m := 11) (V := VL [
        (fun v _ => v = .int .i64 p),
        (fun v _ => v = (.bool b1)),
        (fun v _ => v = (.bool b1)),
        (fun v wv => (b1 = true → (fun v _ => v = .int .i64 p) v wv) ∧ (b1 = false → v = undef)),
        (fun v wv => (b1 = true → (fun v _ => v = (.bool b2)) v wv) ∧ (b1 = false → v = undef)),
        (fun v _ => v = (.bool (b1 && b2))),
        (fun v _ => v = (.bool (b1 && b2))),
        (fun v wv => ((b1 && b2) = true → (fun v _ => v = (.agg #[.bool na, .slice A1 l1 r1, .int .i64 ea, .bool nb, .slice A2 l2 r2, .int .i64 eb])) v wv) ∧ ((b1 && b2) = false → v = undef)),
        (fun v wv => ((b1 && b2) = true → (fun v _ => v = (.bool ma)) v wv) ∧ ((b1 && b2) = false → v = undef)),
        (fun v wv => ((b1 && b2) = true → (fun v _ => v = (.bool (!ma))) v wv) ∧ ((b1 && b2) = false → v = undef)),
        (fun v _ => v = (.bool (b1 && b2 && !ma)))])
      rfl (by kernel_rfl) (by kernel_rfl) (by kernel_rfl) (mono_of _ ⟨mono_eq _, mono_eq _, mono_eq _, fun v w w' k h => ⟨fun hC => (fun v w w' k h => by first | exact h | exact h.kept k | exact ⟨h.1, h.2.kept k⟩) v w w' k (h.1 hC), h.2⟩, fun v w w' k h => ⟨fun hC => (fun v w w' k h => by first | exact h | exact h.kept k | exact ⟨h.1, h.2.kept k⟩) v w w' k (h.1 hC), h.2⟩, mono_eq _, mono_eq _, fun v w w' k h => ⟨fun hC => (fun v w w' k h => by first | exact h | exact h.kept k | exact ⟨h.1, h.2.kept k⟩) v w w' k (h.1 hC), h.2⟩, fun v w w' k h => ⟨fun hC => (fun v w w' k h => by first | exact h | exact h.kept k | exact ⟨h.1, h.2.kept k⟩) v w w' k (h.1 hC), h.2⟩, fun v w w' k h => ⟨fun hC => (fun v w w' k h => by first | exact h | exact h.kept k | exact ⟨h.1, h.2.kept k⟩) v w w' k (h.1 hC), h.2⟩, mono_eq _, trivial⟩) (steps_of ⟨
        (fun aF wF F => by
      have s2 : aF.tmps.getD 2 undef = .int .i64 p := F.old 2 (by kernel_rfl)
      exact step_val (by simp [Region.wanted]) (by go_simp) rfl),
        (fun aF wF F => by
      have s74 : aF.tmps.getD 74 undef = .int .i64 p := F.done 0 74 (by kernel_rfl) rfl
      exact step_val (by simp [Region.wanted]) (by (go_simp; exact B3.out)) rfl),
        (fun aF wF F => by
      have s75 : aF.tmps.getD 75 undef = (.bool b1) := F.done 1 75 (by kernel_rfl) rfl
      exact step_val (by simp [Region.wanted]) (by go_simp) rfl),
        (fun aF wF F => by
      have sg : aF.tmps.getD 76 undef = (.bool b1) := F.done 2 76 (by kernel_rfl) rfl
      have s2 : aF.tmps.getD 2 undef = .int .i64 p := F.old 2 (by kernel_rfl)
      rcases bools b1 with hC | hC
      · refine step_imp (V1 := fun _ => (fun v _ => v = .int .i64 p)) ?_ (fun _ _ h => ⟨fun _ => h, fun hN => absurd (hC.symm.trans hN) (by decide)⟩)
        exact step_val ((wanted_guard rfl rfl sg).trans (by first | rfl | simp [hC])) (by go_simp) rfl
      · exact step_out ((wanted_guard rfl rfl sg).trans (by first | rfl | simp [hC])) ⟨fun h => absurd (hC.symm.trans h) (by decide), fun _ => rfl⟩),
        (fun aF wF F => by
      have sg : aF.tmps.getD 76 undef = (.bool b1) := F.done 2 76 (by kernel_rfl) rfl
      have s77 : (b1 = true → aF.tmps.getD 77 undef = .int .i64 p) ∧ (b1 = false → aF.tmps.getD 77 undef = undef) := F.done 3 77 (by kernel_rfl) rfl
      rcases bools b1 with hC | hC
      · refine step_imp (V1 := fun _ => (fun v _ => v = (.bool b2))) ?_ (fun _ _ h => ⟨fun _ => h, fun hN => absurd (hC.symm.trans hN) (by decide)⟩)
        replace s77 := s77.1 hC
        exact step_val ((wanted_guard rfl rfl sg).trans (by first | rfl | simp [hC])) (by (go_simp; exact B4.out)) rfl
      · exact step_out ((wanted_guard rfl rfl sg).trans (by first | rfl | simp [hC])) ⟨fun h => absurd (hC.symm.trans h) (by decide), fun _ => rfl⟩),
        (fun aF wF F => by
      have s76 : aF.tmps.getD 76 undef = (.bool b1) := F.done 2 76 (by kernel_rfl) rfl
      have s78 : (b1 = true → aF.tmps.getD 78 undef = (.bool b2)) ∧ (b1 = false → aF.tmps.getD 78 undef = undef) := F.done 4 78 (by kernel_rfl) rfl
      rcases bools b1 with hE | hE
      · replace s78 := s78.1 hE
        exact step_val (by simp [Region.wanted]) (by first | (go_simp; done) | (go_simp; simp_all; done) | (simp_all; done)) rfl
      · exact step_val (by simp [Region.wanted]) (by first | (go_simp; done) | (go_simp; simp_all; done) | (simp_all; done)) rfl),
        (fun aF wF F => by
      have s79 : aF.tmps.getD 79 undef = (.bool (b1 && b2)) := F.done 5 79 (by kernel_rfl) rfl
      exact step_val (by simp [Region.wanted]) (by go_simp) rfl),
        (fun aF wF F => by
      have sg : aF.tmps.getD 80 undef = (.bool (b1 && b2)) := F.done 6 80 (by kernel_rfl) rfl
      have s4 : aF.tmps.getD 4 undef = (.pointer (some ⟨w.heap.size + 1, 0, none⟩)) := F.old 4 (by kernel_rfl)
      have c0 := cell_at HB.out F.kept 0 _ rfl
      have c1 := cell_at HB.out F.kept 1 _ rfl
      have c2 := cell_at HB.out F.kept 2 _ rfl
      have c3 := cell_at HB.out F.kept 3 _ rfl
      have c4 := cell_at HB.out F.kept 4 _ rfl
      have c5 := cell_at HB.out F.kept 5 _ rfl
      rcases bools (b1 && b2) with hC | hC
      · refine step_imp (V1 := fun _ => (fun v _ => v = (.agg #[.bool na, .slice A1 l1 r1, .int .i64 ea, .bool nb, .slice A2 l2 r2, .int .i64 eb]))) ?_ (fun _ _ h => ⟨fun _ => h, fun hN => absurd (hC.symm.trans hN) (by decide)⟩)
        exact step_val ((wanted_guard rfl rfl sg).trans (by first | rfl | simp [hC])) (by go_simp) rfl
      · exact step_out ((wanted_guard rfl rfl sg).trans (by first | rfl | simp [hC])) ⟨fun h => absurd (hC.symm.trans h) (by decide), fun _ => rfl⟩),
        (fun aF wF F => by
      have sg : aF.tmps.getD 80 undef = (.bool (b1 && b2)) := F.done 6 80 (by kernel_rfl) rfl
      have s81 : ((b1 && b2) = true → aF.tmps.getD 81 undef = (.agg #[.bool na, .slice A1 l1 r1, .int .i64 ea, .bool nb, .slice A2 l2 r2, .int .i64 eb])) ∧ ((b1 && b2) = false → aF.tmps.getD 81 undef = undef) := F.done 7 81 (by kernel_rfl) rfl
      rcases bools (b1 && b2) with hC | hC
      · refine step_imp (V1 := fun _ => (fun v _ => v = (.bool ma))) ?_ (fun _ _ h => ⟨fun _ => h, fun hN => absurd (hC.symm.trans hN) (by decide)⟩)
        replace s81 := s81.1 hC
        exact step_good ((wanted_guard rfl rfl sg).trans (by first | rfl | simp [hC])) (by go_simp) (MI.out _ (K.out.trans F.kept)) (fun _ _ h => RetK.good h) (fun _ _ h => h)
      · exact step_out ((wanted_guard rfl rfl sg).trans (by first | rfl | simp [hC])) ⟨fun h => absurd (hC.symm.trans h) (by decide), fun _ => rfl⟩),
        (fun aF wF F => by
      have sg : aF.tmps.getD 80 undef = (.bool (b1 && b2)) := F.done 6 80 (by kernel_rfl) rfl
      have s82 : ((b1 && b2) = true → aF.tmps.getD 82 undef = (.bool ma)) ∧ ((b1 && b2) = false → aF.tmps.getD 82 undef = undef) := F.done 8 82 (by kernel_rfl) rfl
      rcases bools (b1 && b2) with hC | hC
      · refine step_imp (V1 := fun _ => (fun v _ => v = (.bool (!ma)))) ?_ (fun _ _ h => ⟨fun _ => h, fun hN => absurd (hC.symm.trans hN) (by decide)⟩)
        replace s82 := s82.1 hC
        exact step_val ((wanted_guard rfl rfl sg).trans (by first | rfl | simp [hC])) (by go_simp) rfl
      · exact step_out ((wanted_guard rfl rfl sg).trans (by first | rfl | simp [hC])) ⟨fun h => absurd (hC.symm.trans h) (by decide), fun _ => rfl⟩),
        (fun aF wF F => by
      have s80 : aF.tmps.getD 80 undef = (.bool (b1 && b2)) := F.done 6 80 (by kernel_rfl) rfl
      have s83 : ((b1 && b2) = true → aF.tmps.getD 83 undef = (.bool (!ma))) ∧ ((b1 && b2) = false → aF.tmps.getD 83 undef = undef) := F.done 9 83 (by kernel_rfl) rfl
      rcases bools (b1 && b2) with hE | hE
      · replace s83 := s83.1 hE
        exact step_val (by simp [Region.wanted]) (by first | (go_simp; done) | (go_simp; simp_all; done) | (simp_all; done)) rfl
      · exact step_val (by simp [Region.wanted]) (by first | (go_simp; done) | (go_simp; simp_all; done) | (simp_all; done)) rfl),
        trivial⟩) ?_
    intro u w1 k1 hu
    have e74 : u 0 = .int .i64 p := hu 0 (by decide)
    have e75 : u 1 = (.bool b1) := hu 1 (by decide)
    have e76 : u 2 = (.bool b1) := hu 2 (by decide)
    have p77 := hu 3 (by decide)
    have p78 := hu 4 (by decide)
    have e79 : u 5 = (.bool (b1 && b2)) := hu 5 (by decide)
    have e80 : u 6 = (.bool (b1 && b2)) := hu 6 (by decide)
    have p81 := hu 7 (by decide)
    have p82 := hu 8 (by decide)
    have p83 := hu 9 (by decide)
    have e84 : u 10 = (.bool (b1 && b2 && !ma)) := hu 10 (by decide)
    clear hu
    simp only [puts, slotOf, if_true, Act.put, List.setIfInBounds_toArray, List.set_cons_zero, List.set_cons_succ, List.getElem?_toArray, List.getElem?_cons_zero, List.getElem?_cons_succ, Option.bind_some, e74, e75, e76, e79, e80, e84]
    clear e74 e75 e76 e79 e80 e84
    generalize u 3 = v77 at *
    try simp only [VL, List.getD_cons_zero, List.getD_cons_succ] at p77
    generalize u 4 = v78 at *
    try simp only [VL, List.getD_cons_zero, List.getD_cons_succ] at p78
    generalize u 7 = v81 at *
    try simp only [VL, List.getD_cons_zero, List.getD_cons_succ] at p81
    generalize u 8 = v82 at *
    try simp only [VL, List.getD_cons_zero, List.getD_cons_succ] at p82
    generalize u 9 = v83 at *
    try simp only [VL, List.getD_cons_zero, List.getD_cons_succ] at p83
    clear p77 p78 p81 p82 p83 B3 B4 MI
    replace K := Lib.hid (K.out.trans k1)
    replace HB := Lib.hid (HB.out.kept k1)
    clear k1
    rcases (bools (b1 && b2 && !ma)).symm with hg | hg
    · rw [hg]
      go_wp2_with fail
      refine (told7_c (T.out.kept K.out)).mono ?_
      rintro e w2 ⟨rfl, q⟩
      simp only []
      go_wp2_with fail
      go_ret
      exact ⟨rfl, K.out.trans q⟩
    rw [hg]
    simp only [Bool.and_eq_true, Bool.not_eq_true'] at hg
    have CO := Lib.hid (fun w1 k => CV.out w1 k hg.2)
    clear CV hg
    obtain ⟨oV, hoV⟩ : ∃ o : Outc RawI, o = ⟨⟨rz, rz⟩, 1⟩ := ⟨_, rfl⟩
    rw [← hoV] at CO
    have KV : Hid (oV.k = 1) := by rw [hoV]; exact rfl
    clear hoV
    obtain ⟨-, y0, y1, y2, y3, y4, y5⟩ := HB.out.facts
    go_upto_region 18 with fail
    go_wp2_with fail
    refine (CO.out _ K.out).mono ?_
    rintro e w1 ⟨q, u, rfl, hd⟩
    obtain ⟨PO, pO, qO, RO, rO, sO, rfl, z1, z2⟩ := ivR_split hd
    simp only []
    obtain ⟨V, hV, kV, hb, lV⟩ := boxG w1 (.bool oV.v.lo.neg) (.slice PO pO qO) (.int .i64 oV.v.lo.e) (.bool oV.v.hi.neg) (.slice RO rO sO) (.int .i64 oV.v.hi.e)
    have HV := Lib.hid hV
    have kk := q.trans kV
    skip
    replace K := Lib.hid (K.out.trans kk)
    skip
    have HO := Lib.hid hb
    have ZO := Lib.hid (And.intro (z1.kept kV) (z2.kept kV))
    clear hV kV hb lV kk q hd z1 z2 CO y0 y1 y2 y3 y4 y5
    go_upto_region 19 with fail
    rw [← HV.out]
    clear HV
    generalize w1.heap.size = bO at *
    rw [KV.out]
    go_wp2_with fail
    refine (told7_c (T.out.kept K.out)).mono ?_
    rintro e w2 ⟨rfl, q⟩
    simp only []
    go_wp2_with fail
    go_ret
    exact ⟨rfl, K.out.trans q⟩
  subst hg
  have hm := HX.out
  simp only [if_true] at hm
  clear HX
  obtain ⟨-, a0, a1, a2, -⟩ := HA.out.facts
  by_cases he : e1 < -400
  · rw [if_pos he] at hm
    obtain rfl : kx = 2 := hm
    have d1 : decide (e1 < -400) = true := by simp [he]
    have C0 := Lib.hid (fun w1 k => CX.out w1 k (by decide))
    clear CX he
    obtain ⟨oE, hoE⟩ : ∃ o : Outc Raw, o = ⟨rz, 2⟩ := ⟨_, rfl⟩
    rw [← hoE] at C0
    have KE : Hid (oE.k = 2) := by rw [hoE]; exact rfl
    have CS := Lib.hid (fun w1 v (h : DyR w1 v oE.v) => show Calls Tryd.prog 12 #[v, .agg #[.bool false, .slice none 0 0, .int .i64 0]] w1 (RetK (.bool true) w1) by
      rw [hoE] at h
      have h := dsame_c h (dyR_zero w1) (by decide)
      have e : sameR rz rz = true := by unfold sameR; simp
      rwa [e] at h)
    clear hoE
    go_upto_region 14 with fail
    obtain ⟨-, c0, c1', c2', -⟩ := HA.out.facts
    go_wp2_with fail
    refine (C0.out _ K.out).mono ?_
    rintro e w1 ⟨q, u, rfl, hd⟩
    obtain ⟨PE, pE, qE, rfl, z1⟩ := rawR_split hd
    simp only []
    obtain ⟨V, hV, kV, hb, lV⟩ := boxF w1 (.bool oE.v.neg) (.slice PE pE qE) (.int .i64 oE.v.e)
    have HV := Lib.hid hV
    have kk := q.trans kV
    skip
    replace K := Lib.hid (K.out.trans kk)
    replace HB := Lib.hid (HB.out.kept kk)
    have HE := Lib.hid hb
    have ZE := Lib.hid (z1.kept kV)
    clear hV kV hb lV kk q hd z1 C0 c0 c1' c2'
    go_upto_region 15 with fail
    rw [← HV.out]
    clear HV
    generalize w1.heap.size = bE at *
    rw [KE.out]
    clear KE
    obtain ⟨-, c0, c1', c2', -⟩ := HE.out.facts
    go_wp2_with fail
    refine (CS.out _ _ ZE.out).mono ?_
    rintro e w5 ⟨rfl, q⟩
    simp only []
    replace K := Lib.hid (K.out.trans q)
    replace HB := Lib.hid (HB.out.kept q)
    clear q c0 c1' c2' CS HE ZE
    go_upto_region 17 with fail
    refine region_seq (m := 11) (V := VL [
        (fun v _ => v = .int .i64 p),
        (fun v _ => v = (.bool b1)),
        (fun v _ => v = (.bool b1)),
        (fun v wv => (b1 = true → (fun v _ => v = .int .i64 p) v wv) ∧ (b1 = false → v = undef)),
        (fun v wv => (b1 = true → (fun v _ => v = (.bool b2)) v wv) ∧ (b1 = false → v = undef)),
        (fun v _ => v = (.bool (b1 && b2))),
        (fun v _ => v = (.bool (b1 && b2))),
        (fun v wv => ((b1 && b2) = true → (fun v _ => v = (.agg #[.bool na, .slice A1 l1 r1, .int .i64 ea, .bool nb, .slice A2 l2 r2, .int .i64 eb])) v wv) ∧ ((b1 && b2) = false → v = undef)),
        (fun v wv => ((b1 && b2) = true → (fun v _ => v = (.bool ma)) v wv) ∧ ((b1 && b2) = false → v = undef)),
        (fun v wv => ((b1 && b2) = true → (fun v _ => v = (.bool (!ma))) v wv) ∧ ((b1 && b2) = false → v = undef)),
        (fun v _ => v = (.bool (b1 && b2 && !ma)))])
      rfl (by kernel_rfl) (by kernel_rfl) (by kernel_rfl) (mono_of _ ⟨mono_eq _, mono_eq _, mono_eq _, fun v w w' k h => ⟨fun hC => (fun v w w' k h => by first | exact h | exact h.kept k | exact ⟨h.1, h.2.kept k⟩) v w w' k (h.1 hC), h.2⟩, fun v w w' k h => ⟨fun hC => (fun v w w' k h => by first | exact h | exact h.kept k | exact ⟨h.1, h.2.kept k⟩) v w w' k (h.1 hC), h.2⟩, mono_eq _, mono_eq _, fun v w w' k h => ⟨fun hC => (fun v w w' k h => by first | exact h | exact h.kept k | exact ⟨h.1, h.2.kept k⟩) v w w' k (h.1 hC), h.2⟩, fun v w w' k h => ⟨fun hC => (fun v w w' k h => by first | exact h | exact h.kept k | exact ⟨h.1, h.2.kept k⟩) v w w' k (h.1 hC), h.2⟩, fun v w w' k h => ⟨fun hC => (fun v w w' k h => by first | exact h | exact h.kept k | exact ⟨h.1, h.2.kept k⟩) v w w' k (h.1 hC), h.2⟩, mono_eq _, trivial⟩) (steps_of ⟨
        (fun aF wF F => by
      have s2 : aF.tmps.getD 2 undef = .int .i64 p := F.old 2 (by kernel_rfl)
      exact step_val (by simp [Region.wanted]) (by go_simp) rfl),
        (fun aF wF F => by
      have s74 : aF.tmps.getD 74 undef = .int .i64 p := F.done 0 74 (by kernel_rfl) rfl
      exact step_val (by simp [Region.wanted]) (by (go_simp; exact B3.out)) rfl),
        (fun aF wF F => by
      have s75 : aF.tmps.getD 75 undef = (.bool b1) := F.done 1 75 (by kernel_rfl) rfl
      exact step_val (by simp [Region.wanted]) (by go_simp) rfl),
        (fun aF wF F => by
      have sg : aF.tmps.getD 76 undef = (.bool b1) := F.done 2 76 (by kernel_rfl) rfl
      have s2 : aF.tmps.getD 2 undef = .int .i64 p := F.old 2 (by kernel_rfl)
      rcases bools b1 with hC | hC
      · refine step_imp (V1 := fun _ => (fun v _ => v = .int .i64 p)) ?_ (fun _ _ h => ⟨fun _ => h, fun hN => absurd (hC.symm.trans hN) (by decide)⟩)
        exact step_val ((wanted_guard rfl rfl sg).trans (by first | rfl | simp [hC])) (by go_simp) rfl
      · exact step_out ((wanted_guard rfl rfl sg).trans (by first | rfl | simp [hC])) ⟨fun h => absurd (hC.symm.trans h) (by decide), fun _ => rfl⟩),
        (fun aF wF F => by
      have sg : aF.tmps.getD 76 undef = (.bool b1) := F.done 2 76 (by kernel_rfl) rfl
      have s77 : (b1 = true → aF.tmps.getD 77 undef = .int .i64 p) ∧ (b1 = false → aF.tmps.getD 77 undef = undef) := F.done 3 77 (by kernel_rfl) rfl
      rcases bools b1 with hC | hC
      · refine step_imp (V1 := fun _ => (fun v _ => v = (.bool b2))) ?_ (fun _ _ h => ⟨fun _ => h, fun hN => absurd (hC.symm.trans hN) (by decide)⟩)
        replace s77 := s77.1 hC
        exact step_val ((wanted_guard rfl rfl sg).trans (by first | rfl | simp [hC])) (by (go_simp; exact B4.out)) rfl
      · exact step_out ((wanted_guard rfl rfl sg).trans (by first | rfl | simp [hC])) ⟨fun h => absurd (hC.symm.trans h) (by decide), fun _ => rfl⟩),
        (fun aF wF F => by
      have s76 : aF.tmps.getD 76 undef = (.bool b1) := F.done 2 76 (by kernel_rfl) rfl
      have s78 : (b1 = true → aF.tmps.getD 78 undef = (.bool b2)) ∧ (b1 = false → aF.tmps.getD 78 undef = undef) := F.done 4 78 (by kernel_rfl) rfl
      rcases bools b1 with hE | hE
      · replace s78 := s78.1 hE
        exact step_val (by simp [Region.wanted]) (by first | (go_simp; done) | (go_simp; simp_all; done) | (simp_all; done)) rfl
      · exact step_val (by simp [Region.wanted]) (by first | (go_simp; done) | (go_simp; simp_all; done) | (simp_all; done)) rfl),
        (fun aF wF F => by
      have s79 : aF.tmps.getD 79 undef = (.bool (b1 && b2)) := F.done 5 79 (by kernel_rfl) rfl
      exact step_val (by simp [Region.wanted]) (by go_simp) rfl),
        (fun aF wF F => by
      have sg : aF.tmps.getD 80 undef = (.bool (b1 && b2)) := F.done 6 80 (by kernel_rfl) rfl
      have s4 : aF.tmps.getD 4 undef = (.pointer (some ⟨w.heap.size + 1, 0, none⟩)) := F.old 4 (by kernel_rfl)
      have c0 := cell_at HB.out F.kept 0 _ rfl
      have c1 := cell_at HB.out F.kept 1 _ rfl
      have c2 := cell_at HB.out F.kept 2 _ rfl
      have c3 := cell_at HB.out F.kept 3 _ rfl
      have c4 := cell_at HB.out F.kept 4 _ rfl
      have c5 := cell_at HB.out F.kept 5 _ rfl
      rcases bools (b1 && b2) with hC | hC
      · refine step_imp (V1 := fun _ => (fun v _ => v = (.agg #[.bool na, .slice A1 l1 r1, .int .i64 ea, .bool nb, .slice A2 l2 r2, .int .i64 eb]))) ?_ (fun _ _ h => ⟨fun _ => h, fun hN => absurd (hC.symm.trans hN) (by decide)⟩)
        exact step_val ((wanted_guard rfl rfl sg).trans (by first | rfl | simp [hC])) (by go_simp) rfl
      · exact step_out ((wanted_guard rfl rfl sg).trans (by first | rfl | simp [hC])) ⟨fun h => absurd (hC.symm.trans h) (by decide), fun _ => rfl⟩),
        (fun aF wF F => by
      have sg : aF.tmps.getD 80 undef = (.bool (b1 && b2)) := F.done 6 80 (by kernel_rfl) rfl
      have s81 : ((b1 && b2) = true → aF.tmps.getD 81 undef = (.agg #[.bool na, .slice A1 l1 r1, .int .i64 ea, .bool nb, .slice A2 l2 r2, .int .i64 eb])) ∧ ((b1 && b2) = false → aF.tmps.getD 81 undef = undef) := F.done 7 81 (by kernel_rfl) rfl
      rcases bools (b1 && b2) with hC | hC
      · refine step_imp (V1 := fun _ => (fun v _ => v = (.bool ma))) ?_ (fun _ _ h => ⟨fun _ => h, fun hN => absurd (hC.symm.trans hN) (by decide)⟩)
        replace s81 := s81.1 hC
        exact step_good ((wanted_guard rfl rfl sg).trans (by first | rfl | simp [hC])) (by go_simp) (MI.out _ (K.out.trans F.kept)) (fun _ _ h => RetK.good h) (fun _ _ h => h)
      · exact step_out ((wanted_guard rfl rfl sg).trans (by first | rfl | simp [hC])) ⟨fun h => absurd (hC.symm.trans h) (by decide), fun _ => rfl⟩),
        (fun aF wF F => by
      have sg : aF.tmps.getD 80 undef = (.bool (b1 && b2)) := F.done 6 80 (by kernel_rfl) rfl
      have s82 : ((b1 && b2) = true → aF.tmps.getD 82 undef = (.bool ma)) ∧ ((b1 && b2) = false → aF.tmps.getD 82 undef = undef) := F.done 8 82 (by kernel_rfl) rfl
      rcases bools (b1 && b2) with hC | hC
      · refine step_imp (V1 := fun _ => (fun v _ => v = (.bool (!ma)))) ?_ (fun _ _ h => ⟨fun _ => h, fun hN => absurd (hC.symm.trans hN) (by decide)⟩)
        replace s82 := s82.1 hC
        exact step_val ((wanted_guard rfl rfl sg).trans (by first | rfl | simp [hC])) (by go_simp) rfl
      · exact step_out ((wanted_guard rfl rfl sg).trans (by first | rfl | simp [hC])) ⟨fun h => absurd (hC.symm.trans h) (by decide), fun _ => rfl⟩),
        (fun aF wF F => by
      have s80 : aF.tmps.getD 80 undef = (.bool (b1 && b2)) := F.done 6 80 (by kernel_rfl) rfl
      have s83 : ((b1 && b2) = true → aF.tmps.getD 83 undef = (.bool (!ma))) ∧ ((b1 && b2) = false → aF.tmps.getD 83 undef = undef) := F.done 9 83 (by kernel_rfl) rfl
      rcases bools (b1 && b2) with hE | hE
      · replace s83 := s83.1 hE
        exact step_val (by simp [Region.wanted]) (by first | (go_simp; done) | (go_simp; simp_all; done) | (simp_all; done)) rfl
      · exact step_val (by simp [Region.wanted]) (by first | (go_simp; done) | (go_simp; simp_all; done) | (simp_all; done)) rfl),
        trivial⟩) ?_
    intro u w1 k1 hu
    have e74 : u 0 = .int .i64 p := hu 0 (by decide)
    have e75 : u 1 = (.bool b1) := hu 1 (by decide)
    have e76 : u 2 = (.bool b1) := hu 2 (by decide)
    have p77 := hu 3 (by decide)
    have p78 := hu 4 (by decide)
    have e79 : u 5 = (.bool (b1 && b2)) := hu 5 (by decide)
    have e80 : u 6 = (.bool (b1 && b2)) := hu 6 (by decide)
    have p81 := hu 7 (by decide)
    have p82 := hu 8 (by decide)
    have p83 := hu 9 (by decide)
    have e84 : u 10 = (.bool (b1 && b2 && !ma)) := hu 10 (by decide)
    clear hu
    simp only [puts, slotOf, if_true, Act.put, List.setIfInBounds_toArray, List.set_cons_zero, List.set_cons_succ, List.getElem?_toArray, List.getElem?_cons_zero, List.getElem?_cons_succ, Option.bind_some, e74, e75, e76, e79, e80, e84]
    clear e74 e75 e76 e79 e80 e84
    generalize u 3 = v77 at *
    try simp only [VL, List.getD_cons_zero, List.getD_cons_succ] at p77
    generalize u 4 = v78 at *
    try simp only [VL, List.getD_cons_zero, List.getD_cons_succ] at p78
    generalize u 7 = v81 at *
    try simp only [VL, List.getD_cons_zero, List.getD_cons_succ] at p81
    generalize u 8 = v82 at *
    try simp only [VL, List.getD_cons_zero, List.getD_cons_succ] at p82
    generalize u 9 = v83 at *
    try simp only [VL, List.getD_cons_zero, List.getD_cons_succ] at p83
    clear p77 p78 p81 p82 p83 B3 B4 MI
    replace K := Lib.hid (K.out.trans k1)
    replace HB := Lib.hid (HB.out.kept k1)
    clear k1
    rcases (bools (b1 && b2 && !ma)).symm with hg | hg
    · rw [hg]
      go_wp2_with fail
      refine (told7_c (T.out.kept K.out)).mono ?_
      rintro e w2 ⟨rfl, q⟩
      simp only []
      go_wp2_with fail
      go_ret
      exact ⟨rfl, K.out.trans q⟩
    rw [hg]
    simp only [Bool.and_eq_true, Bool.not_eq_true'] at hg
    have CO := Lib.hid (fun w1 k => CV.out w1 k hg.2)
    clear CV hg
    obtain ⟨oV, hoV⟩ : ∃ o : Outc RawI, o = ⟨⟨rz, rz⟩, 1⟩ := ⟨_, rfl⟩
    rw [← hoV] at CO
    have KV : Hid (oV.k = 1) := by rw [hoV]; exact rfl
    clear hoV
    obtain ⟨-, y0, y1, y2, y3, y4, y5⟩ := HB.out.facts
    go_upto_region 18 with fail
    go_wp2_with fail
    refine (CO.out _ K.out).mono ?_
    rintro e w1 ⟨q, u, rfl, hd⟩
    obtain ⟨PO, pO, qO, RO, rO, sO, rfl, z1, z2⟩ := ivR_split hd
    simp only []
    obtain ⟨V, hV, kV, hb, lV⟩ := boxG w1 (.bool oV.v.lo.neg) (.slice PO pO qO) (.int .i64 oV.v.lo.e) (.bool oV.v.hi.neg) (.slice RO rO sO) (.int .i64 oV.v.hi.e)
    have HV := Lib.hid hV
    have kk := q.trans kV
    skip
    replace K := Lib.hid (K.out.trans kk)
    skip
    have HO := Lib.hid hb
    have ZO := Lib.hid (And.intro (z1.kept kV) (z2.kept kV))
    clear hV kV hb lV kk q hd z1 z2 CO y0 y1 y2 y3 y4 y5
    go_upto_region 19 with fail
    rw [← HV.out]
    clear HV
    generalize w1.heap.size = bO at *
    rw [KV.out]
    go_wp2_with fail
    refine (told7_c (T.out.kept K.out)).mono ?_
    rintro e w2 ⟨rfl, q⟩
    simp only []
    go_wp2_with fail
    go_ret
    exact ⟨rfl, K.out.trans q⟩
  · have d1 : decide (e1 < -400) = false := by simp; omega
    clear he hm CX
    go_wp2_with fail
    refine (told7_c (T.out.kept K.out)).mono ?_
    rintro e w2 ⟨rfl, q⟩
    simp only []
    go_wp2_with fail
    go_ret
    exact ⟨rfl, K.out.trans q⟩







end Go.Proofs.YtjdplcenniogdaaDoor
