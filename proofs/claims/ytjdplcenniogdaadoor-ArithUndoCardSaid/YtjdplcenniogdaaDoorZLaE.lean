/- Laws of layer 6: ArithUndo. -/
import Derived.Test.YtjdplcenniogdaaDoorZLaH
namespace Go.Proofs.YtjdplcenniogdaaDoor
open Go.RowKit

set_option maxHeartbeats 4000000 in
set_option maxRecDepth 100000 in
theorem undo_c {w : World} {va vb : Value} {a b : RawI} {p : Int} (ha : IvR w va a) (hb : IvR w vb b)
    (la : a.lens 17592186044416) (lb : b.lens 17592186044416) (hT : Tab w) :
    Calls Tryd.prog 4 #[va, vb, .int .i64 p] w (RetK (.bool true) w) := by
  have MA := Lib.hid (fun w1 (k : Kept w w1) => imay_c (ha.kept k) la)
  have MB := Lib.hid (fun w1 (k : Kept w w1) => imay_c (hb.kept k) lb)
  have T := Lib.hid hT
  obtain ⟨Aa, ia, ja, Ba, ma, na, rfl, h1, h2⟩ := ivR_split ha
  have SA := Lib.hid h1
  have RA := Lib.hid h2
  have CA := Lib.hid (fun (h : mayI a = true) => iv_clean h1.small h2.small h)
  clear ha h1 h2 la
  obtain ⟨ga, hga⟩ : ∃ x, mayI a = x := ⟨_, rfl⟩
  obtain ⟨fa, hfa⟩ : ∃ x, decide ((6 : Int) < (ia : Int)) = !x := ⟨!decide ((6 : Int) < (ia : Int)), by simp⟩
  obtain ⟨ea, hea⟩ : ∃ x, decide ((6 : Int) < (ma : Int)) = !x := ⟨!decide ((6 : Int) < (ma : Int)), by simp⟩
  have GA := Lib.hid hfa
  have EA := Lib.hid hea
  rw [hga] at MA CA
  clear hga hfa hea
  generalize a.lo.neg = xa at *
  generalize a.lo.e = ya at *
  generalize a.hi.neg = za at *
  generalize a.hi.e = ta at *
  obtain ⟨Ab, ib, jb, Bb, mb, nb, rfl, h1, h2⟩ := ivR_split hb
  have SB := Lib.hid h1
  have RB := Lib.hid h2
  have CB := Lib.hid (fun (h : mayI b = true) => iv_clean h1.small h2.small h)
  clear hb h1 h2 lb
  obtain ⟨gb, hgb⟩ : ∃ x, mayI b = x := ⟨_, rfl⟩
  obtain ⟨fb, hfb⟩ : ∃ x, decide ((6 : Int) < (ib : Int)) = !x := ⟨!decide ((6 : Int) < (ib : Int)), by simp⟩
  obtain ⟨eb, heb⟩ : ∃ x, decide ((6 : Int) < (mb : Int)) = !x := ⟨!decide ((6 : Int) < (mb : Int)), by simp⟩
  have GB := Lib.hid hfb
  have EB := Lib.hid heb
  rw [hgb] at MB CB
  clear hgb hfb heb
  generalize b.lo.neg = xb at *
  generalize b.lo.e = yb at *
  generalize b.hi.neg = zb at *
  generalize b.hi.e = tb at *
  clear hT
  obtain ⟨W, hW, kW, BA, BB⟩ := box2ii w (.bool xa) (.slice Aa ia ja) (.int .i64 ya) (.bool za) (.slice Ba ma na) (.int .i64 ta) (.bool xb) (.slice Ab ib jb) (.int .i64 yb) (.bool zb) (.slice Bb mb nb) (.int .i64 tb)
  have HW := Lib.hid hW
  have K := Lib.hid kW
  have HA := Lib.hid BA
  have HB := Lib.hid BB
  clear hW kW BA BB
  go_enter Tryd.func4, Tryd.ntmps4
  go_upto_region 1 with fail
  rw [← HW.out]
  refine region_seq (m := 36) (V := VL [
      (fun v _ => v = (.pointer (some ⟨w.heap.size, 0, none⟩))),
      (fun v _ => v = (.pointer (some ⟨w.heap.size, 1, none⟩))),
      (fun v _ => v = (.slice Aa ia ja)),
      (fun v _ => v = (.int .i64 (ia : Int))),
      (fun v _ => v = (.bool (!fa))),
      (fun v _ => v = (.bool (!fa))),
      (fun v wv => (fa = true → (fun v _ => v = (.pointer (some ⟨w.heap.size, 3, none⟩))) v wv) ∧ (fa = false → v = undef)),
      (fun v wv => (fa = true → (fun v _ => v = (.pointer (some ⟨w.heap.size, 4, none⟩))) v wv) ∧ (fa = false → v = undef)),
      (fun v wv => (fa = true → (fun v _ => v = (.slice Ba ma na)) v wv) ∧ (fa = false → v = undef)),
      (fun v wv => (fa = true → (fun v _ => v = (.int .i64 (ma : Int))) v wv) ∧ (fa = false → v = undef)),
      (fun v wv => (fa = true → (fun v _ => v = (.bool (!ea))) v wv) ∧ (fa = false → v = undef)),
      (fun v _ => v = (.bool (!(fa && ea)))),
      (fun v _ => v = (.bool (!(fa && ea)))),
      (fun v wv => ((fa && ea) = true → (fun v _ => v = (.pointer (some ⟨w.heap.size + 1, 0, none⟩))) v wv) ∧ ((fa && ea) = false → v = undef)),
      (fun v wv => ((fa && ea) = true → (fun v _ => v = (.pointer (some ⟨w.heap.size + 1, 1, none⟩))) v wv) ∧ ((fa && ea) = false → v = undef)),
      (fun v wv => ((fa && ea) = true → (fun v _ => v = (.slice Ab ib jb)) v wv) ∧ ((fa && ea) = false → v = undef)),
      (fun v wv => ((fa && ea) = true → (fun v _ => v = (.int .i64 (ib : Int))) v wv) ∧ ((fa && ea) = false → v = undef)),
      (fun v wv => ((fa && ea) = true → (fun v _ => v = (.bool (!fb))) v wv) ∧ ((fa && ea) = false → v = undef)),
      (fun v _ => v = (.bool (!(fa && ea && fb)))),
      (fun v _ => v = (.bool (!(fa && ea && fb)))),
      (fun v wv => ((fa && ea && fb) = true → (fun v _ => v = (.pointer (some ⟨w.heap.size + 1, 3, none⟩))) v wv) ∧ ((fa && ea && fb) = false → v = undef)),
      (fun v wv => ((fa && ea && fb) = true → (fun v _ => v = (.pointer (some ⟨w.heap.size + 1, 4, none⟩))) v wv) ∧ ((fa && ea && fb) = false → v = undef)),
      (fun v wv => ((fa && ea && fb) = true → (fun v _ => v = (.slice Bb mb nb)) v wv) ∧ ((fa && ea && fb) = false → v = undef)),
      (fun v wv => ((fa && ea && fb) = true → (fun v _ => v = (.int .i64 (mb : Int))) v wv) ∧ ((fa && ea && fb) = false → v = undef)),
      (fun v wv => ((fa && ea && fb) = true → (fun v _ => v = (.bool (!eb))) v wv) ∧ ((fa && ea && fb) = false → v = undef)),
      (fun v _ => v = (.bool (!(fa && ea && fb && eb)))),
      (fun v _ => v = (.bool (!(fa && ea && fb && eb)))),
      (fun v wv => ((fa && ea && fb && eb) = true → (fun v _ => v = (.agg #[.bool xa, .slice Aa ia ja, .int .i64 ya, .bool za, .slice Ba ma na, .int .i64 ta])) v wv) ∧ ((fa && ea && fb && eb) = false → v = undef)),
      (fun v wv => ((fa && ea && fb && eb) = true → (fun v _ => v = (.bool ga)) v wv) ∧ ((fa && ea && fb && eb) = false → v = undef)),
      (fun v wv => ((fa && ea && fb && eb) = true → (fun v _ => v = (.bool (!ga))) v wv) ∧ ((fa && ea && fb && eb) = false → v = undef)),
      (fun v _ => v = (.bool (!(fa && ea && fb && eb && ga)))),
      (fun v _ => v = (.bool (!(fa && ea && fb && eb && ga)))),
      (fun v wv => ((fa && ea && fb && eb && ga) = true → (fun v _ => v = (.agg #[.bool xb, .slice Ab ib jb, .int .i64 yb, .bool zb, .slice Bb mb nb, .int .i64 tb])) v wv) ∧ ((fa && ea && fb && eb && ga) = false → v = undef)),
      (fun v wv => ((fa && ea && fb && eb && ga) = true → (fun v _ => v = (.bool gb)) v wv) ∧ ((fa && ea && fb && eb && ga) = false → v = undef)),
      (fun v wv => ((fa && ea && fb && eb && ga) = true → (fun v _ => v = (.bool (!gb))) v wv) ∧ ((fa && ea && fb && eb && ga) = false → v = undef)),
      (fun v _ => v = (.bool (!(fa && ea && fb && eb && ga && gb))))])
    rfl (by kernel_rfl) (by kernel_rfl) (by kernel_rfl) (mono_of _ ⟨mono_eq _, mono_eq _, mono_eq _, mono_eq _, mono_eq _, mono_eq _, fun v w w' k h => ⟨fun hC => (fun v w w' k h => by first | exact h | exact h.kept k | exact ⟨h.1, h.2.kept k⟩) v w w' k (h.1 hC), h.2⟩, fun v w w' k h => ⟨fun hC => (fun v w w' k h => by first | exact h | exact h.kept k | exact ⟨h.1, h.2.kept k⟩) v w w' k (h.1 hC), h.2⟩, fun v w w' k h => ⟨fun hC => (fun v w w' k h => by first | exact h | exact h.kept k | exact ⟨h.1, h.2.kept k⟩) v w w' k (h.1 hC), h.2⟩, fun v w w' k h => ⟨fun hC => (fun v w w' k h => by first | exact h | exact h.kept k | exact ⟨h.1, h.2.kept k⟩) v w w' k (h.1 hC), h.2⟩, fun v w w' k h => ⟨fun hC => (fun v w w' k h => by first | exact h | exact h.kept k | exact ⟨h.1, h.2.kept k⟩) v w w' k (h.1 hC), h.2⟩, mono_eq _, mono_eq _, fun v w w' k h => ⟨fun hC => (fun v w w' k h => by first | exact h | exact h.kept k | exact ⟨h.1, h.2.kept k⟩) v w w' k (h.1 hC), h.2⟩, fun v w w' k h => ⟨fun hC => (fun v w w' k h => by first | exact h | exact h.kept k | exact ⟨h.1, h.2.kept k⟩) v w w' k (h.1 hC), h.2⟩, fun v w w' k h => ⟨fun hC => (fun v w w' k h => by first | exact h | exact h.kept k | exact ⟨h.1, h.2.kept k⟩) v w w' k (h.1 hC), h.2⟩, fun v w w' k h => ⟨fun hC => (fun v w w' k h => by first | exact h | exact h.kept k | exact ⟨h.1, h.2.kept k⟩) v w w' k (h.1 hC), h.2⟩, fun v w w' k h => ⟨fun hC => (fun v w w' k h => by first | exact h | exact h.kept k | exact ⟨h.1, h.2.kept k⟩) v w w' k (h.1 hC), h.2⟩, mono_eq _, mono_eq _, fun v w w' k h => ⟨fun hC => (fun v w w' k h => by first | exact h | exact h.kept k | exact ⟨h.1, h.2.kept k⟩) v w w' k (h.1 hC), h.2⟩, fun v w w' k h => ⟨fun hC => (fun v w w' k h => by first | exact h | exact h.kept k | exact ⟨h.1, h.2.kept k⟩) v w w' k (h.1 hC), h.2⟩, fun v w w' k h => ⟨fun hC => (fun v w w' k h => by first | exact h | exact h.kept k | exact ⟨h.1, h.2.kept k⟩) v w w' k (h.1 hC), h.2⟩, fun v w w' k h => ⟨fun hC => (fun v w w' k h => by first | exact h | exact h.kept k | exact ⟨h.1, h.2.kept k⟩) v w w' k (h.1 hC), h.2⟩, fun v w w' k h => ⟨fun hC => (fun v w w' k h => by first | exact h | exact h.kept k | exact ⟨h.1, h.2.kept k⟩) v w w' k (h.1 hC), h.2⟩, mono_eq _, mono_eq _, fun v w w' k h => ⟨fun hC => (fun v w w' k h => by first | exact h | exact h.kept k | exact ⟨h.1, h.2.kept k⟩) v w w' k (h.1 hC), h.2⟩, fun v w w' k h => ⟨fun hC => (fun v w w' k h => by first | exact h | exact h.kept k | exact ⟨h.1, h.2.kept k⟩) v w w' k (h.1 hC), h.2⟩, fun v w w' k h => ⟨fun hC => (fun v w w' k h => by first | exact h | exact h.kept k | exact ⟨h.1, h.2.kept k⟩) v w w' k (h.1 hC), h.2⟩, mono_eq _, mono_eq _, fun v w w' k h => ⟨fun hC => (fun v w w' k h => by first | exact h | exact h.kept k | exact ⟨h.1, h.2.kept k⟩) v w w' k (h.1 hC), h.2⟩, fun v w w' k h => ⟨fun hC => (fun v w w' k h => by first | exact h | exact h.kept k | exact ⟨h.1, h.2.kept k⟩) v w w' k (h.1 hC), h.2⟩, fun v w w' k h => ⟨fun hC => (fun v w w' k h => by first | exact h | exact h.kept k | exact ⟨h.1, h.2.kept k⟩) v w w' k (h.1 hC), h.2⟩, mono_eq _, trivial⟩) (steps_of ⟨
      (fun aF wF F => by
    have s3 : aF.tmps.getD 3 undef = (.pointer (some ⟨w.heap.size, 0, none⟩)) := F.old 3 (by kernel_rfl)
    exact step_val (by simp [Region.wanted]) (by go_simp) rfl),
      (fun aF wF F => by
    have s16 : aF.tmps.getD 16 undef = (.pointer (some ⟨w.heap.size, 0, none⟩)) := F.done 0 16 (by kernel_rfl) rfl
    exact step_val (by simp [Region.wanted]) (by go_simp) rfl),
      (fun aF wF F => by
    have s17 : aF.tmps.getD 17 undef = (.pointer (some ⟨w.heap.size, 1, none⟩)) := F.done 1 17 (by kernel_rfl) rfl
    have c0 := cell_at HA.out F.kept 1 _ rfl
    exact step_val (by simp [Region.wanted]) (by go_simp) rfl),
      (fun aF wF F => by
    have s18 : aF.tmps.getD 18 undef = (.slice Aa ia ja) := F.done 2 18 (by kernel_rfl) rfl
    exact step_val (by simp [Region.wanted]) (by go_simp) rfl),
      (fun aF wF F => by
    have s19 : aF.tmps.getD 19 undef = (.int .i64 (ia : Int)) := F.done 3 19 (by kernel_rfl) rfl
    exact step_val (by simp [Region.wanted]) (by (go_simp; exact GA.out)) rfl),
      (fun aF wF F => by
    have s20 : aF.tmps.getD 20 undef = (.bool (!fa)) := F.done 4 20 (by kernel_rfl) rfl
    exact step_val (by simp [Region.wanted]) (by go_simp) rfl),
      (fun aF wF F => by
    have sg : aF.tmps.getD 21 undef = (.bool (!fa)) := F.done 5 21 (by kernel_rfl) rfl
    have s3 : aF.tmps.getD 3 undef = (.pointer (some ⟨w.heap.size, 0, none⟩)) := F.old 3 (by kernel_rfl)
    rcases bools fa with hC | hC
    · refine step_imp (V1 := fun _ => (fun v _ => v = (.pointer (some ⟨w.heap.size, 3, none⟩)))) ?_ (fun _ _ h => ⟨fun _ => h, fun hN => absurd (hC.symm.trans hN) (by decide)⟩)
      exact step_val ((wanted_guard rfl rfl sg).trans (by first | rfl | simp [hC])) (by go_simp) rfl
    · exact step_out ((wanted_guard rfl rfl sg).trans (by first | rfl | simp [hC])) ⟨fun h => absurd (hC.symm.trans h) (by decide), fun _ => rfl⟩),
      (fun aF wF F => by
    have sg : aF.tmps.getD 21 undef = (.bool (!fa)) := F.done 5 21 (by kernel_rfl) rfl
    have s22 : (fa = true → aF.tmps.getD 22 undef = (.pointer (some ⟨w.heap.size, 3, none⟩))) ∧ (fa = false → aF.tmps.getD 22 undef = undef) := F.done 6 22 (by kernel_rfl) rfl
    rcases bools fa with hC | hC
    · refine step_imp (V1 := fun _ => (fun v _ => v = (.pointer (some ⟨w.heap.size, 4, none⟩)))) ?_ (fun _ _ h => ⟨fun _ => h, fun hN => absurd (hC.symm.trans hN) (by decide)⟩)
      replace s22 := s22.1 hC
      exact step_val ((wanted_guard rfl rfl sg).trans (by first | rfl | simp [hC])) (by go_simp) rfl
    · exact step_out ((wanted_guard rfl rfl sg).trans (by first | rfl | simp [hC])) ⟨fun h => absurd (hC.symm.trans h) (by decide), fun _ => rfl⟩),
      (fun aF wF F => by
    have sg : aF.tmps.getD 21 undef = (.bool (!fa)) := F.done 5 21 (by kernel_rfl) rfl
    have s23 : (fa = true → aF.tmps.getD 23 undef = (.pointer (some ⟨w.heap.size, 4, none⟩))) ∧ (fa = false → aF.tmps.getD 23 undef = undef) := F.done 7 23 (by kernel_rfl) rfl
    have c0 := cell_at HA.out F.kept 4 _ rfl
    rcases bools fa with hC | hC
    · refine step_imp (V1 := fun _ => (fun v _ => v = (.slice Ba ma na))) ?_ (fun _ _ h => ⟨fun _ => h, fun hN => absurd (hC.symm.trans hN) (by decide)⟩)
      replace s23 := s23.1 hC
      exact step_val ((wanted_guard rfl rfl sg).trans (by first | rfl | simp [hC])) (by go_simp) rfl
    · exact step_out ((wanted_guard rfl rfl sg).trans (by first | rfl | simp [hC])) ⟨fun h => absurd (hC.symm.trans h) (by decide), fun _ => rfl⟩),
      (fun aF wF F => by
    have sg : aF.tmps.getD 21 undef = (.bool (!fa)) := F.done 5 21 (by kernel_rfl) rfl
    have s24 : (fa = true → aF.tmps.getD 24 undef = (.slice Ba ma na)) ∧ (fa = false → aF.tmps.getD 24 undef = undef) := F.done 8 24 (by kernel_rfl) rfl
    rcases bools fa with hC | hC
    · refine step_imp (V1 := fun _ => (fun v _ => v = (.int .i64 (ma : Int)))) ?_ (fun _ _ h => ⟨fun _ => h, fun hN => absurd (hC.symm.trans hN) (by decide)⟩)
      replace s24 := s24.1 hC
      exact step_val ((wanted_guard rfl rfl sg).trans (by first | rfl | simp [hC])) (by go_simp) rfl
    · exact step_out ((wanted_guard rfl rfl sg).trans (by first | rfl | simp [hC])) ⟨fun h => absurd (hC.symm.trans h) (by decide), fun _ => rfl⟩),
      (fun aF wF F => by
    have sg : aF.tmps.getD 21 undef = (.bool (!fa)) := F.done 5 21 (by kernel_rfl) rfl
    have s25 : (fa = true → aF.tmps.getD 25 undef = (.int .i64 (ma : Int))) ∧ (fa = false → aF.tmps.getD 25 undef = undef) := F.done 9 25 (by kernel_rfl) rfl
    rcases bools fa with hC | hC
    · refine step_imp (V1 := fun _ => (fun v _ => v = (.bool (!ea)))) ?_ (fun _ _ h => ⟨fun _ => h, fun hN => absurd (hC.symm.trans hN) (by decide)⟩)
      replace s25 := s25.1 hC
      exact step_val ((wanted_guard rfl rfl sg).trans (by first | rfl | simp [hC])) (by (go_simp; exact EA.out)) rfl
    · exact step_out ((wanted_guard rfl rfl sg).trans (by first | rfl | simp [hC])) ⟨fun h => absurd (hC.symm.trans h) (by decide), fun _ => rfl⟩),
      (fun aF wF F => by
    have s21 : aF.tmps.getD 21 undef = (.bool (!fa)) := F.done 5 21 (by kernel_rfl) rfl
    have s26 : (fa = true → aF.tmps.getD 26 undef = (.bool (!ea))) ∧ (fa = false → aF.tmps.getD 26 undef = undef) := F.done 10 26 (by kernel_rfl) rfl
    rcases bools fa with hE | hE
    · replace s26 := s26.1 hE
      exact step_val (by simp [Region.wanted]) (by first | (go_simp; done) | (go_simp; simp_all; done) | (simp_all; done)) rfl
    · exact step_val (by simp [Region.wanted]) (by first | (go_simp; done) | (go_simp; simp_all; done) | (simp_all; done)) rfl),
      (fun aF wF F => by
    have s27 : aF.tmps.getD 27 undef = (.bool (!(fa && ea))) := F.done 11 27 (by kernel_rfl) rfl
    exact step_val (by simp [Region.wanted]) (by go_simp) rfl),
      (fun aF wF F => by
    have sg : aF.tmps.getD 28 undef = (.bool (!(fa && ea))) := F.done 12 28 (by kernel_rfl) rfl
    have s4 : aF.tmps.getD 4 undef = (.pointer (some ⟨w.heap.size + 1, 0, none⟩)) := F.old 4 (by kernel_rfl)
    rcases bools (fa && ea) with hC | hC
    · refine step_imp (V1 := fun _ => (fun v _ => v = (.pointer (some ⟨w.heap.size + 1, 0, none⟩)))) ?_ (fun _ _ h => ⟨fun _ => h, fun hN => absurd (hC.symm.trans hN) (by decide)⟩)
      exact step_val ((wanted_guard rfl rfl sg).trans (by first | rfl | simp [hC])) (by go_simp) rfl
    · exact step_out ((wanted_guard rfl rfl sg).trans (by first | rfl | simp [hC])) ⟨fun h => absurd (hC.symm.trans h) (by decide), fun _ => rfl⟩),
      (fun aF wF F => by
    have sg : aF.tmps.getD 28 undef = (.bool (!(fa && ea))) := F.done 12 28 (by kernel_rfl) rfl
    have s29 : ((fa && ea) = true → aF.tmps.getD 29 undef = (.pointer (some ⟨w.heap.size + 1, 0, none⟩))) ∧ ((fa && ea) = false → aF.tmps.getD 29 undef = undef) := F.done 13 29 (by kernel_rfl) rfl
    rcases bools (fa && ea) with hC | hC
    · refine step_imp (V1 := fun _ => (fun v _ => v = (.pointer (some ⟨w.heap.size + 1, 1, none⟩)))) ?_ (fun _ _ h => ⟨fun _ => h, fun hN => absurd (hC.symm.trans hN) (by decide)⟩)
      replace s29 := s29.1 hC
      exact step_val ((wanted_guard rfl rfl sg).trans (by first | rfl | simp [hC])) (by go_simp) rfl
    · exact step_out ((wanted_guard rfl rfl sg).trans (by first | rfl | simp [hC])) ⟨fun h => absurd (hC.symm.trans h) (by decide), fun _ => rfl⟩),
      (fun aF wF F => by
    have sg : aF.tmps.getD 28 undef = (.bool (!(fa && ea))) := F.done 12 28 (by kernel_rfl) rfl
    have s30 : ((fa && ea) = true → aF.tmps.getD 30 undef = (.pointer (some ⟨w.heap.size + 1, 1, none⟩))) ∧ ((fa && ea) = false → aF.tmps.getD 30 undef = undef) := F.done 14 30 (by kernel_rfl) rfl
    have c0 := cell_at HB.out F.kept 1 _ rfl
    rcases bools (fa && ea) with hC | hC
    · refine step_imp (V1 := fun _ => (fun v _ => v = (.slice Ab ib jb))) ?_ (fun _ _ h => ⟨fun _ => h, fun hN => absurd (hC.symm.trans hN) (by decide)⟩)
      replace s30 := s30.1 hC
      exact step_val ((wanted_guard rfl rfl sg).trans (by first | rfl | simp [hC])) (by go_simp) rfl
    · exact step_out ((wanted_guard rfl rfl sg).trans (by first | rfl | simp [hC])) ⟨fun h => absurd (hC.symm.trans h) (by decide), fun _ => rfl⟩),
      (fun aF wF F => by
    have sg : aF.tmps.getD 28 undef = (.bool (!(fa && ea))) := F.done 12 28 (by kernel_rfl) rfl
    have s31 : ((fa && ea) = true → aF.tmps.getD 31 undef = (.slice Ab ib jb)) ∧ ((fa && ea) = false → aF.tmps.getD 31 undef = undef) := F.done 15 31 (by kernel_rfl) rfl
    rcases bools (fa && ea) with hC | hC
    · refine step_imp (V1 := fun _ => (fun v _ => v = (.int .i64 (ib : Int)))) ?_ (fun _ _ h => ⟨fun _ => h, fun hN => absurd (hC.symm.trans hN) (by decide)⟩)
      replace s31 := s31.1 hC
      exact step_val ((wanted_guard rfl rfl sg).trans (by first | rfl | simp [hC])) (by go_simp) rfl
    · exact step_out ((wanted_guard rfl rfl sg).trans (by first | rfl | simp [hC])) ⟨fun h => absurd (hC.symm.trans h) (by decide), fun _ => rfl⟩),
      (fun aF wF F => by
    have sg : aF.tmps.getD 28 undef = (.bool (!(fa && ea))) := F.done 12 28 (by kernel_rfl) rfl
    have s32 : ((fa && ea) = true → aF.tmps.getD 32 undef = (.int .i64 (ib : Int))) ∧ ((fa && ea) = false → aF.tmps.getD 32 undef = undef) := F.done 16 32 (by kernel_rfl) rfl
    rcases bools (fa && ea) with hC | hC
    · refine step_imp (V1 := fun _ => (fun v _ => v = (.bool (!fb)))) ?_ (fun _ _ h => ⟨fun _ => h, fun hN => absurd (hC.symm.trans hN) (by decide)⟩)
      replace s32 := s32.1 hC
      exact step_val ((wanted_guard rfl rfl sg).trans (by first | rfl | simp [hC])) (by (go_simp; exact GB.out)) rfl
    · exact step_out ((wanted_guard rfl rfl sg).trans (by first | rfl | simp [hC])) ⟨fun h => absurd (hC.symm.trans h) (by decide), fun _ => rfl⟩),
      (fun aF wF F => by
    have s28 : aF.tmps.getD 28 undef = (.bool (!(fa && ea))) := F.done 12 28 (by kernel_rfl) rfl
    have s33 : ((fa && ea) = true → aF.tmps.getD 33 undef = (.bool (!fb))) ∧ ((fa && ea) = false → aF.tmps.getD 33 undef = undef) := F.done 17 33 (by kernel_rfl) rfl
    rcases bools (fa && ea) with hE | hE
    · replace s33 := s33.1 hE
      exact step_val (by simp [Region.wanted]) (by first | (go_simp; done) | (go_simp; simp_all; done) | (simp_all; done)) rfl
    · exact step_val (by simp [Region.wanted]) (by first | (go_simp; done) | (go_simp; simp_all; done) | (simp_all; done)) rfl),
      (fun aF wF F => by
    have s34 : aF.tmps.getD 34 undef = (.bool (!(fa && ea && fb))) := F.done 18 34 (by kernel_rfl) rfl
    exact step_val (by simp [Region.wanted]) (by go_simp) rfl),
      (fun aF wF F => by
    have sg : aF.tmps.getD 35 undef = (.bool (!(fa && ea && fb))) := F.done 19 35 (by kernel_rfl) rfl
    have s4 : aF.tmps.getD 4 undef = (.pointer (some ⟨w.heap.size + 1, 0, none⟩)) := F.old 4 (by kernel_rfl)
    rcases bools (fa && ea && fb) with hC | hC
    · refine step_imp (V1 := fun _ => (fun v _ => v = (.pointer (some ⟨w.heap.size + 1, 3, none⟩)))) ?_ (fun _ _ h => ⟨fun _ => h, fun hN => absurd (hC.symm.trans hN) (by decide)⟩)
      exact step_val ((wanted_guard rfl rfl sg).trans (by first | rfl | simp [hC])) (by go_simp) rfl
    · exact step_out ((wanted_guard rfl rfl sg).trans (by first | rfl | simp [hC])) ⟨fun h => absurd (hC.symm.trans h) (by decide), fun _ => rfl⟩),
      (fun aF wF F => by
    have sg : aF.tmps.getD 35 undef = (.bool (!(fa && ea && fb))) := F.done 19 35 (by kernel_rfl) rfl
    have s36 : ((fa && ea && fb) = true → aF.tmps.getD 36 undef = (.pointer (some ⟨w.heap.size + 1, 3, none⟩))) ∧ ((fa && ea && fb) = false → aF.tmps.getD 36 undef = undef) := F.done 20 36 (by kernel_rfl) rfl
    rcases bools (fa && ea && fb) with hC | hC
    · refine step_imp (V1 := fun _ => (fun v _ => v = (.pointer (some ⟨w.heap.size + 1, 4, none⟩)))) ?_ (fun _ _ h => ⟨fun _ => h, fun hN => absurd (hC.symm.trans hN) (by decide)⟩)
      replace s36 := s36.1 hC
      exact step_val ((wanted_guard rfl rfl sg).trans (by first | rfl | simp [hC])) (by go_simp) rfl
    · exact step_out ((wanted_guard rfl rfl sg).trans (by first | rfl | simp [hC])) ⟨fun h => absurd (hC.symm.trans h) (by decide), fun _ => rfl⟩),
      (fun aF wF F => by
    have sg : aF.tmps.getD 35 undef = (.bool (!(fa && ea && fb))) := F.done 19 35 (by kernel_rfl) rfl
    have s37 : ((fa && ea && fb) = true → aF.tmps.getD 37 undef = (.pointer (some ⟨w.heap.size + 1, 4, none⟩))) ∧ ((fa && ea && fb) = false → aF.tmps.getD 37 undef = undef) := F.done 21 37 (by kernel_rfl) rfl
    have c0 := cell_at HB.out F.kept 4 _ rfl
    rcases bools (fa && ea && fb) with hC | hC
    · refine step_imp (V1 := fun _ => (fun v _ => v = (.slice Bb mb nb))) ?_ (fun _ _ h => ⟨fun _ => h, fun hN => absurd (hC.symm.trans hN) (by decide)⟩)
      replace s37 := s37.1 hC
      exact step_val ((wanted_guard rfl rfl sg).trans (by first | rfl | simp [hC])) (by go_simp) rfl
    · exact step_out ((wanted_guard rfl rfl sg).trans (by first | rfl | simp [hC])) ⟨fun h => absurd (hC.symm.trans h) (by decide), fun _ => rfl⟩),
      (fun aF wF F => by
    have sg : aF.tmps.getD 35 undef = (.bool (!(fa && ea && fb))) := F.done 19 35 (by kernel_rfl) rfl
    have s38 : ((fa && ea && fb) = true → aF.tmps.getD 38 undef = (.slice Bb mb nb)) ∧ ((fa && ea && fb) = false → aF.tmps.getD 38 undef = undef) := F.done 22 38 (by kernel_rfl) rfl
    rcases bools (fa && ea && fb) with hC | hC
    · refine step_imp (V1 := fun _ => (fun v _ => v = (.int .i64 (mb : Int)))) ?_ (fun _ _ h => ⟨fun _ => h, fun hN => absurd (hC.symm.trans hN) (by decide)⟩)
      replace s38 := s38.1 hC
      exact step_val ((wanted_guard rfl rfl sg).trans (by first | rfl | simp [hC])) (by go_simp) rfl
    · exact step_out ((wanted_guard rfl rfl sg).trans (by first | rfl | simp [hC])) ⟨fun h => absurd (hC.symm.trans h) (by decide), fun _ => rfl⟩),
      (fun aF wF F => by
    have sg : aF.tmps.getD 35 undef = (.bool (!(fa && ea && fb))) := F.done 19 35 (by kernel_rfl) rfl
    have s39 : ((fa && ea && fb) = true → aF.tmps.getD 39 undef = (.int .i64 (mb : Int))) ∧ ((fa && ea && fb) = false → aF.tmps.getD 39 undef = undef) := F.done 23 39 (by kernel_rfl) rfl
    rcases bools (fa && ea && fb) with hC | hC
    · refine step_imp (V1 := fun _ => (fun v _ => v = (.bool (!eb)))) ?_ (fun _ _ h => ⟨fun _ => h, fun hN => absurd (hC.symm.trans hN) (by decide)⟩)
      replace s39 := s39.1 hC
      exact step_val ((wanted_guard rfl rfl sg).trans (by first | rfl | simp [hC])) (by (go_simp; exact EB.out)) rfl
    · exact step_out ((wanted_guard rfl rfl sg).trans (by first | rfl | simp [hC])) ⟨fun h => absurd (hC.symm.trans h) (by decide), fun _ => rfl⟩),
      (fun aF wF F => by
    have s35 : aF.tmps.getD 35 undef = (.bool (!(fa && ea && fb))) := F.done 19 35 (by kernel_rfl) rfl
    have s40 : ((fa && ea && fb) = true → aF.tmps.getD 40 undef = (.bool (!eb))) ∧ ((fa && ea && fb) = false → aF.tmps.getD 40 undef = undef) := F.done 24 40 (by kernel_rfl) rfl
    rcases bools (fa && ea && fb) with hE | hE
    · replace s40 := s40.1 hE
      exact step_val (by simp [Region.wanted]) (by first | (go_simp; done) | (go_simp; simp_all; done) | (simp_all; done)) rfl
    · exact step_val (by simp [Region.wanted]) (by first | (go_simp; done) | (go_simp; simp_all; done) | (simp_all; done)) rfl),
      (fun aF wF F => by
    have s41 : aF.tmps.getD 41 undef = (.bool (!(fa && ea && fb && eb))) := F.done 25 41 (by kernel_rfl) rfl
    exact step_val (by simp [Region.wanted]) (by go_simp) rfl),
      (fun aF wF F => by
    have sg : aF.tmps.getD 42 undef = (.bool (!(fa && ea && fb && eb))) := F.done 26 42 (by kernel_rfl) rfl
    have s3 : aF.tmps.getD 3 undef = (.pointer (some ⟨w.heap.size, 0, none⟩)) := F.old 3 (by kernel_rfl)
    have c0 := cell_at HA.out F.kept 0 _ rfl
    have c1 := cell_at HA.out F.kept 1 _ rfl
    have c2 := cell_at HA.out F.kept 2 _ rfl
    have c3 := cell_at HA.out F.kept 3 _ rfl
    have c4 := cell_at HA.out F.kept 4 _ rfl
    have c5 := cell_at HA.out F.kept 5 _ rfl
    rcases bools (fa && ea && fb && eb) with hC | hC
    · refine step_imp (V1 := fun _ => (fun v _ => v = (.agg #[.bool xa, .slice Aa ia ja, .int .i64 ya, .bool za, .slice Ba ma na, .int .i64 ta]))) ?_ (fun _ _ h => ⟨fun _ => h, fun hN => absurd (hC.symm.trans hN) (by decide)⟩)
      exact step_val ((wanted_guard rfl rfl sg).trans (by first | rfl | simp [hC])) (by go_simp) rfl
    · exact step_out ((wanted_guard rfl rfl sg).trans (by first | rfl | simp [hC])) ⟨fun h => absurd (hC.symm.trans h) (by decide), fun _ => rfl⟩),
      (fun aF wF F => by
    have sg : aF.tmps.getD 42 undef = (.bool (!(fa && ea && fb && eb))) := F.done 26 42 (by kernel_rfl) rfl
    have s43 : ((fa && ea && fb && eb) = true → aF.tmps.getD 43 undef = (.agg #[.bool xa, .slice Aa ia ja, .int .i64 ya, .bool za, .slice Ba ma na, .int .i64 ta])) ∧ ((fa && ea && fb && eb) = false → aF.tmps.getD 43 undef = undef) := F.done 27 43 (by kernel_rfl) rfl
    rcases bools (fa && ea && fb && eb) with hC | hC
    · refine step_imp (V1 := fun _ => (fun v _ => v = (.bool ga))) ?_ (fun _ _ h => ⟨fun _ => h, fun hN => absurd (hC.symm.trans hN) (by decide)⟩)
      replace s43 := s43.1 hC
      exact step_good ((wanted_guard rfl rfl sg).trans (by first | rfl | simp [hC])) (by go_simp) (MA.out _ (K.out.trans F.kept)) (fun _ _ h => RetK.good h) (fun _ _ h => h)
    · exact step_out ((wanted_guard rfl rfl sg).trans (by first | rfl | simp [hC])) ⟨fun h => absurd (hC.symm.trans h) (by decide), fun _ => rfl⟩),
      (fun aF wF F => by
    have sg : aF.tmps.getD 42 undef = (.bool (!(fa && ea && fb && eb))) := F.done 26 42 (by kernel_rfl) rfl
    have s44 : ((fa && ea && fb && eb) = true → aF.tmps.getD 44 undef = (.bool ga)) ∧ ((fa && ea && fb && eb) = false → aF.tmps.getD 44 undef = undef) := F.done 28 44 (by kernel_rfl) rfl
    rcases bools (fa && ea && fb && eb) with hC | hC
    · refine step_imp (V1 := fun _ => (fun v _ => v = (.bool (!ga)))) ?_ (fun _ _ h => ⟨fun _ => h, fun hN => absurd (hC.symm.trans hN) (by decide)⟩)
      replace s44 := s44.1 hC
      exact step_val ((wanted_guard rfl rfl sg).trans (by first | rfl | simp [hC])) (by go_simp) rfl
    · exact step_out ((wanted_guard rfl rfl sg).trans (by first | rfl | simp [hC])) ⟨fun h => absurd (hC.symm.trans h) (by decide), fun _ => rfl⟩),
      (fun aF wF F => by
    have s42 : aF.tmps.getD 42 undef = (.bool (!(fa && ea && fb && eb))) := F.done 26 42 (by kernel_rfl) rfl
    have s45 : ((fa && ea && fb && eb) = true → aF.tmps.getD 45 undef = (.bool (!ga))) ∧ ((fa && ea && fb && eb) = false → aF.tmps.getD 45 undef = undef) := F.done 29 45 (by kernel_rfl) rfl
    rcases bools (fa && ea && fb && eb) with hE | hE
    · replace s45 := s45.1 hE
      exact step_val (by simp [Region.wanted]) (by first | (go_simp; done) | (go_simp; simp_all; done) | (simp_all; done)) rfl
    · exact step_val (by simp [Region.wanted]) (by first | (go_simp; done) | (go_simp; simp_all; done) | (simp_all; done)) rfl),
      (fun aF wF F => by
    have s46 : aF.tmps.getD 46 undef = (.bool (!(fa && ea && fb && eb && ga))) := F.done 30 46 (by kernel_rfl) rfl
    exact step_val (by simp [Region.wanted]) (by go_simp) rfl),
      (fun aF wF F => by
    have sg : aF.tmps.getD 47 undef = (.bool (!(fa && ea && fb && eb && ga))) := F.done 31 47 (by kernel_rfl) rfl
    have s4 : aF.tmps.getD 4 undef = (.pointer (some ⟨w.heap.size + 1, 0, none⟩)) := F.old 4 (by kernel_rfl)
    have c0 := cell_at HB.out F.kept 0 _ rfl
    have c1 := cell_at HB.out F.kept 1 _ rfl
    have c2 := cell_at HB.out F.kept 2 _ rfl
    have c3 := cell_at HB.out F.kept 3 _ rfl
    have c4 := cell_at HB.out F.kept 4 _ rfl
    have c5 := cell_at HB.out F.kept 5 _ rfl
    rcases bools (fa && ea && fb && eb && ga) with hC | hC
    · refine step_imp (V1 := fun _ => (fun v _ => v = (.agg #[.bool xb, .slice Ab ib jb, .int .i64 yb, .bool zb, .slice Bb mb nb, .int .i64 tb]))) ?_ (fun _ _ h => ⟨fun _ => h, fun hN => absurd (hC.symm.trans hN) (by decide)⟩)
      exact step_val ((wanted_guard rfl rfl sg).trans (by first | rfl | simp [hC])) (by go_simp) rfl
    · exact step_out ((wanted_guard rfl rfl sg).trans (by first | rfl | simp [hC])) ⟨fun h => absurd (hC.symm.trans h) (by decide), fun _ => rfl⟩),
      (fun aF wF F => by
    have sg : aF.tmps.getD 47 undef = (.bool (!(fa && ea && fb && eb && ga))) := F.done 31 47 (by kernel_rfl) rfl
    have s48 : ((fa && ea && fb && eb && ga) = true → aF.tmps.getD 48 undef = (.agg #[.bool xb, .slice Ab ib jb, .int .i64 yb, .bool zb, .slice Bb mb nb, .int .i64 tb])) ∧ ((fa && ea && fb && eb && ga) = false → aF.tmps.getD 48 undef = undef) := F.done 32 48 (by kernel_rfl) rfl
    rcases bools (fa && ea && fb && eb && ga) with hC | hC
    · refine step_imp (V1 := fun _ => (fun v _ => v = (.bool gb))) ?_ (fun _ _ h => ⟨fun _ => h, fun hN => absurd (hC.symm.trans hN) (by decide)⟩)
      replace s48 := s48.1 hC
      exact step_good ((wanted_guard rfl rfl sg).trans (by first | rfl | simp [hC])) (by go_simp) (MB.out _ (K.out.trans F.kept)) (fun _ _ h => RetK.good h) (fun _ _ h => h)
    · exact step_out ((wanted_guard rfl rfl sg).trans (by first | rfl | simp [hC])) ⟨fun h => absurd (hC.symm.trans h) (by decide), fun _ => rfl⟩),
      (fun aF wF F => by
    have sg : aF.tmps.getD 47 undef = (.bool (!(fa && ea && fb && eb && ga))) := F.done 31 47 (by kernel_rfl) rfl
    have s49 : ((fa && ea && fb && eb && ga) = true → aF.tmps.getD 49 undef = (.bool gb)) ∧ ((fa && ea && fb && eb && ga) = false → aF.tmps.getD 49 undef = undef) := F.done 33 49 (by kernel_rfl) rfl
    rcases bools (fa && ea && fb && eb && ga) with hC | hC
    · refine step_imp (V1 := fun _ => (fun v _ => v = (.bool (!gb)))) ?_ (fun _ _ h => ⟨fun _ => h, fun hN => absurd (hC.symm.trans hN) (by decide)⟩)
      replace s49 := s49.1 hC
      exact step_val ((wanted_guard rfl rfl sg).trans (by first | rfl | simp [hC])) (by go_simp) rfl
    · exact step_out ((wanted_guard rfl rfl sg).trans (by first | rfl | simp [hC])) ⟨fun h => absurd (hC.symm.trans h) (by decide), fun _ => rfl⟩),
      (fun aF wF F => by
    have s47 : aF.tmps.getD 47 undef = (.bool (!(fa && ea && fb && eb && ga))) := F.done 31 47 (by kernel_rfl) rfl
    have s50 : ((fa && ea && fb && eb && ga) = true → aF.tmps.getD 50 undef = (.bool (!gb))) ∧ ((fa && ea && fb && eb && ga) = false → aF.tmps.getD 50 undef = undef) := F.done 34 50 (by kernel_rfl) rfl
    rcases bools (fa && ea && fb && eb && ga) with hE | hE
    · replace s50 := s50.1 hE
      exact step_val (by simp [Region.wanted]) (by first | (go_simp; done) | (go_simp; simp_all; done) | (simp_all; done)) rfl
    · exact step_val (by simp [Region.wanted]) (by first | (go_simp; done) | (go_simp; simp_all; done) | (simp_all; done)) rfl),
      trivial⟩) ?_
  intro u w1 k1 hu
  have e16 : u 0 = (.pointer (some ⟨w.heap.size, 0, none⟩)) := hu 0 (by decide)
  have e17 : u 1 = (.pointer (some ⟨w.heap.size, 1, none⟩)) := hu 1 (by decide)
  have e18 : u 2 = (.slice Aa ia ja) := hu 2 (by decide)
  have e19 : u 3 = (.int .i64 (ia : Int)) := hu 3 (by decide)
  have e20 : u 4 = (.bool (!fa)) := hu 4 (by decide)
  have e21 : u 5 = (.bool (!fa)) := hu 5 (by decide)
  have p22 := hu 6 (by decide)
  have p23 := hu 7 (by decide)
  have p24 := hu 8 (by decide)
  have p25 := hu 9 (by decide)
  have p26 := hu 10 (by decide)
  have e27 : u 11 = (.bool (!(fa && ea))) := hu 11 (by decide)
  have e28 : u 12 = (.bool (!(fa && ea))) := hu 12 (by decide)
  have p29 := hu 13 (by decide)
  have p30 := hu 14 (by decide)
  have p31 := hu 15 (by decide)
  have p32 := hu 16 (by decide)
  have p33 := hu 17 (by decide)
  have e34 : u 18 = (.bool (!(fa && ea && fb))) := hu 18 (by decide)
  have e35 : u 19 = (.bool (!(fa && ea && fb))) := hu 19 (by decide)
  have p36 := hu 20 (by decide)
  have p37 := hu 21 (by decide)
  have p38 := hu 22 (by decide)
  have p39 := hu 23 (by decide)
  have p40 := hu 24 (by decide)
  have e41 : u 25 = (.bool (!(fa && ea && fb && eb))) := hu 25 (by decide)
  have e42 : u 26 = (.bool (!(fa && ea && fb && eb))) := hu 26 (by decide)
  have p43 := hu 27 (by decide)
  have p44 := hu 28 (by decide)
  have p45 := hu 29 (by decide)
  have e46 : u 30 = (.bool (!(fa && ea && fb && eb && ga))) := hu 30 (by decide)
  have e47 : u 31 = (.bool (!(fa && ea && fb && eb && ga))) := hu 31 (by decide)
  have p48 := hu 32 (by decide)
  have p49 := hu 33 (by decide)
  have p50 := hu 34 (by decide)
  have e51 : u 35 = (.bool (!(fa && ea && fb && eb && ga && gb))) := hu 35 (by decide)
  clear hu
  simp only [puts, slotOf, if_true, Act.put, List.setIfInBounds_toArray, List.set_cons_zero, List.set_cons_succ, List.getElem?_toArray, List.getElem?_cons_zero, List.getElem?_cons_succ, Option.bind_some, e16, e17, e18, e19, e20, e21, e27, e28, e34, e35, e41, e42, e46, e47, e51]
  clear e16 e17 e18 e19 e20 e21 e27 e28 e34 e35 e41 e42 e46 e47 e51
  generalize u 6 = v22 at *
  try simp only [VL, List.getD_cons_zero, List.getD_cons_succ] at p22
  generalize u 7 = v23 at *
  try simp only [VL, List.getD_cons_zero, List.getD_cons_succ] at p23
  generalize u 8 = v24 at *
  try simp only [VL, List.getD_cons_zero, List.getD_cons_succ] at p24
  generalize u 9 = v25 at *
  try simp only [VL, List.getD_cons_zero, List.getD_cons_succ] at p25
  generalize u 10 = v26 at *
  try simp only [VL, List.getD_cons_zero, List.getD_cons_succ] at p26
  generalize u 13 = v29 at *
  try simp only [VL, List.getD_cons_zero, List.getD_cons_succ] at p29
  generalize u 14 = v30 at *
  try simp only [VL, List.getD_cons_zero, List.getD_cons_succ] at p30
  generalize u 15 = v31 at *
  try simp only [VL, List.getD_cons_zero, List.getD_cons_succ] at p31
  generalize u 16 = v32 at *
  try simp only [VL, List.getD_cons_zero, List.getD_cons_succ] at p32
  generalize u 17 = v33 at *
  try simp only [VL, List.getD_cons_zero, List.getD_cons_succ] at p33
  generalize u 20 = v36 at *
  try simp only [VL, List.getD_cons_zero, List.getD_cons_succ] at p36
  generalize u 21 = v37 at *
  try simp only [VL, List.getD_cons_zero, List.getD_cons_succ] at p37
  generalize u 22 = v38 at *
  try simp only [VL, List.getD_cons_zero, List.getD_cons_succ] at p38
  generalize u 23 = v39 at *
  try simp only [VL, List.getD_cons_zero, List.getD_cons_succ] at p39
  generalize u 24 = v40 at *
  try simp only [VL, List.getD_cons_zero, List.getD_cons_succ] at p40
  generalize u 27 = v43 at *
  try simp only [VL, List.getD_cons_zero, List.getD_cons_succ] at p43
  generalize u 28 = v44 at *
  try simp only [VL, List.getD_cons_zero, List.getD_cons_succ] at p44
  generalize u 29 = v45 at *
  try simp only [VL, List.getD_cons_zero, List.getD_cons_succ] at p45
  generalize u 32 = v48 at *
  try simp only [VL, List.getD_cons_zero, List.getD_cons_succ] at p48
  generalize u 33 = v49 at *
  try simp only [VL, List.getD_cons_zero, List.getD_cons_succ] at p49
  generalize u 34 = v50 at *
  try simp only [VL, List.getD_cons_zero, List.getD_cons_succ] at p50
  clear p22 p23 p24 p25 p26 p29 p30 p31 p32 p33 p36 p37 p38 p39 p40 p43 p44 p45 p48 p49 p50 MA MB GA EA GB EB
  replace K := Lib.hid (K.out.trans k1)
  replace HA := Lib.hid (HA.out.kept k1)
  replace HB := Lib.hid (HB.out.kept k1)
  rcases (bools (fa && ea && fb && eb && ga && gb)).symm with hg | hg
  · rw [hg]
    go_wp2_with fail
    refine (told_c (T.out.kept K.out)).mono ?_
    rintro e w2 ⟨rfl, q⟩
    simp only []
    go_wp2_with fail
    go_ret
    exact ⟨rfl, K.out.trans q⟩
  rw [hg]
  simp only [Bool.and_eq_true] at hg
  obtain ⟨⟨-, g1⟩, g2⟩ := hg
  obtain ⟨oa, ra⟩ := CA.out g1
  have IA := Lib.hid (fun w1 (k : Kept w w1) => show IvC w1 (.agg #[.bool xa, .slice Aa ia ja, .int .i64 ya, .bool za, .slice Ba ma na, .int .i64 ta]) a.iv by unfold IvC; rw [ra]; exact ⟨_, _, _, _, _, _, rfl, SA.out.kept k, RA.out.kept k⟩)
  generalize a.iv = a at *
  clear g1 CA SA RA ra
  obtain ⟨ob, rb⟩ := CB.out g2
  have IB := Lib.hid (fun w1 (k : Kept w w1) => show IvC w1 (.agg #[.bool xb, .slice Ab ib jb, .int .i64 yb, .bool zb, .slice Bb mb nb, .int .i64 tb]) b.iv by unfold IvC; rw [rb]; exact ⟨_, _, _, _, _, _, rfl, SB.out.kept k, RB.out.kept k⟩)
  generalize b.iv = b at *
  clear g2 CB SB RB rb
  obtain ⟨n, hn, m1, m2⟩ := n_of p 2 149 (by decide) (by decide)
  have o1n : 1 ≤ n := by omega
  have o2n : n ≤ 2000 := by omega
  have hn' : wrap64 (2 + wrap64 ((IntKind.u64.wrap p).tmod 149)) = (n : Int) := hn
  clear hn m1 m2
  obtain ⟨o1, ho1⟩ : ∃ o, o = rawO (divI a b n) := ⟨_, rfl⟩
  obtain ⟨o2, ho2⟩ : ∃ o, o = rawO (mulI (divI a b n).v b n) := ⟨_, rfl⟩
  obtain ⟨o3, ho3⟩ : ∃ o, o = rawO (sqrtI a n) := ⟨_, rfl⟩
  obtain ⟨o4, ho4⟩ : ∃ o, o = rawO (sqrI (sqrtI a n).v n) := ⟨_, rfl⟩
  have u1 := (divI_ok (a := a) ob o1n).1
  have u3 := (sqrtI_ok oa o1n).1
  have C1 := Lib.hid (fun w1 (k : Kept w w1) => show Calls _ _ _ w1 (RetIE o1 w1) by rw [ho1]; exact Div_k (IA.out _ k) (IB.out _ k) oa ob (T.out.kept k) o1n o2n)
  have C2 := Lib.hid (fun w1 v (k : Kept w w1) (hv : IvR w1 v o1.v) => show Calls _ _ _ w1 (RetIE o2 w1) by rw [ho2]; rw [ho1] at hv; exact Mul_k hv (IB.out _ k) u1 ob (T.out.kept k) o1n o2n)
  have C3 := Lib.hid (fun w1 (k : Kept w w1) => show Calls _ _ _ w1 (RetIE o3 w1) by rw [ho3]; exact Sqrt_k (IA.out _ k) oa (T.out.kept k) o1n o2n)
  have C4 := Lib.hid (fun w1 v (k : Kept w w1) (hv : IvR w1 v o3.v) => show Calls _ _ _ w1 (RetIE o4 w1) by rw [ho4]; rw [ho3] at hv; exact Sqr_k hv u3 (T.out.kept k) o1n o2n)
  obtain ⟨z2, hz2⟩ : ∃ z, decide (o2.k = 0) = z := ⟨_, rfl⟩
  obtain ⟨z4, hz4⟩ : ∃ z, decide (o4.k = 0) = z := ⟨_, rfl⟩
  have Q2 := Lib.hid hz2
  have Q4 := Lib.hid hz4
  have CW := Lib.hid (fun (h1 : o1.k = 0) (hz : z2 = true) w1 u (k : Kept w w1) (hu : IvR w1 u o2.v) => show Calls Tryd.prog 19 #[.agg #[.bool xa, .slice Aa ia ja, .int .i64 ya, .bool za, .slice Ba ma na, .int .i64 ta], u] w1 (RetK (.bool true) w1) by
    rw [← hz2] at hz
    simp only [decide_eq_true_eq] at hz
    rw [ho2] at hu hz
    rw [ho1] at h1
    exact withinT (IA.out _ k) hu oa (mulI_ok o1n).1 (undo_div oa ob o1n h1 hz))
  have CV := Lib.hid (fun (h1 : o3.k = 0) (hz : z4 = true) w1 u (k : Kept w w1) (hu : IvR w1 u o4.v) => show Calls Tryd.prog 19 #[.agg #[.bool xa, .slice Aa ia ja, .int .i64 ya, .bool za, .slice Ba ma na, .int .i64 ta], u] w1 (RetK (.bool true) w1) by
    rw [← hz4] at hz
    simp only [decide_eq_true_eq] at hz
    rw [ho4] at hu hz
    rw [ho3] at h1
    exact withinT (IA.out _ k) hu oa (sqrI_ok o1n).1 (undo_sqrt oa o1n h1 hz))
  have D1 : Hid (o1.k = 0 ∨ o1.k = 3 ∨ (o1.k = 4 ∧ hasZero b = true)) := by rw [ho1]; exact divI_kind a b o2n
  have D3 : Hid (o3.k = 0 ∨ o3.k = 3 ∨ (o3.k = 4 ∧ sg a.lo < 0)) := by rw [ho3]; exact sqrtI_kind a o2n
  have CH := Lib.hid (fun (hz : hasZero b = true) w1 (k : Kept w w1) => show Calls Tryd.prog 20 #[.agg #[.bool xb, .slice Ab ib jb, .int .i64 yb, .bool zb, .slice Bb mb nb, .int .i64 tb], .agg #[.bool false, .slice none 0 0, .int .i64 0]] w1 (RetK (.bool true) w1) by
    have h := has_c (u := .agg #[.bool false, .slice none 0 0, .int .i64 0]) (IB.out _ k) (by rw [dz_raw]; exact dyR_zero _) ob dz_ok
    have hhas : hasI b dz = true := by rw [← hz]; unfold hasI hasZero; rw [dz_q]
    rwa [hhas] at h)
  obtain ⟨g, hg⟩ : ∃ g, g = sg a.lo := ⟨_, rfl⟩
  rw [← hg] at D3
  have CS := Lib.hid (fun w1 (k : Kept w w1) => show Calls Tryd.prog 22 #[.agg #[.bool xa, .slice Aa ia ja, .int .i64 ya]] w1 (RetK (.int .i64 g) w1) by
    obtain ⟨_, _, _, _, _, _, hh, y1, y2⟩ := IA.out w1 k
    simp only [Value.agg.injEq, List.cons.injEq, Array.mk.injEq, and_true] at hh
    obtain ⟨rfl, rfl, rfl, rfl, rfl, rfl⟩ := hh
    have h := dsign_c y1 (iv_lens oa).1
    rw [hg]
    rwa [show a.raw.lo = a.lo.raw from rfl, sgnR_raw _ oa.lo] at h)
  clear ho1 ho2 ho3 ho4 IA IB oa ob o1n o2n hz2 hz4 u1 u3 hg
  obtain ⟨-, c0, c1, c2, c3, c4, c5⟩ := HA.out.facts
  obtain ⟨-, d0, d1, d2, d3, d4, d5⟩ := HB.out.facts
  go_wp2_with fail
  refine (C1.out _ K.out).mono ?_
  rintro e w1 ⟨q, u, rfl, hd⟩
  obtain ⟨PQ, pQ, qQ, RQ, rQ, sQ, rfl, z1, z2⟩ := ivR_split hd
  simp only []
  obtain ⟨V, hV, kV, hb, lV⟩ := boxG w1 (.bool o1.v.lo.neg) (.slice PQ pQ qQ) (.int .i64 o1.v.lo.e) (.bool o1.v.hi.neg) (.slice RQ rQ sQ) (.int .i64 o1.v.hi.e)
  have HV := Lib.hid hV
  have kk := q.trans kV
  skip
  replace K := Lib.hid (K.out.trans kk)
  replace HA := Lib.hid (HA.out.kept kk); replace HB := Lib.hid (HB.out.kept kk)
  have HQ := Lib.hid hb
  have ZQ := Lib.hid (And.intro (z1.kept kV) (z2.kept kV))
  clear hV kV hb lV kk q hd z1 z2 c0 c1 c2 c3 c4 c5 d0 d1 d2 d3 d4 d5
  go_upto_region 5 with fail
  rw [← HV.out]
  clear HV
  generalize w1.heap.size = bQ at *
  rcases D1.out with h0 | h0 | ⟨h0, hz⟩
  · rw [h0]
    have CW0 := Lib.hid (CW.out h0)
    clear h0
    go_upto_region 6 with fail
    obtain ⟨-, c0, c1, c2, c3, c4, c5⟩ := HQ.out.facts
    obtain ⟨-, d0, d1, d2, d3, d4, d5⟩ := HB.out.facts
    go_wp2_with fail
    refine (C2.out _ _ K.out ⟨_, _, _, _, _, _, rfl, ZQ.out.1, ZQ.out.2⟩).mono ?_
    rintro e w1 ⟨q, u, rfl, hd⟩
    obtain ⟨PM, pM, qM, RM, rM, sM, rfl, z1, z2⟩ := ivR_split hd
    simp only []
    obtain ⟨V, hV, kV, hb, lV⟩ := boxG w1 (.bool o2.v.lo.neg) (.slice PM pM qM) (.int .i64 o2.v.lo.e) (.bool o2.v.hi.neg) (.slice RM rM sM) (.int .i64 o2.v.hi.e)
    have HV := Lib.hid hV
    have kk := q.trans kV
    skip
    replace K := Lib.hid (K.out.trans kk)
    replace HA := Lib.hid (HA.out.kept kk); replace HB := Lib.hid (HB.out.kept kk)
    have HM := Lib.hid hb
    have ZM := Lib.hid (And.intro (z1.kept kV) (z2.kept kV))
    clear hV kV hb lV kk q hd z1 z2 c0 c1 c2 c3 c4 c5 d0 d1 d2 d3 d4 d5
    go_upto_region 7 with fail
    rw [← HV.out]
    clear HV
    generalize w1.heap.size = bM at *
    refine region_seq (m := 8) (V := VL [
        (fun v _ => v = .int .i64 o2.k),
        (fun v _ => v = (.bool z2)),
        (fun v _ => v = (.bool z2)),
        (fun v wv => (z2 = true → (fun v _ => v = (.agg #[.bool xa, .slice Aa ia ja, .int .i64 ya, .bool za, .slice Ba ma na, .int .i64 ta])) v wv) ∧ (z2 = false → v = undef)),
        (fun v wv => (z2 = true → (fun v _ => v = (.agg #[.bool o2.v.lo.neg, .slice PM pM qM, .int .i64 o2.v.lo.e, .bool o2.v.hi.neg, .slice RM rM sM, .int .i64 o2.v.hi.e])) v wv) ∧ (z2 = false → v = undef)),
        (fun v wv => (z2 = true → (fun v _ => v = (.bool true)) v wv) ∧ (z2 = false → v = undef)),
        (fun v wv => (z2 = true → (fun v _ => v = (.bool false)) v wv) ∧ (z2 = false → v = undef)),
        (fun v _ => v = (.bool false))])
      rfl (by kernel_rfl) (by kernel_rfl) (by kernel_rfl) (mono_of _ ⟨mono_eq _, mono_eq _, mono_eq _, fun v w w' k h => ⟨fun hC => (fun v w w' k h => by first | exact h | exact h.kept k | exact ⟨h.1, h.2.kept k⟩) v w w' k (h.1 hC), h.2⟩, fun v w w' k h => ⟨fun hC => (fun v w w' k h => by first | exact h | exact h.kept k | exact ⟨h.1, h.2.kept k⟩) v w w' k (h.1 hC), h.2⟩, fun v w w' k h => ⟨fun hC => (fun v w w' k h => by first | exact h | exact h.kept k | exact ⟨h.1, h.2.kept k⟩) v w w' k (h.1 hC), h.2⟩, fun v w w' k h => ⟨fun hC => (fun v w w' k h => by first | exact h | exact h.kept k | exact ⟨h.1, h.2.kept k⟩) v w w' k (h.1 hC), h.2⟩, mono_eq _, trivial⟩) (steps_of ⟨
        (fun aF wF F => by
      have s11 : aF.tmps.getD 11 undef = .int .i64 o2.k := F.old 11 (by kernel_rfl)
      exact step_val (by simp [Region.wanted]) (by go_simp) rfl),
        (fun aF wF F => by
      have s74 : aF.tmps.getD 74 undef = .int .i64 o2.k := F.done 0 74 (by kernel_rfl) rfl
      exact step_val (by simp [Region.wanted]) (by (go_simp; exact Q2.out)) rfl),
        (fun aF wF F => by
      have s75 : aF.tmps.getD 75 undef = (.bool z2) := F.done 1 75 (by kernel_rfl) rfl
      exact step_val (by simp [Region.wanted]) (by go_simp) rfl),
        (fun aF wF F => by
      have sg : aF.tmps.getD 76 undef = (.bool z2) := F.done 2 76 (by kernel_rfl) rfl
      have s3 : aF.tmps.getD 3 undef = (.pointer (some ⟨w.heap.size, 0, none⟩)) := F.old 3 (by kernel_rfl)
      have c0 := cell_at HA.out F.kept 0 _ rfl
      have c1 := cell_at HA.out F.kept 1 _ rfl
      have c2 := cell_at HA.out F.kept 2 _ rfl
      have c3 := cell_at HA.out F.kept 3 _ rfl
      have c4 := cell_at HA.out F.kept 4 _ rfl
      have c5 := cell_at HA.out F.kept 5 _ rfl
      rcases bools z2 with hC | hC
      · refine step_imp (V1 := fun _ => (fun v _ => v = (.agg #[.bool xa, .slice Aa ia ja, .int .i64 ya, .bool za, .slice Ba ma na, .int .i64 ta]))) ?_ (fun _ _ h => ⟨fun _ => h, fun hN => absurd (hC.symm.trans hN) (by decide)⟩)
        exact step_val ((wanted_guard rfl rfl sg).trans (by first | rfl | simp [hC])) (by go_simp) rfl
      · exact step_out ((wanted_guard rfl rfl sg).trans (by first | rfl | simp [hC])) ⟨fun h => absurd (hC.symm.trans h) (by decide), fun _ => rfl⟩),
        (fun aF wF F => by
      have sg : aF.tmps.getD 76 undef = (.bool z2) := F.done 2 76 (by kernel_rfl) rfl
      have s10 : aF.tmps.getD 10 undef = (.pointer (some ⟨bM, 0, none⟩)) := F.old 10 (by kernel_rfl)
      have c0 := cell_at HM.out F.kept 0 _ rfl
      have c1 := cell_at HM.out F.kept 1 _ rfl
      have c2 := cell_at HM.out F.kept 2 _ rfl
      have c3 := cell_at HM.out F.kept 3 _ rfl
      have c4 := cell_at HM.out F.kept 4 _ rfl
      have c5 := cell_at HM.out F.kept 5 _ rfl
      rcases bools z2 with hC | hC
      · refine step_imp (V1 := fun _ => (fun v _ => v = (.agg #[.bool o2.v.lo.neg, .slice PM pM qM, .int .i64 o2.v.lo.e, .bool o2.v.hi.neg, .slice RM rM sM, .int .i64 o2.v.hi.e]))) ?_ (fun _ _ h => ⟨fun _ => h, fun hN => absurd (hC.symm.trans hN) (by decide)⟩)
        exact step_val ((wanted_guard rfl rfl sg).trans (by first | rfl | simp [hC])) (by go_simp) rfl
      · exact step_out ((wanted_guard rfl rfl sg).trans (by first | rfl | simp [hC])) ⟨fun h => absurd (hC.symm.trans h) (by decide), fun _ => rfl⟩),
        (fun aF wF F => by
      have sg : aF.tmps.getD 76 undef = (.bool z2) := F.done 2 76 (by kernel_rfl) rfl
      have s77 : (z2 = true → aF.tmps.getD 77 undef = (.agg #[.bool xa, .slice Aa ia ja, .int .i64 ya, .bool za, .slice Ba ma na, .int .i64 ta])) ∧ (z2 = false → aF.tmps.getD 77 undef = undef) := F.done 3 77 (by kernel_rfl) rfl
      have s78 : (z2 = true → aF.tmps.getD 78 undef = (.agg #[.bool o2.v.lo.neg, .slice PM pM qM, .int .i64 o2.v.lo.e, .bool o2.v.hi.neg, .slice RM rM sM, .int .i64 o2.v.hi.e])) ∧ (z2 = false → aF.tmps.getD 78 undef = undef) := F.done 4 78 (by kernel_rfl) rfl
      rcases bools z2 with hC | hC
      · refine step_imp (V1 := fun _ => (fun v _ => v = (.bool true))) ?_ (fun _ _ h => ⟨fun _ => h, fun hN => absurd (hC.symm.trans hN) (by decide)⟩)
        replace s77 := s77.1 hC
        replace s78 := s78.1 hC
        exact step_good ((wanted_guard rfl rfl sg).trans (by first | rfl | simp [hC])) (by go_simp) (CW0.out hC _ _ (K.out.trans F.kept) ⟨_, _, _, _, _, _, rfl, ZM.out.1.kept F.kept, ZM.out.2.kept F.kept⟩) (fun _ _ h => RetK.good h) (fun _ _ h => h)
      · exact step_out ((wanted_guard rfl rfl sg).trans (by first | rfl | simp [hC])) ⟨fun h => absurd (hC.symm.trans h) (by decide), fun _ => rfl⟩),
        (fun aF wF F => by
      have sg : aF.tmps.getD 76 undef = (.bool z2) := F.done 2 76 (by kernel_rfl) rfl
      have s79 : (z2 = true → aF.tmps.getD 79 undef = (.bool true)) ∧ (z2 = false → aF.tmps.getD 79 undef = undef) := F.done 5 79 (by kernel_rfl) rfl
      rcases bools z2 with hC | hC
      · refine step_imp (V1 := fun _ => (fun v _ => v = (.bool false))) ?_ (fun _ _ h => ⟨fun _ => h, fun hN => absurd (hC.symm.trans hN) (by decide)⟩)
        replace s79 := s79.1 hC
        exact step_val ((wanted_guard rfl rfl sg).trans (by first | rfl | simp [hC])) (by go_simp) rfl
      · exact step_out ((wanted_guard rfl rfl sg).trans (by first | rfl | simp [hC])) ⟨fun h => absurd (hC.symm.trans h) (by decide), fun _ => rfl⟩),
        (fun aF wF F => by
      have s76 : aF.tmps.getD 76 undef = (.bool z2) := F.done 2 76 (by kernel_rfl) rfl
      have s80 : (z2 = true → aF.tmps.getD 80 undef = (.bool false)) ∧ (z2 = false → aF.tmps.getD 80 undef = undef) := F.done 6 80 (by kernel_rfl) rfl
      rcases bools z2 with hE | hE
      · replace s80 := s80.1 hE
        exact step_val (by simp [Region.wanted]) (by first | (go_simp; done) | (go_simp; simp_all; done) | (simp_all; done)) rfl
      · exact step_val (by simp [Region.wanted]) (by first | (go_simp; done) | (go_simp; simp_all; done) | (simp_all; done)) rfl),
        trivial⟩) ?_
    intro u w1 k1 hu
    have e74 : u 0 = .int .i64 o2.k := hu 0 (by decide)
    have e75 : u 1 = (.bool z2) := hu 1 (by decide)
    have e76 : u 2 = (.bool z2) := hu 2 (by decide)
    have p77 := hu 3 (by decide)
    have p78 := hu 4 (by decide)
    have p79 := hu 5 (by decide)
    have p80 := hu 6 (by decide)
    have e81 : u 7 = (.bool false) := hu 7 (by decide)
    clear hu
    simp only [puts, slotOf, if_true, Act.put, List.setIfInBounds_toArray, List.set_cons_zero, List.set_cons_succ, List.getElem?_toArray, List.getElem?_cons_zero, List.getElem?_cons_succ, Option.bind_some, e74, e75, e76, e81]
    clear e74 e75 e76 e81
    generalize u 3 = v77 at *
    try simp only [VL, List.getD_cons_zero, List.getD_cons_succ] at p77
    generalize u 4 = v78 at *
    try simp only [VL, List.getD_cons_zero, List.getD_cons_succ] at p78
    generalize u 5 = v79 at *
    try simp only [VL, List.getD_cons_zero, List.getD_cons_succ] at p79
    generalize u 6 = v80 at *
    try simp only [VL, List.getD_cons_zero, List.getD_cons_succ] at p80
    clear p77 p78 p79 p80
    replace K := Lib.hid (K.out.trans k1)
    replace HA := Lib.hid (HA.out.kept k1)
    clear k1 HB HM ZM HQ ZQ CW0 CW CH C1 C2
    go_upto_region 11 with fail
    obtain ⟨-, c0, c1, c2, c3, c4, c5⟩ := HA.out.facts
    go_wp2_with fail
    refine (C3.out _ K.out).mono ?_
    rintro e w1 ⟨q, u, rfl, hd⟩
    obtain ⟨PR, pR, qR, RR, rR, sR, rfl, z1, z2⟩ := ivR_split hd
    simp only []
    obtain ⟨V, hV, kV, hb, lV⟩ := boxG w1 (.bool o3.v.lo.neg) (.slice PR pR qR) (.int .i64 o3.v.lo.e) (.bool o3.v.hi.neg) (.slice RR rR sR) (.int .i64 o3.v.hi.e)
    have HV := Lib.hid hV
    have kk := q.trans kV
    skip
    replace K := Lib.hid (K.out.trans kk)
    replace HA := Lib.hid (HA.out.kept kk)
    have HR := Lib.hid hb
    have ZR := Lib.hid (And.intro (z1.kept kV) (z2.kept kV))
    clear hV kV hb lV kk q hd z1 z2 c0 c1 c2 c3 c4 c5
    go_upto_region 12 with fail
    rw [← HV.out]
    clear HV
    generalize w1.heap.size = bR at *
    rcases D3.out with h0 | h0 | ⟨h0, hs⟩
    · rw [h0]
      have CV0 := Lib.hid (CV.out h0)
      clear h0
      go_upto_region 14 with fail
      obtain ⟨-, c0, c1, c2, c3, c4, c5⟩ := HR.out.facts
      go_wp2_with fail
      refine (C4.out _ _ K.out ⟨_, _, _, _, _, _, rfl, ZR.out.1, ZR.out.2⟩).mono ?_
      rintro e w1 ⟨q, u, rfl, hd⟩
      obtain ⟨PS, pS, qS, RS, rS, sS, rfl, z1, z2⟩ := ivR_split hd
      simp only []
      obtain ⟨V, hV, kV, hb, lV⟩ := boxG w1 (.bool o4.v.lo.neg) (.slice PS pS qS) (.int .i64 o4.v.lo.e) (.bool o4.v.hi.neg) (.slice RS rS sS) (.int .i64 o4.v.hi.e)
      have HV := Lib.hid hV
      have kk := q.trans kV
      skip
      replace K := Lib.hid (K.out.trans kk)
      replace HA := Lib.hid (HA.out.kept kk)
      have HS := Lib.hid hb
      have ZS := Lib.hid (And.intro (z1.kept kV) (z2.kept kV))
      clear hV kV hb lV kk q hd z1 z2 c0 c1 c2 c3 c4 c5
      go_upto_region 15 with fail
      rw [← HV.out]
      clear HV
      generalize w1.heap.size = bS at *
      refine region_seq (m := 11) (V := VL [
          (fun v _ => v = (.bool true)),
          (fun v _ => v = (.bool true)),
          (fun v _ => v = .int .i64 o4.k),
          (fun v _ => v = (.bool (!z4))),
          (fun v _ => v = (.bool (!z4))),
          (fun v wv => (z4 = true → (fun v _ => v = (.agg #[.bool xa, .slice Aa ia ja, .int .i64 ya, .bool za, .slice Ba ma na, .int .i64 ta])) v wv) ∧ (z4 = false → v = undef)),
          (fun v wv => (z4 = true → (fun v _ => v = (.agg #[.bool o4.v.lo.neg, .slice PS pS qS, .int .i64 o4.v.lo.e, .bool o4.v.hi.neg, .slice RS rS sS, .int .i64 o4.v.hi.e])) v wv) ∧ (z4 = false → v = undef)),
          (fun v wv => (z4 = true → (fun v _ => v = (.bool true)) v wv) ∧ (z4 = false → v = undef)),
          (fun v _ => v = (.bool true)),
          (fun v _ => v = (.bool true)),
          (fun v _ => v = (.bool true))])
        rfl (by kernel_rfl) (by kernel_rfl) (by kernel_rfl) (mono_of _ ⟨mono_eq _, mono_eq _, mono_eq _, mono_eq _, mono_eq _, fun v w w' k h => ⟨fun hC => (fun v w w' k h => by first | exact h | exact h.kept k | exact ⟨h.1, h.2.kept k⟩) v w w' k (h.1 hC), h.2⟩, fun v w w' k h => ⟨fun hC => (fun v w w' k h => by first | exact h | exact h.kept k | exact ⟨h.1, h.2.kept k⟩) v w w' k (h.1 hC), h.2⟩, fun v w w' k h => ⟨fun hC => (fun v w w' k h => by first | exact h | exact h.kept k | exact ⟨h.1, h.2.kept k⟩) v w w' k (h.1 hC), h.2⟩, mono_eq _, mono_eq _, mono_eq _, trivial⟩) (steps_of ⟨
          (fun aF wF F => by
        exact step_good (by simp [Region.wanted]) (by go_simp) (told_c (T.out.kept (K.out.trans F.kept))) (fun _ _ h => RetK.good h) (fun _ _ h => h)),
          (fun aF wF F => by
        have s127 : aF.tmps.getD 127 undef = (.bool true) := F.done 0 127 (by kernel_rfl) rfl
        exact step_val (by simp [Region.wanted]) (by go_simp) rfl),
          (fun aF wF F => by
        have s15 : aF.tmps.getD 15 undef = .int .i64 o4.k := F.old 15 (by kernel_rfl)
        have sg : aF.tmps.getD 128 undef = (.bool true) := F.done 1 128 (by kernel_rfl) rfl
        exact step_val ((wanted_guard rfl rfl sg).trans rfl) (by go_simp) rfl),
          (fun aF wF F => by
        have s129 : aF.tmps.getD 129 undef = .int .i64 o4.k := F.done 2 129 (by kernel_rfl) rfl
        have sg : aF.tmps.getD 128 undef = (.bool true) := F.done 1 128 (by kernel_rfl) rfl
        exact step_val ((wanted_guard rfl rfl sg).trans rfl) (by (go_simp; first | exact congrArg _ Q4.out | (have hq := Q4.out; grind))) rfl),
          (fun aF wF F => by
        have s130 : aF.tmps.getD 130 undef = (.bool (!z4)) := F.done 3 130 (by kernel_rfl) rfl
        have sg : aF.tmps.getD 128 undef = (.bool true) := F.done 1 128 (by kernel_rfl) rfl
        exact step_val ((wanted_guard rfl rfl sg).trans rfl) (by go_simp) rfl),
          (fun aF wF F => by
        have sg : aF.tmps.getD 131 undef = (.bool (!z4)) := F.done 4 131 (by kernel_rfl) rfl
        have s3 : aF.tmps.getD 3 undef = (.pointer (some ⟨w.heap.size, 0, none⟩)) := F.old 3 (by kernel_rfl)
        have c0 := cell_at HA.out F.kept 0 _ rfl
        have c1 := cell_at HA.out F.kept 1 _ rfl
        have c2 := cell_at HA.out F.kept 2 _ rfl
        have c3 := cell_at HA.out F.kept 3 _ rfl
        have c4 := cell_at HA.out F.kept 4 _ rfl
        have c5 := cell_at HA.out F.kept 5 _ rfl
        rcases bools z4 with hC | hC
        · refine step_imp (V1 := fun _ => (fun v _ => v = (.agg #[.bool xa, .slice Aa ia ja, .int .i64 ya, .bool za, .slice Ba ma na, .int .i64 ta]))) ?_ (fun _ _ h => ⟨fun _ => h, fun hN => absurd (hC.symm.trans hN) (by decide)⟩)
          exact step_val ((wanted_guard rfl rfl sg).trans (by first | rfl | simp [hC])) (by go_simp) rfl
        · exact step_out ((wanted_guard rfl rfl sg).trans (by first | rfl | simp [hC])) ⟨fun h => absurd (hC.symm.trans h) (by decide), fun _ => rfl⟩),
          (fun aF wF F => by
        have sg : aF.tmps.getD 131 undef = (.bool (!z4)) := F.done 4 131 (by kernel_rfl) rfl
        have s14 : aF.tmps.getD 14 undef = (.pointer (some ⟨bS, 0, none⟩)) := F.old 14 (by kernel_rfl)
        have c0 := cell_at HS.out F.kept 0 _ rfl
        have c1 := cell_at HS.out F.kept 1 _ rfl
        have c2 := cell_at HS.out F.kept 2 _ rfl
        have c3 := cell_at HS.out F.kept 3 _ rfl
        have c4 := cell_at HS.out F.kept 4 _ rfl
        have c5 := cell_at HS.out F.kept 5 _ rfl
        rcases bools z4 with hC | hC
        · refine step_imp (V1 := fun _ => (fun v _ => v = (.agg #[.bool o4.v.lo.neg, .slice PS pS qS, .int .i64 o4.v.lo.e, .bool o4.v.hi.neg, .slice RS rS sS, .int .i64 o4.v.hi.e]))) ?_ (fun _ _ h => ⟨fun _ => h, fun hN => absurd (hC.symm.trans hN) (by decide)⟩)
          exact step_val ((wanted_guard rfl rfl sg).trans (by first | rfl | simp [hC])) (by go_simp) rfl
        · exact step_out ((wanted_guard rfl rfl sg).trans (by first | rfl | simp [hC])) ⟨fun h => absurd (hC.symm.trans h) (by decide), fun _ => rfl⟩),
          (fun aF wF F => by
        have sg : aF.tmps.getD 131 undef = (.bool (!z4)) := F.done 4 131 (by kernel_rfl) rfl
        have s132 : (z4 = true → aF.tmps.getD 132 undef = (.agg #[.bool xa, .slice Aa ia ja, .int .i64 ya, .bool za, .slice Ba ma na, .int .i64 ta])) ∧ (z4 = false → aF.tmps.getD 132 undef = undef) := F.done 5 132 (by kernel_rfl) rfl
        have s133 : (z4 = true → aF.tmps.getD 133 undef = (.agg #[.bool o4.v.lo.neg, .slice PS pS qS, .int .i64 o4.v.lo.e, .bool o4.v.hi.neg, .slice RS rS sS, .int .i64 o4.v.hi.e])) ∧ (z4 = false → aF.tmps.getD 133 undef = undef) := F.done 6 133 (by kernel_rfl) rfl
        rcases bools z4 with hC | hC
        · refine step_imp (V1 := fun _ => (fun v _ => v = (.bool true))) ?_ (fun _ _ h => ⟨fun _ => h, fun hN => absurd (hC.symm.trans hN) (by decide)⟩)
          replace s132 := s132.1 hC
          replace s133 := s133.1 hC
          exact step_good ((wanted_guard rfl rfl sg).trans (by first | rfl | simp [hC])) (by go_simp) (CV0.out hC _ _ (K.out.trans F.kept) ⟨_, _, _, _, _, _, rfl, ZS.out.1.kept F.kept, ZS.out.2.kept F.kept⟩) (fun _ _ h => RetK.good h) (fun _ _ h => h)
        · exact step_out ((wanted_guard rfl rfl sg).trans (by first | rfl | simp [hC])) ⟨fun h => absurd (hC.symm.trans h) (by decide), fun _ => rfl⟩),
          (fun aF wF F => by
        have sg : aF.tmps.getD 128 undef = (.bool true) := F.done 1 128 (by kernel_rfl) rfl
        have s131 : aF.tmps.getD 131 undef = (.bool (!z4)) := F.done 4 131 (by kernel_rfl) rfl
        have s134 : (z4 = true → aF.tmps.getD 134 undef = (.bool true)) ∧ (z4 = false → aF.tmps.getD 134 undef = undef) := F.done 7 134 (by kernel_rfl) rfl
        rcases bools z4 with hE | hE
        · replace s134 := s134.1 hE
          exact step_val ((wanted_guard rfl rfl sg).trans (by first | rfl | simp [hC])) (by first | (go_simp; done) | (go_simp; simp_all; done) | (simp_all; done)) rfl
        · exact step_val ((wanted_guard rfl rfl sg).trans (by first | rfl | simp [hC])) (by first | (go_simp; done) | (go_simp; simp_all; done) | (simp_all; done)) rfl),
          (fun aF wF F => by
        have s128 : aF.tmps.getD 128 undef = (.bool true) := F.done 1 128 (by kernel_rfl) rfl
        have s135 : aF.tmps.getD 135 undef = (.bool true) := F.done 8 135 (by kernel_rfl) rfl
        exact step_val (by simp [Region.wanted]) (by go_simp) rfl),
          (fun aF wF F => by
        have s136 : aF.tmps.getD 136 undef = (.bool true) := F.done 9 136 (by kernel_rfl) rfl
        exact step_val (by simp [Region.wanted]) (by go_simp) rfl),
          trivial⟩) ?_
      intro u w1 k1 hu
      have e127 : u 0 = (.bool true) := hu 0 (by decide)
      have e128 : u 1 = (.bool true) := hu 1 (by decide)
      have e129 : u 2 = .int .i64 o4.k := hu 2 (by decide)
      have e130 : u 3 = (.bool (!z4)) := hu 3 (by decide)
      have e131 : u 4 = (.bool (!z4)) := hu 4 (by decide)
      have p132 := hu 5 (by decide)
      have p133 := hu 6 (by decide)
      have p134 := hu 7 (by decide)
      have e135 : u 8 = (.bool true) := hu 8 (by decide)
      have e136 : u 9 = (.bool true) := hu 9 (by decide)
      have e6 : u 10 = (.bool true) := hu 10 (by decide)
      clear hu
      simp only [puts, slotOf, if_true, Act.put, List.setIfInBounds_toArray, List.set_cons_zero, List.set_cons_succ, List.getElem?_toArray, List.getElem?_cons_zero, List.getElem?_cons_succ, Option.bind_some, e127, e128, e129, e130, e131, e135, e136, e6]
      clear e127 e128 e129 e130 e131 e135 e136 e6
      generalize u 5 = v132 at *
      try simp only [VL, List.getD_cons_zero, List.getD_cons_succ] at p132
      generalize u 6 = v133 at *
      try simp only [VL, List.getD_cons_zero, List.getD_cons_succ] at p133
      generalize u 7 = v134 at *
      try simp only [VL, List.getD_cons_zero, List.getD_cons_succ] at p134
      go_wp2_with fail
      go_ret
      exact ⟨rfl, K.out.trans k1⟩
    · rw [h0]
      clear h0
      go_upto_region 13 with fail
      go_wp2_with fail
      refine (told_c (T.out.kept K.out)).mono ?_
      rintro e w2 ⟨rfl, q⟩
      simp only []
      go_wp2_with fail
      go_ret
      exact ⟨rfl, K.out.trans q⟩
    · rw [h0]
      have hs' : decide (g < 0) = true := decide_eq_true hs
      clear h0 hs
      go_upto_region 13 with fail
      go_wp2_with fail
      refine (told_c (T.out.kept K.out)).mono ?_
      rintro e w2 ⟨rfl, q⟩
      simp only []
      replace K := Lib.hid (K.out.trans q)
      obtain ⟨-, c0, c1, c2, c3, c4, c5⟩ := (HA.out.kept q).facts
      clear q
      go_wp2_with fail
      refine (CS.out _ K.out).mono ?_
      rintro e w3 ⟨rfl, q⟩
      simp only []
      clear c0 c1 c2 c3 c4 c5
      go_wp2_with fail
      go_ret
      exact ⟨rfl, K.out.trans q⟩
  · rw [h0]
    clear h0 HQ ZQ CW C1 C2 CH
    go_upto_region 9 with fail
    go_upto_region 11 with fail
    obtain ⟨-, c0, c1, c2, c3, c4, c5⟩ := HA.out.facts
    go_wp2_with fail
    refine (C3.out _ K.out).mono ?_
    rintro e w1 ⟨q, u, rfl, hd⟩
    obtain ⟨PR, pR, qR, RR, rR, sR, rfl, z1, z2⟩ := ivR_split hd
    simp only []
    obtain ⟨V, hV, kV, hb, lV⟩ := boxG w1 (.bool o3.v.lo.neg) (.slice PR pR qR) (.int .i64 o3.v.lo.e) (.bool o3.v.hi.neg) (.slice RR rR sR) (.int .i64 o3.v.hi.e)
    have HV := Lib.hid hV
    have kk := q.trans kV
    skip
    replace K := Lib.hid (K.out.trans kk)
    replace HA := Lib.hid (HA.out.kept kk)
    have HR := Lib.hid hb
    have ZR := Lib.hid (And.intro (z1.kept kV) (z2.kept kV))
    clear hV kV hb lV kk q hd z1 z2 c0 c1 c2 c3 c4 c5
    go_upto_region 12 with fail
    rw [← HV.out]
    clear HV
    generalize w1.heap.size = bR at *
    rcases D3.out with h0 | h0 | ⟨h0, hs⟩
    · rw [h0]
      have CV0 := Lib.hid (CV.out h0)
      clear h0
      go_upto_region 14 with fail
      obtain ⟨-, c0, c1, c2, c3, c4, c5⟩ := HR.out.facts
      go_wp2_with fail
      refine (C4.out _ _ K.out ⟨_, _, _, _, _, _, rfl, ZR.out.1, ZR.out.2⟩).mono ?_
      rintro e w1 ⟨q, u, rfl, hd⟩
      obtain ⟨PS, pS, qS, RS, rS, sS, rfl, z1, z2⟩ := ivR_split hd
      simp only []
      obtain ⟨V, hV, kV, hb, lV⟩ := boxG w1 (.bool o4.v.lo.neg) (.slice PS pS qS) (.int .i64 o4.v.lo.e) (.bool o4.v.hi.neg) (.slice RS rS sS) (.int .i64 o4.v.hi.e)
      have HV := Lib.hid hV
      have kk := q.trans kV
      skip
      replace K := Lib.hid (K.out.trans kk)
      replace HA := Lib.hid (HA.out.kept kk)
      have HS := Lib.hid hb
      have ZS := Lib.hid (And.intro (z1.kept kV) (z2.kept kV))
      clear hV kV hb lV kk q hd z1 z2 c0 c1 c2 c3 c4 c5
      go_upto_region 15 with fail
      rw [← HV.out]
      clear HV
      generalize w1.heap.size = bS at *
      refine region_seq (m := 11) (V := VL [
          (fun v _ => v = (.bool true)),
          (fun v _ => v = (.bool true)),
          (fun v _ => v = .int .i64 o4.k),
          (fun v _ => v = (.bool (!z4))),
          (fun v _ => v = (.bool (!z4))),
          (fun v wv => (z4 = true → (fun v _ => v = (.agg #[.bool xa, .slice Aa ia ja, .int .i64 ya, .bool za, .slice Ba ma na, .int .i64 ta])) v wv) ∧ (z4 = false → v = undef)),
          (fun v wv => (z4 = true → (fun v _ => v = (.agg #[.bool o4.v.lo.neg, .slice PS pS qS, .int .i64 o4.v.lo.e, .bool o4.v.hi.neg, .slice RS rS sS, .int .i64 o4.v.hi.e])) v wv) ∧ (z4 = false → v = undef)),
          (fun v wv => (z4 = true → (fun v _ => v = (.bool true)) v wv) ∧ (z4 = false → v = undef)),
          (fun v _ => v = (.bool true)),
          (fun v _ => v = (.bool true)),
          (fun v _ => v = (.bool true))])
        rfl (by kernel_rfl) (by kernel_rfl) (by kernel_rfl) (mono_of _ ⟨mono_eq _, mono_eq _, mono_eq _, mono_eq _, mono_eq _, fun v w w' k h => ⟨fun hC => (fun v w w' k h => by first | exact h | exact h.kept k | exact ⟨h.1, h.2.kept k⟩) v w w' k (h.1 hC), h.2⟩, fun v w w' k h => ⟨fun hC => (fun v w w' k h => by first | exact h | exact h.kept k | exact ⟨h.1, h.2.kept k⟩) v w w' k (h.1 hC), h.2⟩, fun v w w' k h => ⟨fun hC => (fun v w w' k h => by first | exact h | exact h.kept k | exact ⟨h.1, h.2.kept k⟩) v w w' k (h.1 hC), h.2⟩, mono_eq _, mono_eq _, mono_eq _, trivial⟩) (steps_of ⟨
          (fun aF wF F => by
        exact step_good (by simp [Region.wanted]) (by go_simp) (told_c (T.out.kept (K.out.trans F.kept))) (fun _ _ h => RetK.good h) (fun _ _ h => h)),
          (fun aF wF F => by
        have s127 : aF.tmps.getD 127 undef = (.bool true) := F.done 0 127 (by kernel_rfl) rfl
        exact step_val (by simp [Region.wanted]) (by go_simp) rfl),
          (fun aF wF F => by
        have s15 : aF.tmps.getD 15 undef = .int .i64 o4.k := F.old 15 (by kernel_rfl)
        have sg : aF.tmps.getD 128 undef = (.bool true) := F.done 1 128 (by kernel_rfl) rfl
        exact step_val ((wanted_guard rfl rfl sg).trans rfl) (by go_simp) rfl),
          (fun aF wF F => by
        have s129 : aF.tmps.getD 129 undef = .int .i64 o4.k := F.done 2 129 (by kernel_rfl) rfl
        have sg : aF.tmps.getD 128 undef = (.bool true) := F.done 1 128 (by kernel_rfl) rfl
        exact step_val ((wanted_guard rfl rfl sg).trans rfl) (by (go_simp; first | exact congrArg _ Q4.out | (have hq := Q4.out; grind))) rfl),
          (fun aF wF F => by
        have s130 : aF.tmps.getD 130 undef = (.bool (!z4)) := F.done 3 130 (by kernel_rfl) rfl
        have sg : aF.tmps.getD 128 undef = (.bool true) := F.done 1 128 (by kernel_rfl) rfl
        exact step_val ((wanted_guard rfl rfl sg).trans rfl) (by go_simp) rfl),
          (fun aF wF F => by
        have sg : aF.tmps.getD 131 undef = (.bool (!z4)) := F.done 4 131 (by kernel_rfl) rfl
        have s3 : aF.tmps.getD 3 undef = (.pointer (some ⟨w.heap.size, 0, none⟩)) := F.old 3 (by kernel_rfl)
        have c0 := cell_at HA.out F.kept 0 _ rfl
        have c1 := cell_at HA.out F.kept 1 _ rfl
        have c2 := cell_at HA.out F.kept 2 _ rfl
        have c3 := cell_at HA.out F.kept 3 _ rfl
        have c4 := cell_at HA.out F.kept 4 _ rfl
        have c5 := cell_at HA.out F.kept 5 _ rfl
        rcases bools z4 with hC | hC
        · refine step_imp (V1 := fun _ => (fun v _ => v = (.agg #[.bool xa, .slice Aa ia ja, .int .i64 ya, .bool za, .slice Ba ma na, .int .i64 ta]))) ?_ (fun _ _ h => ⟨fun _ => h, fun hN => absurd (hC.symm.trans hN) (by decide)⟩)
          exact step_val ((wanted_guard rfl rfl sg).trans (by first | rfl | simp [hC])) (by go_simp) rfl
        · exact step_out ((wanted_guard rfl rfl sg).trans (by first | rfl | simp [hC])) ⟨fun h => absurd (hC.symm.trans h) (by decide), fun _ => rfl⟩),
          (fun aF wF F => by
        have sg : aF.tmps.getD 131 undef = (.bool (!z4)) := F.done 4 131 (by kernel_rfl) rfl
        have s14 : aF.tmps.getD 14 undef = (.pointer (some ⟨bS, 0, none⟩)) := F.old 14 (by kernel_rfl)
        have c0 := cell_at HS.out F.kept 0 _ rfl
        have c1 := cell_at HS.out F.kept 1 _ rfl
        have c2 := cell_at HS.out F.kept 2 _ rfl
        have c3 := cell_at HS.out F.kept 3 _ rfl
        have c4 := cell_at HS.out F.kept 4 _ rfl
        have c5 := cell_at HS.out F.kept 5 _ rfl
        rcases bools z4 with hC | hC
        · refine step_imp (V1 := fun _ => (fun v _ => v = (.agg #[.bool o4.v.lo.neg, .slice PS pS qS, .int .i64 o4.v.lo.e, .bool o4.v.hi.neg, .slice RS rS sS, .int .i64 o4.v.hi.e]))) ?_ (fun _ _ h => ⟨fun _ => h, fun hN => absurd (hC.symm.trans hN) (by decide)⟩)
          exact step_val ((wanted_guard rfl rfl sg).trans (by first | rfl | simp [hC])) (by go_simp) rfl
        · exact step_out ((wanted_guard rfl rfl sg).trans (by first | rfl | simp [hC])) ⟨fun h => absurd (hC.symm.trans h) (by decide), fun _ => rfl⟩),
          (fun aF wF F => by
        have sg : aF.tmps.getD 131 undef = (.bool (!z4)) := F.done 4 131 (by kernel_rfl) rfl
        have s132 : (z4 = true → aF.tmps.getD 132 undef = (.agg #[.bool xa, .slice Aa ia ja, .int .i64 ya, .bool za, .slice Ba ma na, .int .i64 ta])) ∧ (z4 = false → aF.tmps.getD 132 undef = undef) := F.done 5 132 (by kernel_rfl) rfl
        have s133 : (z4 = true → aF.tmps.getD 133 undef = (.agg #[.bool o4.v.lo.neg, .slice PS pS qS, .int .i64 o4.v.lo.e, .bool o4.v.hi.neg, .slice RS rS sS, .int .i64 o4.v.hi.e])) ∧ (z4 = false → aF.tmps.getD 133 undef = undef) := F.done 6 133 (by kernel_rfl) rfl
        rcases bools z4 with hC | hC
        · refine step_imp (V1 := fun _ => (fun v _ => v = (.bool true))) ?_ (fun _ _ h => ⟨fun _ => h, fun hN => absurd (hC.symm.trans hN) (by decide)⟩)
          replace s132 := s132.1 hC
          replace s133 := s133.1 hC
          exact step_good ((wanted_guard rfl rfl sg).trans (by first | rfl | simp [hC])) (by go_simp) (CV0.out hC _ _ (K.out.trans F.kept) ⟨_, _, _, _, _, _, rfl, ZS.out.1.kept F.kept, ZS.out.2.kept F.kept⟩) (fun _ _ h => RetK.good h) (fun _ _ h => h)
        · exact step_out ((wanted_guard rfl rfl sg).trans (by first | rfl | simp [hC])) ⟨fun h => absurd (hC.symm.trans h) (by decide), fun _ => rfl⟩),
          (fun aF wF F => by
        have sg : aF.tmps.getD 128 undef = (.bool true) := F.done 1 128 (by kernel_rfl) rfl
        have s131 : aF.tmps.getD 131 undef = (.bool (!z4)) := F.done 4 131 (by kernel_rfl) rfl
        have s134 : (z4 = true → aF.tmps.getD 134 undef = (.bool true)) ∧ (z4 = false → aF.tmps.getD 134 undef = undef) := F.done 7 134 (by kernel_rfl) rfl
        rcases bools z4 with hE | hE
        · replace s134 := s134.1 hE
          exact step_val ((wanted_guard rfl rfl sg).trans (by first | rfl | simp [hC])) (by first | (go_simp; done) | (go_simp; simp_all; done) | (simp_all; done)) rfl
        · exact step_val ((wanted_guard rfl rfl sg).trans (by first | rfl | simp [hC])) (by first | (go_simp; done) | (go_simp; simp_all; done) | (simp_all; done)) rfl),
          (fun aF wF F => by
        have s128 : aF.tmps.getD 128 undef = (.bool true) := F.done 1 128 (by kernel_rfl) rfl
        have s135 : aF.tmps.getD 135 undef = (.bool true) := F.done 8 135 (by kernel_rfl) rfl
        exact step_val (by simp [Region.wanted]) (by go_simp) rfl),
          (fun aF wF F => by
        have s136 : aF.tmps.getD 136 undef = (.bool true) := F.done 9 136 (by kernel_rfl) rfl
        exact step_val (by simp [Region.wanted]) (by go_simp) rfl),
          trivial⟩) ?_
      intro u w1 k1 hu
      have e127 : u 0 = (.bool true) := hu 0 (by decide)
      have e128 : u 1 = (.bool true) := hu 1 (by decide)
      have e129 : u 2 = .int .i64 o4.k := hu 2 (by decide)
      have e130 : u 3 = (.bool (!z4)) := hu 3 (by decide)
      have e131 : u 4 = (.bool (!z4)) := hu 4 (by decide)
      have p132 := hu 5 (by decide)
      have p133 := hu 6 (by decide)
      have p134 := hu 7 (by decide)
      have e135 : u 8 = (.bool true) := hu 8 (by decide)
      have e136 : u 9 = (.bool true) := hu 9 (by decide)
      have e6 : u 10 = (.bool true) := hu 10 (by decide)
      clear hu
      simp only [puts, slotOf, if_true, Act.put, List.setIfInBounds_toArray, List.set_cons_zero, List.set_cons_succ, List.getElem?_toArray, List.getElem?_cons_zero, List.getElem?_cons_succ, Option.bind_some, e127, e128, e129, e130, e131, e135, e136, e6]
      clear e127 e128 e129 e130 e131 e135 e136 e6
      generalize u 5 = v132 at *
      try simp only [VL, List.getD_cons_zero, List.getD_cons_succ] at p132
      generalize u 6 = v133 at *
      try simp only [VL, List.getD_cons_zero, List.getD_cons_succ] at p133
      generalize u 7 = v134 at *
      try simp only [VL, List.getD_cons_zero, List.getD_cons_succ] at p134
      go_wp2_with fail
      go_ret
      exact ⟨rfl, K.out.trans k1⟩
    · rw [h0]
      clear h0
      go_upto_region 13 with fail
      go_wp2_with fail
      refine (told_c (T.out.kept K.out)).mono ?_
      rintro e w2 ⟨rfl, q⟩
      simp only []
      go_wp2_with fail
      go_ret
      exact ⟨rfl, K.out.trans q⟩
    · rw [h0]
      have hs' : decide (g < 0) = true := decide_eq_true hs
      clear h0 hs
      go_upto_region 13 with fail
      go_wp2_with fail
      refine (told_c (T.out.kept K.out)).mono ?_
      rintro e w2 ⟨rfl, q⟩
      simp only []
      replace K := Lib.hid (K.out.trans q)
      obtain ⟨-, c0, c1, c2, c3, c4, c5⟩ := (HA.out.kept q).facts
      clear q
      go_wp2_with fail
      refine (CS.out _ K.out).mono ?_
      rintro e w3 ⟨rfl, q⟩
      simp only []
      clear c0 c1 c2 c3 c4 c5
      go_wp2_with fail
      go_ret
      exact ⟨rfl, K.out.trans q⟩
  · rw [h0]
    have CH0 := Lib.hid (CH.out hz)
    clear h0 hz HQ ZQ CW C1 C2 CH
    obtain ⟨-, d0, d1, d2, d3, d4, d5⟩ := HB.out.facts
    go_upto_region 9 with fail
    go_wp2_with fail
    refine (CH0.out _ K.out).mono ?_
    rintro e w1 ⟨rfl, q⟩
    simp only []
    replace K := Lib.hid (K.out.trans q)
    replace HA := Lib.hid (HA.out.kept q)
    clear q d0 d1 d2 d3 d4 d5 HB CH0
    go_upto_region 11 with fail
    obtain ⟨-, c0, c1, c2, c3, c4, c5⟩ := HA.out.facts
    go_wp2_with fail
    refine (C3.out _ K.out).mono ?_
    rintro e w1 ⟨q, u, rfl, hd⟩
    obtain ⟨PR, pR, qR, RR, rR, sR, rfl, z1, z2⟩ := ivR_split hd
    simp only []
    obtain ⟨V, hV, kV, hb, lV⟩ := boxG w1 (.bool o3.v.lo.neg) (.slice PR pR qR) (.int .i64 o3.v.lo.e) (.bool o3.v.hi.neg) (.slice RR rR sR) (.int .i64 o3.v.hi.e)
    have HV := Lib.hid hV
    have kk := q.trans kV
    skip
    replace K := Lib.hid (K.out.trans kk)
    replace HA := Lib.hid (HA.out.kept kk)
    have HR := Lib.hid hb
    have ZR := Lib.hid (And.intro (z1.kept kV) (z2.kept kV))
    clear hV kV hb lV kk q hd z1 z2 c0 c1 c2 c3 c4 c5
    go_upto_region 12 with fail
    rw [← HV.out]
    clear HV
    generalize w1.heap.size = bR at *
    rcases D3.out with h0 | h0 | ⟨h0, hs⟩
    · rw [h0]
      have CV0 := Lib.hid (CV.out h0)
      clear h0
      go_upto_region 14 with fail
      obtain ⟨-, c0, c1, c2, c3, c4, c5⟩ := HR.out.facts
      go_wp2_with fail
      refine (C4.out _ _ K.out ⟨_, _, _, _, _, _, rfl, ZR.out.1, ZR.out.2⟩).mono ?_
      rintro e w1 ⟨q, u, rfl, hd⟩
      obtain ⟨PS, pS, qS, RS, rS, sS, rfl, z1, z2⟩ := ivR_split hd
      simp only []
      obtain ⟨V, hV, kV, hb, lV⟩ := boxG w1 (.bool o4.v.lo.neg) (.slice PS pS qS) (.int .i64 o4.v.lo.e) (.bool o4.v.hi.neg) (.slice RS rS sS) (.int .i64 o4.v.hi.e)
      have HV := Lib.hid hV
      have kk := q.trans kV
      skip
      replace K := Lib.hid (K.out.trans kk)
      replace HA := Lib.hid (HA.out.kept kk)
      have HS := Lib.hid hb
      have ZS := Lib.hid (And.intro (z1.kept kV) (z2.kept kV))
      clear hV kV hb lV kk q hd z1 z2 c0 c1 c2 c3 c4 c5
      go_upto_region 15 with fail
      rw [← HV.out]
      clear HV
      generalize w1.heap.size = bS at *
      refine region_seq (m := 11) (V := VL [
          (fun v _ => v = (.bool true)),
          (fun v _ => v = (.bool true)),
          (fun v _ => v = .int .i64 o4.k),
          (fun v _ => v = (.bool (!z4))),
          (fun v _ => v = (.bool (!z4))),
          (fun v wv => (z4 = true → (fun v _ => v = (.agg #[.bool xa, .slice Aa ia ja, .int .i64 ya, .bool za, .slice Ba ma na, .int .i64 ta])) v wv) ∧ (z4 = false → v = undef)),
          (fun v wv => (z4 = true → (fun v _ => v = (.agg #[.bool o4.v.lo.neg, .slice PS pS qS, .int .i64 o4.v.lo.e, .bool o4.v.hi.neg, .slice RS rS sS, .int .i64 o4.v.hi.e])) v wv) ∧ (z4 = false → v = undef)),
          (fun v wv => (z4 = true → (fun v _ => v = (.bool true)) v wv) ∧ (z4 = false → v = undef)),
          (fun v _ => v = (.bool true)),
          (fun v _ => v = (.bool true)),
          (fun v _ => v = (.bool true))])
        rfl (by kernel_rfl) (by kernel_rfl) (by kernel_rfl) (mono_of _ ⟨mono_eq _, mono_eq _, mono_eq _, mono_eq _, mono_eq _, fun v w w' k h => ⟨fun hC => (fun v w w' k h => by first | exact h | exact h.kept k | exact ⟨h.1, h.2.kept k⟩) v w w' k (h.1 hC), h.2⟩, fun v w w' k h => ⟨fun hC => (fun v w w' k h => by first | exact h | exact h.kept k | exact ⟨h.1, h.2.kept k⟩) v w w' k (h.1 hC), h.2⟩, fun v w w' k h => ⟨fun hC => (fun v w w' k h => by first | exact h | exact h.kept k | exact ⟨h.1, h.2.kept k⟩) v w w' k (h.1 hC), h.2⟩, mono_eq _, mono_eq _, mono_eq _, trivial⟩) (steps_of ⟨
          (fun aF wF F => by
        exact step_good (by simp [Region.wanted]) (by go_simp) (told_c (T.out.kept (K.out.trans F.kept))) (fun _ _ h => RetK.good h) (fun _ _ h => h)),
          (fun aF wF F => by
        have s127 : aF.tmps.getD 127 undef = (.bool true) := F.done 0 127 (by kernel_rfl) rfl
        exact step_val (by simp [Region.wanted]) (by go_simp) rfl),
          (fun aF wF F => by
        have s15 : aF.tmps.getD 15 undef = .int .i64 o4.k := F.old 15 (by kernel_rfl)
        have sg : aF.tmps.getD 128 undef = (.bool true) := F.done 1 128 (by kernel_rfl) rfl
        exact step_val ((wanted_guard rfl rfl sg).trans rfl) (by go_simp) rfl),
          (fun aF wF F => by
        have s129 : aF.tmps.getD 129 undef = .int .i64 o4.k := F.done 2 129 (by kernel_rfl) rfl
        have sg : aF.tmps.getD 128 undef = (.bool true) := F.done 1 128 (by kernel_rfl) rfl
        exact step_val ((wanted_guard rfl rfl sg).trans rfl) (by (go_simp; first | exact congrArg _ Q4.out | (have hq := Q4.out; grind))) rfl),
          (fun aF wF F => by
        have s130 : aF.tmps.getD 130 undef = (.bool (!z4)) := F.done 3 130 (by kernel_rfl) rfl
        have sg : aF.tmps.getD 128 undef = (.bool true) := F.done 1 128 (by kernel_rfl) rfl
        exact step_val ((wanted_guard rfl rfl sg).trans rfl) (by go_simp) rfl),
          (fun aF wF F => by
        have sg : aF.tmps.getD 131 undef = (.bool (!z4)) := F.done 4 131 (by kernel_rfl) rfl
        have s3 : aF.tmps.getD 3 undef = (.pointer (some ⟨w.heap.size, 0, none⟩)) := F.old 3 (by kernel_rfl)
        have c0 := cell_at HA.out F.kept 0 _ rfl
        have c1 := cell_at HA.out F.kept 1 _ rfl
        have c2 := cell_at HA.out F.kept 2 _ rfl
        have c3 := cell_at HA.out F.kept 3 _ rfl
        have c4 := cell_at HA.out F.kept 4 _ rfl
        have c5 := cell_at HA.out F.kept 5 _ rfl
        rcases bools z4 with hC | hC
        · refine step_imp (V1 := fun _ => (fun v _ => v = (.agg #[.bool xa, .slice Aa ia ja, .int .i64 ya, .bool za, .slice Ba ma na, .int .i64 ta]))) ?_ (fun _ _ h => ⟨fun _ => h, fun hN => absurd (hC.symm.trans hN) (by decide)⟩)
          exact step_val ((wanted_guard rfl rfl sg).trans (by first | rfl | simp [hC])) (by go_simp) rfl
        · exact step_out ((wanted_guard rfl rfl sg).trans (by first | rfl | simp [hC])) ⟨fun h => absurd (hC.symm.trans h) (by decide), fun _ => rfl⟩),
          (fun aF wF F => by
        have sg : aF.tmps.getD 131 undef = (.bool (!z4)) := F.done 4 131 (by kernel_rfl) rfl
        have s14 : aF.tmps.getD 14 undef = (.pointer (some ⟨bS, 0, none⟩)) := F.old 14 (by kernel_rfl)
        have c0 := cell_at HS.out F.kept 0 _ rfl
        have c1 := cell_at HS.out F.kept 1 _ rfl
        have c2 := cell_at HS.out F.kept 2 _ rfl
        have c3 := cell_at HS.out F.kept 3 _ rfl
        have c4 := cell_at HS.out F.kept 4 _ rfl
        have c5 := cell_at HS.out F.kept 5 _ rfl
        rcases bools z4 with hC | hC
        · refine step_imp (V1 := fun _ => (fun v _ => v = (.agg #[.bool o4.v.lo.neg, .slice PS pS qS, .int .i64 o4.v.lo.e, .bool o4.v.hi.neg, .slice RS rS sS, .int .i64 o4.v.hi.e]))) ?_ (fun _ _ h => ⟨fun _ => h, fun hN => absurd (hC.symm.trans hN) (by decide)⟩)
          exact step_val ((wanted_guard rfl rfl sg).trans (by first | rfl | simp [hC])) (by go_simp) rfl
        · exact step_out ((wanted_guard rfl rfl sg).trans (by first | rfl | simp [hC])) ⟨fun h => absurd (hC.symm.trans h) (by decide), fun _ => rfl⟩),
          (fun aF wF F => by
        have sg : aF.tmps.getD 131 undef = (.bool (!z4)) := F.done 4 131 (by kernel_rfl) rfl
        have s132 : (z4 = true → aF.tmps.getD 132 undef = (.agg #[.bool xa, .slice Aa ia ja, .int .i64 ya, .bool za, .slice Ba ma na, .int .i64 ta])) ∧ (z4 = false → aF.tmps.getD 132 undef = undef) := F.done 5 132 (by kernel_rfl) rfl
        have s133 : (z4 = true → aF.tmps.getD 133 undef = (.agg #[.bool o4.v.lo.neg, .slice PS pS qS, .int .i64 o4.v.lo.e, .bool o4.v.hi.neg, .slice RS rS sS, .int .i64 o4.v.hi.e])) ∧ (z4 = false → aF.tmps.getD 133 undef = undef) := F.done 6 133 (by kernel_rfl) rfl
        rcases bools z4 with hC | hC
        · refine step_imp (V1 := fun _ => (fun v _ => v = (.bool true))) ?_ (fun _ _ h => ⟨fun _ => h, fun hN => absurd (hC.symm.trans hN) (by decide)⟩)
          replace s132 := s132.1 hC
          replace s133 := s133.1 hC
          exact step_good ((wanted_guard rfl rfl sg).trans (by first | rfl | simp [hC])) (by go_simp) (CV0.out hC _ _ (K.out.trans F.kept) ⟨_, _, _, _, _, _, rfl, ZS.out.1.kept F.kept, ZS.out.2.kept F.kept⟩) (fun _ _ h => RetK.good h) (fun _ _ h => h)
        · exact step_out ((wanted_guard rfl rfl sg).trans (by first | rfl | simp [hC])) ⟨fun h => absurd (hC.symm.trans h) (by decide), fun _ => rfl⟩),
          (fun aF wF F => by
        have sg : aF.tmps.getD 128 undef = (.bool true) := F.done 1 128 (by kernel_rfl) rfl
        have s131 : aF.tmps.getD 131 undef = (.bool (!z4)) := F.done 4 131 (by kernel_rfl) rfl
        have s134 : (z4 = true → aF.tmps.getD 134 undef = (.bool true)) ∧ (z4 = false → aF.tmps.getD 134 undef = undef) := F.done 7 134 (by kernel_rfl) rfl
        rcases bools z4 with hE | hE
        · replace s134 := s134.1 hE
          exact step_val ((wanted_guard rfl rfl sg).trans (by first | rfl | simp [hC])) (by first | (go_simp; done) | (go_simp; simp_all; done) | (simp_all; done)) rfl
        · exact step_val ((wanted_guard rfl rfl sg).trans (by first | rfl | simp [hC])) (by first | (go_simp; done) | (go_simp; simp_all; done) | (simp_all; done)) rfl),
          (fun aF wF F => by
        have s128 : aF.tmps.getD 128 undef = (.bool true) := F.done 1 128 (by kernel_rfl) rfl
        have s135 : aF.tmps.getD 135 undef = (.bool true) := F.done 8 135 (by kernel_rfl) rfl
        exact step_val (by simp [Region.wanted]) (by go_simp) rfl),
          (fun aF wF F => by
        have s136 : aF.tmps.getD 136 undef = (.bool true) := F.done 9 136 (by kernel_rfl) rfl
        exact step_val (by simp [Region.wanted]) (by go_simp) rfl),
          trivial⟩) ?_
      intro u w1 k1 hu
      have e127 : u 0 = (.bool true) := hu 0 (by decide)
      have e128 : u 1 = (.bool true) := hu 1 (by decide)
      have e129 : u 2 = .int .i64 o4.k := hu 2 (by decide)
      have e130 : u 3 = (.bool (!z4)) := hu 3 (by decide)
      have e131 : u 4 = (.bool (!z4)) := hu 4 (by decide)
      have p132 := hu 5 (by decide)
      have p133 := hu 6 (by decide)
      have p134 := hu 7 (by decide)
      have e135 : u 8 = (.bool true) := hu 8 (by decide)
      have e136 : u 9 = (.bool true) := hu 9 (by decide)
      have e6 : u 10 = (.bool true) := hu 10 (by decide)
      clear hu
      simp only [puts, slotOf, if_true, Act.put, List.setIfInBounds_toArray, List.set_cons_zero, List.set_cons_succ, List.getElem?_toArray, List.getElem?_cons_zero, List.getElem?_cons_succ, Option.bind_some, e127, e128, e129, e130, e131, e135, e136, e6]
      clear e127 e128 e129 e130 e131 e135 e136 e6
      generalize u 5 = v132 at *
      try simp only [VL, List.getD_cons_zero, List.getD_cons_succ] at p132
      generalize u 6 = v133 at *
      try simp only [VL, List.getD_cons_zero, List.getD_cons_succ] at p133
      generalize u 7 = v134 at *
      try simp only [VL, List.getD_cons_zero, List.getD_cons_succ] at p134
      go_wp2_with fail
      go_ret
      exact ⟨rfl, K.out.trans k1⟩
    · rw [h0]
      clear h0
      go_upto_region 13 with fail
      go_wp2_with fail
      refine (told_c (T.out.kept K.out)).mono ?_
      rintro e w2 ⟨rfl, q⟩
      simp only []
      go_wp2_with fail
      go_ret
      exact ⟨rfl, K.out.trans q⟩
    · rw [h0]
      have hs' : decide (g < 0) = true := decide_eq_true hs
      clear h0 hs
      go_upto_region 13 with fail
      go_wp2_with fail
      refine (told_c (T.out.kept K.out)).mono ?_
      rintro e w2 ⟨rfl, q⟩
      simp only []
      replace K := Lib.hid (K.out.trans q)
      obtain ⟨-, c0, c1, c2, c3, c4, c5⟩ := (HA.out.kept q).facts
      clear q
      go_wp2_with fail
      refine (CS.out _ K.out).mono ?_
      rintro e w3 ⟨rfl, q⟩
      simp only []
      clear c0 c1 c2 c3 c4 c5
      go_wp2_with fail
      go_ret
      exact ⟨rfl, K.out.trans q⟩






end Go.Proofs.YtjdplcenniogdaaDoor
