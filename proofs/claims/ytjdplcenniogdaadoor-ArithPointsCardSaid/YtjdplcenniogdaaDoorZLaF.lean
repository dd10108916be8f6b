/- Laws of layer 6: ArithPoints. -/
import Derived.Test.YtjdplcenniogdaaDoorZLaH
namespace Go.Proofs.YtjdplcenniogdaaDoor
open Go.RowKit

theorem few_of {r : Raw} (hs : Small r.m) (hl : r.m.length ≤ 2) (hm : mayD r = true) (h1 : -100 ≤ r.e) (h2 : r.e ≤ 100) : Few r.dy 128 100 := by
  refine ⟨(mayD_clean hs hm).2, ?_, h1, h2⟩
  apply bl_le
  show val r.m < _
  refine Nat.lt_of_lt_of_le (val_lt _ hs) ?_
  rw [show (2 : Nat) ^ 128 = 18446744073709551616 ^ 2 by decide]
  exact Nat.pow_le_pow_right (by decide) hl
theorem bool_of {P : Prop} [Decidable P] (Q : Prop) [Decidable Q] (h : P ↔ ¬ Q) : decide P = !decide Q := by
  by_cases hq : Q <;> simp [hq, h]
theorem isameV {w : World} {v u : Value} {a b : RawI} (hv : IvR w v a) (hu : IvR w u b) (h : a = b) (hl : a.lens 17592186044416) : Calls Tryd.prog 26 #[v, u] w (RetK (.bool true) w) := by subst h; exact isameT hv hu hl
theorem pt_raw (d : Dy) : (pt d).raw = ⟨d.raw, d.raw⟩ := rfl

set_option maxHeartbeats 4000000 in
set_option maxRecDepth 100000 in
theorem points_c {w : World} {va vb : Value} {a b : Raw} (ha : DyR w va a) (hb : DyR w vb b)
    (la : a.m.length ≤ 17592186044416) (lb : b.m.length ≤ 17592186044416) (hT : Tab w) :
    Calls Tryd.prog 6 #[va, vb] w (RetK (.bool true) w) := by
  have MA := Lib.hid (fun w1 (k : Kept w w1) => may_c (ha.kept k) la)
  have MB := Lib.hid (fun w1 (k : Kept w w1) => may_c (hb.kept k) lb)
  have T := Lib.hid hT
  have SA := Lib.hid (raw_small ha)
  have hda := ha
  obtain ⟨Aa, ia, ja, rfl, La, -, -, -⟩ := ha.shape
  have DA := Lib.hid hda
  clear ha hda la
  have CCA := Lib.hid (fun (h0 : (decide ((ia : Int) ≤ 2)) = true) (h1 : mayD a = true) (h2 : decide (-100 ≤ a.e) = true) (h3 : decide (a.e ≤ 100) = true) => And.intro (few_of SA.out (by have := of_decide_eq_true h0; omega) h1 (of_decide_eq_true h2) (of_decide_eq_true h3)) (mayD_clean SA.out h1).1)
  clear La SA
  obtain ⟨ga, hga⟩ : ∃ x, mayD a = x := ⟨_, rfl⟩
  obtain ⟨fa, hfa⟩ : ∃ x, decide ((ia : Int) ≤ 2) = x := ⟨_, rfl⟩
  obtain ⟨ea, hea⟩ : ∃ x, decide (-100 ≤ a.e) = x := ⟨_, rfl⟩
  obtain ⟨ua, hua⟩ : ∃ x, decide (a.e ≤ 100) = x := ⟨_, rfl⟩
  have GA : Hid (decide ((2 : Int) < (ia : Int)) = !fa) := by rw [← hfa]; exact bool_of _ (by omega)
  have EA : Hid (decide (a.e < -100) = !ea) := by rw [← hea]; exact bool_of _ (by omega)
  have UA : Hid (decide (100 < a.e) = !ua) := by rw [← hua]; exact bool_of _ (by omega)
  rw [hga] at MA CCA
  rw [hfa, hea, hua] at CCA
  clear hga hfa hea hua
  obtain ⟨xa, hxa⟩ : ∃ x, a.neg = x := ⟨_, rfl⟩
  obtain ⟨ya, hya⟩ : ∃ x, a.e = x := ⟨_, rfl⟩
  simp only [hxa, hya] at *
  clear hxa hya
  have SB := Lib.hid (raw_small hb)
  have hdb := hb
  obtain ⟨Ab, ib, jb, rfl, Lb, -, -, -⟩ := hb.shape
  have DB := Lib.hid hdb
  clear hb hdb lb
  have CCB := Lib.hid (fun (h0 : (decide ((ib : Int) ≤ 2)) = true) (h1 : mayD b = true) (h2 : decide (-100 ≤ b.e) = true) (h3 : decide (b.e ≤ 100) = true) => And.intro (few_of SB.out (by have := of_decide_eq_true h0; omega) h1 (of_decide_eq_true h2) (of_decide_eq_true h3)) (mayD_clean SB.out h1).1)
  clear Lb SB
  obtain ⟨gb, hgb⟩ : ∃ x, mayD b = x := ⟨_, rfl⟩
  obtain ⟨fb, hfb⟩ : ∃ x, decide ((ib : Int) ≤ 2) = x := ⟨_, rfl⟩
  obtain ⟨eb, heb⟩ : ∃ x, decide (-100 ≤ b.e) = x := ⟨_, rfl⟩
  obtain ⟨ub, hub⟩ : ∃ x, decide (b.e ≤ 100) = x := ⟨_, rfl⟩
  have GB : Hid (decide ((2 : Int) < (ib : Int)) = !fb) := by rw [← hfb]; exact bool_of _ (by omega)
  have EB : Hid (decide (b.e < -100) = !eb) := by rw [← heb]; exact bool_of _ (by omega)
  have UB : Hid (decide (100 < b.e) = !ub) := by rw [← hub]; exact bool_of _ (by omega)
  rw [hgb] at MB CCB
  rw [hfb, heb, hub] at CCB
  clear hgb hfb heb hub
  obtain ⟨xb, hxb⟩ : ∃ x, b.neg = x := ⟨_, rfl⟩
  obtain ⟨yb, hyb⟩ : ∃ x, b.e = x := ⟨_, rfl⟩
  simp only [hxb, hyb] at *
  clear hxb hyb
  clear hT
  obtain ⟨W, hW, kW, BA, BB⟩ := boxes2 w (.bool xa) (.slice Aa ia ja) (.int .i64 ya) (.bool xb) (.slice Ab ib jb) (.int .i64 yb)
  have HW := Lib.hid hW
  have K := Lib.hid kW
  have HA := Lib.hid BA
  have HB := Lib.hid BB
  clear hW kW BA BB
  go_enter Tryd.func6, Tryd.ntmps6
  go_upto_region 1 with fail
  rw [← HW.out]
  refine region_seq (m := 40) (V := VL [
      (fun v _ => v = (.pointer (some ⟨w.heap.size, 1, none⟩))),
      (fun v _ => v = (.slice Aa ia ja)),
      (fun v _ => v = (.int .i64 (ia : Int))),
      (fun v _ => v = (.bool (!fa))),
      (fun v _ => v = (.bool (!fa))),
      (fun v wv => (fa = true → (fun v _ => v = (.pointer (some ⟨w.heap.size + 1, 1, none⟩))) v wv) ∧ (fa = false → v = undef)),
      (fun v wv => (fa = true → (fun v _ => v = (.slice Ab ib jb)) v wv) ∧ (fa = false → v = undef)),
      (fun v wv => (fa = true → (fun v _ => v = (.int .i64 (ib : Int))) v wv) ∧ (fa = false → v = undef)),
      (fun v wv => (fa = true → (fun v _ => v = (.bool (!fb))) v wv) ∧ (fa = false → v = undef)),
      (fun v _ => v = (.bool (!(fa && fb)))),
      (fun v _ => v = (.bool (!(fa && fb)))),
      (fun v wv => ((fa && fb) = true → (fun v _ => v = (.agg #[.bool xa, .slice Aa ia ja, .int .i64 ya])) v wv) ∧ ((fa && fb) = false → v = undef)),
      (fun v wv => ((fa && fb) = true → (fun v _ => v = (.bool ga)) v wv) ∧ ((fa && fb) = false → v = undef)),
      (fun v wv => ((fa && fb) = true → (fun v _ => v = (.bool (!ga))) v wv) ∧ ((fa && fb) = false → v = undef)),
      (fun v _ => v = (.bool (!(fa && fb && ga)))),
      (fun v _ => v = (.bool (!(fa && fb && ga)))),
      (fun v wv => ((fa && fb && ga) = true → (fun v _ => v = (.agg #[.bool xb, .slice Ab ib jb, .int .i64 yb])) v wv) ∧ ((fa && fb && ga) = false → v = undef)),
      (fun v wv => ((fa && fb && ga) = true → (fun v _ => v = (.bool gb)) v wv) ∧ ((fa && fb && ga) = false → v = undef)),
      (fun v wv => ((fa && fb && ga) = true → (fun v _ => v = (.bool (!gb))) v wv) ∧ ((fa && fb && ga) = false → v = undef)),
      (fun v _ => v = (.bool (!(fa && fb && ga && gb)))),
      (fun v _ => v = (.bool (!(fa && fb && ga && gb)))),
      (fun v wv => ((fa && fb && ga && gb) = true → (fun v _ => v = (.pointer (some ⟨w.heap.size, 2, none⟩))) v wv) ∧ ((fa && fb && ga && gb) = false → v = undef)),
      (fun v wv => ((fa && fb && ga && gb) = true → (fun v _ => v = (.int .i64 ya)) v wv) ∧ ((fa && fb && ga && gb) = false → v = undef)),
      (fun v wv => ((fa && fb && ga && gb) = true → (fun v _ => v = (.bool (!ea))) v wv) ∧ ((fa && fb && ga && gb) = false → v = undef)),
      (fun v _ => v = (.bool (!(fa && fb && ga && gb && ea)))),
      (fun v _ => v = (.bool (!(fa && fb && ga && gb && ea)))),
      (fun v wv => ((fa && fb && ga && gb && ea) = true → (fun v _ => v = (.pointer (some ⟨w.heap.size, 2, none⟩))) v wv) ∧ ((fa && fb && ga && gb && ea) = false → v = undef)),
      (fun v wv => ((fa && fb && ga && gb && ea) = true → (fun v _ => v = (.int .i64 ya)) v wv) ∧ ((fa && fb && ga && gb && ea) = false → v = undef)),
      (fun v wv => ((fa && fb && ga && gb && ea) = true → (fun v _ => v = (.bool (!ua))) v wv) ∧ ((fa && fb && ga && gb && ea) = false → v = undef)),
      (fun v _ => v = (.bool (!(fa && fb && ga && gb && ea && ua)))),
      (fun v _ => v = (.bool (!(fa && fb && ga && gb && ea && ua)))),
      (fun v wv => ((fa && fb && ga && gb && ea && ua) = true → (fun v _ => v = (.pointer (some ⟨w.heap.size + 1, 2, none⟩))) v wv) ∧ ((fa && fb && ga && gb && ea && ua) = false → v = undef)),
      (fun v wv => ((fa && fb && ga && gb && ea && ua) = true → (fun v _ => v = (.int .i64 yb)) v wv) ∧ ((fa && fb && ga && gb && ea && ua) = false → v = undef)),
      (fun v wv => ((fa && fb && ga && gb && ea && ua) = true → (fun v _ => v = (.bool (!eb))) v wv) ∧ ((fa && fb && ga && gb && ea && ua) = false → v = undef)),
      (fun v _ => v = (.bool (!(fa && fb && ga && gb && ea && ua && eb)))),
      (fun v _ => v = (.bool (!(fa && fb && ga && gb && ea && ua && eb)))),
      (fun v wv => ((fa && fb && ga && gb && ea && ua && eb) = true → (fun v _ => v = (.pointer (some ⟨w.heap.size + 1, 2, none⟩))) v wv) ∧ ((fa && fb && ga && gb && ea && ua && eb) = false → v = undef)),
      (fun v wv => ((fa && fb && ga && gb && ea && ua && eb) = true → (fun v _ => v = (.int .i64 yb)) v wv) ∧ ((fa && fb && ga && gb && ea && ua && eb) = false → v = undef)),
      (fun v wv => ((fa && fb && ga && gb && ea && ua && eb) = true → (fun v _ => v = (.bool (!ub))) v wv) ∧ ((fa && fb && ga && gb && ea && ua && eb) = false → v = undef)),
      (fun v _ => v = (.bool (!(fa && fb && ga && gb && ea && ua && eb && ub))))])
    rfl (by kernel_rfl) (by kernel_rfl) (by kernel_rfl) (mono_of _ ⟨mono_eq _, mono_eq _, mono_eq _, mono_eq _, mono_eq _, fun v w w' k h => ⟨fun hC => (fun v w w' k h => by first | exact h | exact h.kept k | exact ⟨h.1, h.2.kept k⟩) v w w' k (h.1 hC), h.2⟩, fun v w w' k h => ⟨fun hC => (fun v w w' k h => by first | exact h | exact h.kept k | exact ⟨h.1, h.2.kept k⟩) v w w' k (h.1 hC), h.2⟩, fun v w w' k h => ⟨fun hC => (fun v w w' k h => by first | exact h | exact h.kept k | exact ⟨h.1, h.2.kept k⟩) v w w' k (h.1 hC), h.2⟩, fun v w w' k h => ⟨fun hC => (fun v w w' k h => by first | exact h | exact h.kept k | exact ⟨h.1, h.2.kept k⟩) v w w' k (h.1 hC), h.2⟩, mono_eq _, mono_eq _, fun v w w' k h => ⟨fun hC => (fun v w w' k h => by first | exact h | exact h.kept k | exact ⟨h.1, h.2.kept k⟩) v w w' k (h.1 hC), h.2⟩, fun v w w' k h => ⟨fun hC => (fun v w w' k h => by first | exact h | exact h.kept k | exact ⟨h.1, h.2.kept k⟩) v w w' k (h.1 hC), h.2⟩, fun v w w' k h => ⟨fun hC => (fun v w w' k h => by first | exact h | exact h.kept k | exact ⟨h.1, h.2.kept k⟩) v w w' k (h.1 hC), h.2⟩, mono_eq _, mono_eq _, fun v w w' k h => ⟨fun hC => (fun v w w' k h => by first | exact h | exact h.kept k | exact ⟨h.1, h.2.kept k⟩) v w w' k (h.1 hC), h.2⟩, fun v w w' k h => ⟨fun hC => (fun v w w' k h => by first | exact h | exact h.kept k | exact ⟨h.1, h.2.kept k⟩) v w w' k (h.1 hC), h.2⟩, fun v w w' k h => ⟨fun hC => (fun v w w' k h => by first | exact h | exact h.kept k | exact ⟨h.1, h.2.kept k⟩) v w w' k (h.1 hC), h.2⟩, mono_eq _, mono_eq _, fun v w w' k h => ⟨fun hC => (fun v w w' k h => by first | exact h | exact h.kept k | exact ⟨h.1, h.2.kept k⟩) v w w' k (h.1 hC), h.2⟩, fun v w w' k h => ⟨fun hC => (fun v w w' k h => by first | exact h | exact h.kept k | exact ⟨h.1, h.2.kept k⟩) v w w' k (h.1 hC), h.2⟩, fun v w w' k h => ⟨fun hC => (fun v w w' k h => by first | exact h | exact h.kept k | exact ⟨h.1, h.2.kept k⟩) v w w' k (h.1 hC), h.2⟩, mono_eq _, mono_eq _, fun v w w' k h => ⟨fun hC => (fun v w w' k h => by first | exact h | exact h.kept k | exact ⟨h.1, h.2.kept k⟩) v w w' k (h.1 hC), h.2⟩, fun v w w' k h => ⟨fun hC => (fun v w w' k h => by first | exact h | exact h.kept k | exact ⟨h.1, h.2.kept k⟩) v w w' k (h.1 hC), h.2⟩, fun v w w' k h => ⟨fun hC => (fun v w w' k h => by first | exact h | exact h.kept k | exact ⟨h.1, h.2.kept k⟩) v w w' k (h.1 hC), h.2⟩, mono_eq _, mono_eq _, fun v w w' k h => ⟨fun hC => (fun v w w' k h => by first | exact h | exact h.kept k | exact ⟨h.1, h.2.kept k⟩) v w w' k (h.1 hC), h.2⟩, fun v w w' k h => ⟨fun hC => (fun v w w' k h => by first | exact h | exact h.kept k | exact ⟨h.1, h.2.kept k⟩) v w w' k (h.1 hC), h.2⟩, fun v w w' k h => ⟨fun hC => (fun v w w' k h => by first | exact h | exact h.kept k | exact ⟨h.1, h.2.kept k⟩) v w w' k (h.1 hC), h.2⟩, mono_eq _, mono_eq _, fun v w w' k h => ⟨fun hC => (fun v w w' k h => by first | exact h | exact h.kept k | exact ⟨h.1, h.2.kept k⟩) v w w' k (h.1 hC), h.2⟩, fun v w w' k h => ⟨fun hC => (fun v w w' k h => by first | exact h | exact h.kept k | exact ⟨h.1, h.2.kept k⟩) v w w' k (h.1 hC), h.2⟩, fun v w w' k h => ⟨fun hC => (fun v w w' k h => by first | exact h | exact h.kept k | exact ⟨h.1, h.2.kept k⟩) v w w' k (h.1 hC), h.2⟩, mono_eq _, trivial⟩) (steps_of ⟨
      (fun aF wF F => by
    have s2 : aF.tmps.getD 2 undef = (.pointer (some ⟨w.heap.size, 0, none⟩)) := F.old 2 (by kernel_rfl)
    exact step_val (by simp [Region.wanted]) (by go_simp) rfl),
      (fun aF wF F => by
    have s23 : aF.tmps.getD 23 undef = (.pointer (some ⟨w.heap.size, 1, none⟩)) := F.done 0 23 (by kernel_rfl) rfl
    have c0 := cell_at HA.out F.kept 1 _ rfl
    exact step_val (by simp [Region.wanted]) (by go_simp) rfl),
      (fun aF wF F => by
    have s24 : aF.tmps.getD 24 undef = (.slice Aa ia ja) := F.done 1 24 (by kernel_rfl) rfl
    exact step_val (by simp [Region.wanted]) (by go_simp) rfl),
      (fun aF wF F => by
    have s25 : aF.tmps.getD 25 undef = (.int .i64 (ia : Int)) := F.done 2 25 (by kernel_rfl) rfl
    exact step_val (by simp [Region.wanted]) (by (go_simp; exact GA.out)) rfl),
      (fun aF wF F => by
    have s26 : aF.tmps.getD 26 undef = (.bool (!fa)) := F.done 3 26 (by kernel_rfl) rfl
    exact step_val (by simp [Region.wanted]) (by go_simp) rfl),
      (fun aF wF F => by
    have sg : aF.tmps.getD 27 undef = (.bool (!fa)) := F.done 4 27 (by kernel_rfl) rfl
    have s3 : aF.tmps.getD 3 undef = (.pointer (some ⟨w.heap.size + 1, 0, none⟩)) := F.old 3 (by kernel_rfl)
    rcases bools fa with hC | hC
    · refine step_imp (V1 := fun _ => (fun v _ => v = (.pointer (some ⟨w.heap.size + 1, 1, none⟩)))) ?_ (fun _ _ h => ⟨fun _ => h, fun hN => absurd (hC.symm.trans hN) (by decide)⟩)
      exact step_val ((wanted_guard rfl rfl sg).trans (by first | rfl | simp [hC])) (by go_simp) rfl
    · exact step_out ((wanted_guard rfl rfl sg).trans (by first | rfl | simp [hC])) ⟨fun h => absurd (hC.symm.trans h) (by decide), fun _ => rfl⟩),
      (fun aF wF F => by
    have sg : aF.tmps.getD 27 undef = (.bool (!fa)) := F.done 4 27 (by kernel_rfl) rfl
    have s28 : (fa = true → aF.tmps.getD 28 undef = (.pointer (some ⟨w.heap.size + 1, 1, none⟩))) ∧ (fa = false → aF.tmps.getD 28 undef = undef) := F.done 5 28 (by kernel_rfl) rfl
    have c0 := cell_at HB.out F.kept 1 _ rfl
    rcases bools fa with hC | hC
    · refine step_imp (V1 := fun _ => (fun v _ => v = (.slice Ab ib jb))) ?_ (fun _ _ h => ⟨fun _ => h, fun hN => absurd (hC.symm.trans hN) (by decide)⟩)
      replace s28 := s28.1 hC
      exact step_val ((wanted_guard rfl rfl sg).trans (by first | rfl | simp [hC])) (by go_simp) rfl
    · exact step_out ((wanted_guard rfl rfl sg).trans (by first | rfl | simp [hC])) ⟨fun h => absurd (hC.symm.trans h) (by decide), fun _ => rfl⟩),
      (fun aF wF F => by
    have sg : aF.tmps.getD 27 undef = (.bool (!fa)) := F.done 4 27 (by kernel_rfl) rfl
    have s29 : (fa = true → aF.tmps.getD 29 undef = (.slice Ab ib jb)) ∧ (fa = false → aF.tmps.getD 29 undef = undef) := F.done 6 29 (by kernel_rfl) rfl
    rcases bools fa with hC | hC
    · refine step_imp (V1 := fun _ => (fun v _ => v = (.int .i64 (ib : Int)))) ?_ (fun _ _ h => ⟨fun _ => h, fun hN => absurd (hC.symm.trans hN) (by decide)⟩)
      replace s29 := s29.1 hC
      exact step_val ((wanted_guard rfl rfl sg).trans (by first | rfl | simp [hC])) (by go_simp) rfl
    · exact step_out ((wanted_guard rfl rfl sg).trans (by first | rfl | simp [hC])) ⟨fun h => absurd (hC.symm.trans h) (by decide), fun _ => rfl⟩),
      (fun aF wF F => by
    have sg : aF.tmps.getD 27 undef = (.bool (!fa)) := F.done 4 27 (by kernel_rfl) rfl
    have s30 : (fa = true → aF.tmps.getD 30 undef = (.int .i64 (ib : Int))) ∧ (fa = false → aF.tmps.getD 30 undef = undef) := F.done 7 30 (by kernel_rfl) rfl
    rcases bools fa with hC | hC
    · refine step_imp (V1 := fun _ => (fun v _ => v = (.bool (!fb)))) ?_ (fun _ _ h => ⟨fun _ => h, fun hN => absurd (hC.symm.trans hN) (by decide)⟩)
      replace s30 := s30.1 hC
      exact step_val ((wanted_guard rfl rfl sg).trans (by first | rfl | simp [hC])) (by (go_simp; exact GB.out)) rfl
    · exact step_out ((wanted_guard rfl rfl sg).trans (by first | rfl | simp [hC])) ⟨fun h => absurd (hC.symm.trans h) (by decide), fun _ => rfl⟩),
      (fun aF wF F => by
    have s27 : aF.tmps.getD 27 undef = (.bool (!fa)) := F.done 4 27 (by kernel_rfl) rfl
    have s31 : (fa = true → aF.tmps.getD 31 undef = (.bool (!fb))) ∧ (fa = false → aF.tmps.getD 31 undef = undef) := F.done 8 31 (by kernel_rfl) rfl
    rcases bools fa with hE | hE
    · replace s31 := s31.1 hE
      exact step_val (by simp [Region.wanted]) (by first | (go_simp; done) | (go_simp; simp_all; done) | (simp_all; done)) rfl
    · exact step_val (by simp [Region.wanted]) (by first | (go_simp; done) | (go_simp; simp_all; done) | (simp_all; done)) rfl),
      (fun aF wF F => by
    have s32 : aF.tmps.getD 32 undef = (.bool (!(fa && fb))) := F.done 9 32 (by kernel_rfl) rfl
    exact step_val (by simp [Region.wanted]) (by go_simp) rfl),
      (fun aF wF F => by
    have sg : aF.tmps.getD 33 undef = (.bool (!(fa && fb))) := F.done 10 33 (by kernel_rfl) rfl
    have s2 : aF.tmps.getD 2 undef = (.pointer (some ⟨w.heap.size, 0, none⟩)) := F.old 2 (by kernel_rfl)
    have c0 := cell_at HA.out F.kept 0 _ rfl
    have c1 := cell_at HA.out F.kept 1 _ rfl
    have c2 := cell_at HA.out F.kept 2 _ rfl
    rcases bools (fa && fb) with hC | hC
    · refine step_imp (V1 := fun _ => (fun v _ => v = (.agg #[.bool xa, .slice Aa ia ja, .int .i64 ya]))) ?_ (fun _ _ h => ⟨fun _ => h, fun hN => absurd (hC.symm.trans hN) (by decide)⟩)
      exact step_val ((wanted_guard rfl rfl sg).trans (by first | rfl | simp [hC])) (by go_simp) rfl
    · exact step_out ((wanted_guard rfl rfl sg).trans (by first | rfl | simp [hC])) ⟨fun h => absurd (hC.symm.trans h) (by decide), fun _ => rfl⟩),
      (fun aF wF F => by
    have sg : aF.tmps.getD 33 undef = (.bool (!(fa && fb))) := F.done 10 33 (by kernel_rfl) rfl
    have s34 : ((fa && fb) = true → aF.tmps.getD 34 undef = (.agg #[.bool xa, .slice Aa ia ja, .int .i64 ya])) ∧ ((fa && fb) = false → aF.tmps.getD 34 undef = undef) := F.done 11 34 (by kernel_rfl) rfl
    rcases bools (fa && fb) with hC | hC
    · refine step_imp (V1 := fun _ => (fun v _ => v = (.bool ga))) ?_ (fun _ _ h => ⟨fun _ => h, fun hN => absurd (hC.symm.trans hN) (by decide)⟩)
      replace s34 := s34.1 hC
      exact step_good ((wanted_guard rfl rfl sg).trans (by first | rfl | simp [hC])) (by go_simp) (MA.out _ (K.out.trans F.kept)) (fun _ _ h => RetK.good h) (fun _ _ h => h)
    · exact step_out ((wanted_guard rfl rfl sg).trans (by first | rfl | simp [hC])) ⟨fun h => absurd (hC.symm.trans h) (by decide), fun _ => rfl⟩),
      (fun aF wF F => by
    have sg : aF.tmps.getD 33 undef = (.bool (!(fa && fb))) := F.done 10 33 (by kernel_rfl) rfl
    have s35 : ((fa && fb) = true → aF.tmps.getD 35 undef = (.bool ga)) ∧ ((fa && fb) = false → aF.tmps.getD 35 undef = undef) := F.done 12 35 (by kernel_rfl) rfl
    rcases bools (fa && fb) with hC | hC
    · refine step_imp (V1 := fun _ => (fun v _ => v = (.bool (!ga)))) ?_ (fun _ _ h => ⟨fun _ => h, fun hN => absurd (hC.symm.trans hN) (by decide)⟩)
      replace s35 := s35.1 hC
      exact step_val ((wanted_guard rfl rfl sg).trans (by first | rfl | simp [hC])) (by go_simp) rfl
    · exact step_out ((wanted_guard rfl rfl sg).trans (by first | rfl | simp [hC])) ⟨fun h => absurd (hC.symm.trans h) (by decide), fun _ => rfl⟩),
      (fun aF wF F => by
    have s33 : aF.tmps.getD 33 undef = (.bool (!(fa && fb))) := F.done 10 33 (by kernel_rfl) rfl
    have s36 : ((fa && fb) = true → aF.tmps.getD 36 undef = (.bool (!ga))) ∧ ((fa && fb) = false → aF.tmps.getD 36 undef = undef) := F.done 13 36 (by kernel_rfl) rfl
    rcases bools (fa && fb) with hE | hE
    · replace s36 := s36.1 hE
      exact step_val (by simp [Region.wanted]) (by first | (go_simp; done) | (go_simp; simp_all; done) | (simp_all; done)) rfl
    · exact step_val (by simp [Region.wanted]) (by first | (go_simp; done) | (go_simp; simp_all; done) | (simp_all; done)) rfl),
      (fun aF wF F => by
    have s37 : aF.tmps.getD 37 undef = (.bool (!(fa && fb && ga))) := F.done 14 37 (by kernel_rfl) rfl
    exact step_val (by simp [Region.wanted]) (by go_simp) rfl),
      (fun aF wF F => by
    have sg : aF.tmps.getD 38 undef = (.bool (!(fa && fb && ga))) := F.done 15 38 (by kernel_rfl) rfl
    have s3 : aF.tmps.getD 3 undef = (.pointer (some ⟨w.heap.size + 1, 0, none⟩)) := F.old 3 (by kernel_rfl)
    have c0 := cell_at HB.out F.kept 0 _ rfl
    have c1 := cell_at HB.out F.kept 1 _ rfl
    have c2 := cell_at HB.out F.kept 2 _ rfl
    rcases bools (fa && fb && ga) with hC | hC
    · refine step_imp (V1 := fun _ => (fun v _ => v = (.agg #[.bool xb, .slice Ab ib jb, .int .i64 yb]))) ?_ (fun _ _ h => ⟨fun _ => h, fun hN => absurd (hC.symm.trans hN) (by decide)⟩)
      exact step_val ((wanted_guard rfl rfl sg).trans (by first | rfl | simp [hC])) (by go_simp) rfl
    · exact step_out ((wanted_guard rfl rfl sg).trans (by first | rfl | simp [hC])) ⟨fun h => absurd (hC.symm.trans h) (by decide), fun _ => rfl⟩),
      (fun aF wF F => by
    have sg : aF.tmps.getD 38 undef = (.bool (!(fa && fb && ga))) := F.done 15 38 (by kernel_rfl) rfl
    have s39 : ((fa && fb && ga) = true → aF.tmps.getD 39 undef = (.agg #[.bool xb, .slice Ab ib jb, .int .i64 yb])) ∧ ((fa && fb && ga) = false → aF.tmps.getD 39 undef = undef) := F.done 16 39 (by kernel_rfl) rfl
    rcases bools (fa && fb && ga) with hC | hC
    · refine step_imp (V1 := fun _ => (fun v _ => v = (.bool gb))) ?_ (fun _ _ h => ⟨fun _ => h, fun hN => absurd (hC.symm.trans hN) (by decide)⟩)
      replace s39 := s39.1 hC
      exact step_good ((wanted_guard rfl rfl sg).trans (by first | rfl | simp [hC])) (by go_simp) (MB.out _ (K.out.trans F.kept)) (fun _ _ h => RetK.good h) (fun _ _ h => h)
    · exact step_out ((wanted_guard rfl rfl sg).trans (by first | rfl | simp [hC])) ⟨fun h => absurd (hC.symm.trans h) (by decide), fun _ => rfl⟩),
      (fun aF wF F => by
    have sg : aF.tmps.getD 38 undef = (.bool (!(fa && fb && ga))) := F.done 15 38 (by kernel_rfl) rfl
    have s40 : ((fa && fb && ga) = true → aF.tmps.getD 40 undef = (.bool gb)) ∧ ((fa && fb && ga) = false → aF.tmps.getD 40 undef = undef) := F.done 17 40 (by kernel_rfl) rfl
    rcases bools (fa && fb && ga) with hC | hC
    · refine step_imp (V1 := fun _ => (fun v _ => v = (.bool (!gb)))) ?_ (fun _ _ h => ⟨fun _ => h, fun hN => absurd (hC.symm.trans hN) (by decide)⟩)
      replace s40 := s40.1 hC
      exact step_val ((wanted_guard rfl rfl sg).trans (by first | rfl | simp [hC])) (by go_simp) rfl
    · exact step_out ((wanted_guard rfl rfl sg).trans (by first | rfl | simp [hC])) ⟨fun h => absurd (hC.symm.trans h) (by decide), fun _ => rfl⟩),
      (fun aF wF F => by
    have s38 : aF.tmps.getD 38 undef = (.bool (!(fa && fb && ga))) := F.done 15 38 (by kernel_rfl) rfl
    have s41 : ((fa && fb && ga) = true → aF.tmps.getD 41 undef = (.bool (!gb))) ∧ ((fa && fb && ga) = false → aF.tmps.getD 41 undef = undef) := F.done 18 41 (by kernel_rfl) rfl
    rcases bools (fa && fb && ga) with hE | hE
    · replace s41 := s41.1 hE
      exact step_val (by simp [Region.wanted]) (by first | (go_simp; done) | (go_simp; simp_all; done) | (simp_all; done)) rfl
    · exact step_val (by simp [Region.wanted]) (by first | (go_simp; done) | (go_simp; simp_all; done) | (simp_all; done)) rfl),
      (fun aF wF F => by
    have s42 : aF.tmps.getD 42 undef = (.bool (!(fa && fb && ga && gb))) := F.done 19 42 (by kernel_rfl) rfl
    exact step_val (by simp [Region.wanted]) (by go_simp) rfl),
      (fun aF wF F => by
    have sg : aF.tmps.getD 43 undef = (.bool (!(fa && fb && ga && gb))) := F.done 20 43 (by kernel_rfl) rfl
    have s2 : aF.tmps.getD 2 undef = (.pointer (some ⟨w.heap.size, 0, none⟩)) := F.old 2 (by kernel_rfl)
    rcases bools (fa && fb && ga && gb) with hC | hC
    · refine step_imp (V1 := fun _ => (fun v _ => v = (.pointer (some ⟨w.heap.size, 2, none⟩)))) ?_ (fun _ _ h => ⟨fun _ => h, fun hN => absurd (hC.symm.trans hN) (by decide)⟩)
      exact step_val ((wanted_guard rfl rfl sg).trans (by first | rfl | simp [hC])) (by go_simp) rfl
    · exact step_out ((wanted_guard rfl rfl sg).trans (by first | rfl | simp [hC])) ⟨fun h => absurd (hC.symm.trans h) (by decide), fun _ => rfl⟩),
      (fun aF wF F => by
    have sg : aF.tmps.getD 43 undef = (.bool (!(fa && fb && ga && gb))) := F.done 20 43 (by kernel_rfl) rfl
    have s44 : ((fa && fb && ga && gb) = true → aF.tmps.getD 44 undef = (.pointer (some ⟨w.heap.size, 2, none⟩))) ∧ ((fa && fb && ga && gb) = false → aF.tmps.getD 44 undef = undef) := F.done 21 44 (by kernel_rfl) rfl
    have c0 := cell_at HA.out F.kept 2 _ rfl
    rcases bools (fa && fb && ga && gb) with hC | hC
    · refine step_imp (V1 := fun _ => (fun v _ => v = (.int .i64 ya))) ?_ (fun _ _ h => ⟨fun _ => h, fun hN => absurd (hC.symm.trans hN) (by decide)⟩)
      replace s44 := s44.1 hC
      exact step_val ((wanted_guard rfl rfl sg).trans (by first | rfl | simp [hC])) (by go_simp) rfl
    · exact step_out ((wanted_guard rfl rfl sg).trans (by first | rfl | simp [hC])) ⟨fun h => absurd (hC.symm.trans h) (by decide), fun _ => rfl⟩),
      (fun aF wF F => by
    have sg : aF.tmps.getD 43 undef = (.bool (!(fa && fb && ga && gb))) := F.done 20 43 (by kernel_rfl) rfl
    have s45 : ((fa && fb && ga && gb) = true → aF.tmps.getD 45 undef = (.int .i64 ya)) ∧ ((fa && fb && ga && gb) = false → aF.tmps.getD 45 undef = undef) := F.done 22 45 (by kernel_rfl) rfl
    rcases bools (fa && fb && ga && gb) with hC | hC
    · refine step_imp (V1 := fun _ => (fun v _ => v = (.bool (!ea)))) ?_ (fun _ _ h => ⟨fun _ => h, fun hN => absurd (hC.symm.trans hN) (by decide)⟩)
      replace s45 := s45.1 hC
      exact step_val ((wanted_guard rfl rfl sg).trans (by first | rfl | simp [hC])) (by (go_simp; exact EA.out)) rfl
    · exact step_out ((wanted_guard rfl rfl sg).trans (by first | rfl | simp [hC])) ⟨fun h => absurd (hC.symm.trans h) (by decide), fun _ => rfl⟩),
      (fun aF wF F => by
    have s43 : aF.tmps.getD 43 undef = (.bool (!(fa && fb && ga && gb))) := F.done 20 43 (by kernel_rfl) rfl
    have s46 : ((fa && fb && ga && gb) = true → aF.tmps.getD 46 undef = (.bool (!ea))) ∧ ((fa && fb && ga && gb) = false → aF.tmps.getD 46 undef = undef) := F.done 23 46 (by kernel_rfl) rfl
    rcases bools (fa && fb && ga && gb) with hE | hE
    · replace s46 := s46.1 hE
      exact step_val (by simp [Region.wanted]) (by first | (go_simp; done) | (go_simp; simp_all; done) | (simp_all; done)) rfl
    · exact step_val (by simp [Region.wanted]) (by first | (go_simp; done) | (go_simp; simp_all; done) | (simp_all; done)) rfl),
      (fun aF wF F => by
    have s47 : aF.tmps.getD 47 undef = (.bool (!(fa && fb && ga && gb && ea))) := F.done 24 47 (by kernel_rfl) rfl
    exact step_val (by simp [Region.wanted]) (by go_simp) rfl),
      (fun aF wF F => by
    have sg : aF.tmps.getD 48 undef = (.bool (!(fa && fb && ga && gb && ea))) := F.done 25 48 (by kernel_rfl) rfl
    have s2 : aF.tmps.getD 2 undef = (.pointer (some ⟨w.heap.size, 0, none⟩)) := F.old 2 (by kernel_rfl)
    rcases bools (fa && fb && ga && gb && ea) with hC | hC
    · refine step_imp (V1 := fun _ => (fun v _ => v = (.pointer (some ⟨w.heap.size, 2, none⟩)))) ?_ (fun _ _ h => ⟨fun _ => h, fun hN => absurd (hC.symm.trans hN) (by decide)⟩)
      exact step_val ((wanted_guard rfl rfl sg).trans (by first | rfl | simp [hC])) (by go_simp) rfl
    · exact step_out ((wanted_guard rfl rfl sg).trans (by first | rfl | simp [hC])) ⟨fun h => absurd (hC.symm.trans h) (by decide), fun _ => rfl⟩),
      (fun aF wF F => by
    have sg : aF.tmps.getD 48 undef = (.bool (!(fa && fb && ga && gb && ea))) := F.done 25 48 (by kernel_rfl) rfl
    have s49 : ((fa && fb && ga && gb && ea) = true → aF.tmps.getD 49 undef = (.pointer (some ⟨w.heap.size, 2, none⟩))) ∧ ((fa && fb && ga && gb && ea) = false → aF.tmps.getD 49 undef = undef) := F.done 26 49 (by kernel_rfl) rfl
    have c0 := cell_at HA.out F.kept 2 _ rfl
    rcases bools (fa && fb && ga && gb && ea) with hC | hC
    · refine step_imp (V1 := fun _ => (fun v _ => v = (.int .i64 ya))) ?_ (fun _ _ h => ⟨fun _ => h, fun hN => absurd (hC.symm.trans hN) (by decide)⟩)
      replace s49 := s49.1 hC
      exact step_val ((wanted_guard rfl rfl sg).trans (by first | rfl | simp [hC])) (by go_simp) rfl
    · exact step_out ((wanted_guard rfl rfl sg).trans (by first | rfl | simp [hC])) ⟨fun h => absurd (hC.symm.trans h) (by decide), fun _ => rfl⟩),
      (fun aF wF F => by
    have sg : aF.tmps.getD 48 undef = (.bool (!(fa && fb && ga && gb && ea))) := F.done 25 48 (by kernel_rfl) rfl
    have s50 : ((fa && fb && ga && gb && ea) = true → aF.tmps.getD 50 undef = (.int .i64 ya)) ∧ ((fa && fb && ga && gb && ea) = false → aF.tmps.getD 50 undef = undef) := F.done 27 50 (by kernel_rfl) rfl
    rcases bools (fa && fb && ga && gb && ea) with hC | hC
    · refine step_imp (V1 := fun _ => (fun v _ => v = (.bool (!ua)))) ?_ (fun _ _ h => ⟨fun _ => h, fun hN => absurd (hC.symm.trans hN) (by decide)⟩)
      replace s50 := s50.1 hC
      exact step_val ((wanted_guard rfl rfl sg).trans (by first | rfl | simp [hC])) (by (go_simp; exact UA.out)) rfl
    · exact step_out ((wanted_guard rfl rfl sg).trans (by first | rfl | simp [hC])) ⟨fun h => absurd (hC.symm.trans h) (by decide), fun _ => rfl⟩),
      (fun aF wF F => by
    have s48 : aF.tmps.getD 48 undef = (.bool (!(fa && fb && ga && gb && ea))) := F.done 25 48 (by kernel_rfl) rfl
    have s51 : ((fa && fb && ga && gb && ea) = true → aF.tmps.getD 51 undef = (.bool (!ua))) ∧ ((fa && fb && ga && gb && ea) = false → aF.tmps.getD 51 undef = undef) := F.done 28 51 (by kernel_rfl) rfl
    rcases bools (fa && fb && ga && gb && ea) with hE | hE
    · replace s51 := s51.1 hE
      exact step_val (by simp [Region.wanted]) (by first | (go_simp; done) | (go_simp; simp_all; done) | (simp_all; done)) rfl
    · exact step_val (by simp [Region.wanted]) (by first | (go_simp; done) | (go_simp; simp_all; done) | (simp_all; done)) rfl),
      (fun aF wF F => by
    have s52 : aF.tmps.getD 52 undef = (.bool (!(fa && fb && ga && gb && ea && ua))) := F.done 29 52 (by kernel_rfl) rfl
    exact step_val (by simp [Region.wanted]) (by go_simp) rfl),
      (fun aF wF F => by
    have sg : aF.tmps.getD 53 undef = (.bool (!(fa && fb && ga && gb && ea && ua))) := F.done 30 53 (by kernel_rfl) rfl
    have s3 : aF.tmps.getD 3 undef = (.pointer (some ⟨w.heap.size + 1, 0, none⟩)) := F.old 3 (by kernel_rfl)
    rcases bools (fa && fb && ga && gb && ea && ua) with hC | hC
    · refine step_imp (V1 := fun _ => (fun v _ => v = (.pointer (some ⟨w.heap.size + 1, 2, none⟩)))) ?_ (fun _ _ h => ⟨fun _ => h, fun hN => absurd (hC.symm.trans hN) (by decide)⟩)
      exact step_val ((wanted_guard rfl rfl sg).trans (by first | rfl | simp [hC])) (by go_simp) rfl
    · exact step_out ((wanted_guard rfl rfl sg).trans (by first | rfl | simp [hC])) ⟨fun h => absurd (hC.symm.trans h) (by decide), fun _ => rfl⟩),
      (fun aF wF F => by
    have sg : aF.tmps.getD 53 undef = (.bool (!(fa && fb && ga && gb && ea && ua))) := F.done 30 53 (by kernel_rfl) rfl
    have s54 : ((fa && fb && ga && gb && ea && ua) = true → aF.tmps.getD 54 undef = (.pointer (some ⟨w.heap.size + 1, 2, none⟩))) ∧ ((fa && fb && ga && gb && ea && ua) = false → aF.tmps.getD 54 undef = undef) := F.done 31 54 (by kernel_rfl) rfl
    have c0 := cell_at HB.out F.kept 2 _ rfl
    rcases bools (fa && fb && ga && gb && ea && ua) with hC | hC
    · refine step_imp (V1 := fun _ => (fun v _ => v = (.int .i64 yb))) ?_ (fun _ _ h => ⟨fun _ => h, fun hN => absurd (hC.symm.trans hN) (by decide)⟩)
      replace s54 := s54.1 hC
      exact step_val ((wanted_guard rfl rfl sg).trans (by first | rfl | simp [hC])) (by go_simp) rfl
    · exact step_out ((wanted_guard rfl rfl sg).trans (by first | rfl | simp [hC])) ⟨fun h => absurd (hC.symm.trans h) (by decide), fun _ => rfl⟩),
      (fun aF wF F => by
    have sg : aF.tmps.getD 53 undef = (.bool (!(fa && fb && ga && gb && ea && ua))) := F.done 30 53 (by kernel_rfl) rfl
    have s55 : ((fa && fb && ga && gb && ea && ua) = true → aF.tmps.getD 55 undef = (.int .i64 yb)) ∧ ((fa && fb && ga && gb && ea && ua) = false → aF.tmps.getD 55 undef = undef) := F.done 32 55 (by kernel_rfl) rfl
    rcases bools (fa && fb && ga && gb && ea && ua) with hC | hC
    · refine step_imp (V1 := fun _ => (fun v _ => v = (.bool (!eb)))) ?_ (fun _ _ h => ⟨fun _ => h, fun hN => absurd (hC.symm.trans hN) (by decide)⟩)
      replace s55 := s55.1 hC
      exact step_val ((wanted_guard rfl rfl sg).trans (by first | rfl | simp [hC])) (by (go_simp; exact EB.out)) rfl
    · exact step_out ((wanted_guard rfl rfl sg).trans (by first | rfl | simp [hC])) ⟨fun h => absurd (hC.symm.trans h) (by decide), fun _ => rfl⟩),
      (fun aF wF F => by
    have s53 : aF.tmps.getD 53 undef = (.bool (!(fa && fb && ga && gb && ea && ua))) := F.done 30 53 (by kernel_rfl) rfl
    have s56 : ((fa && fb && ga && gb && ea && ua) = true → aF.tmps.getD 56 undef = (.bool (!eb))) ∧ ((fa && fb && ga && gb && ea && ua) = false → aF.tmps.getD 56 undef = undef) := F.done 33 56 (by kernel_rfl) rfl
    rcases bools (fa && fb && ga && gb && ea && ua) with hE | hE
    · replace s56 := s56.1 hE
      exact step_val (by simp [Region.wanted]) (by first | (go_simp; done) | (go_simp; simp_all; done) | (simp_all; done)) rfl
    · exact step_val (by simp [Region.wanted]) (by first | (go_simp; done) | (go_simp; simp_all; done) | (simp_all; done)) rfl),
      (fun aF wF F => by
    have s57 : aF.tmps.getD 57 undef = (.bool (!(fa && fb && ga && gb && ea && ua && eb))) := F.done 34 57 (by kernel_rfl) rfl
    exact step_val (by simp [Region.wanted]) (by go_simp) rfl),
      (fun aF wF F => by
    have sg : aF.tmps.getD 58 undef = (.bool (!(fa && fb && ga && gb && ea && ua && eb))) := F.done 35 58 (by kernel_rfl) rfl
    have s3 : aF.tmps.getD 3 undef = (.pointer (some ⟨w.heap.size + 1, 0, none⟩)) := F.old 3 (by kernel_rfl)
    rcases bools (fa && fb && ga && gb && ea && ua && eb) with hC | hC
    · refine step_imp (V1 := fun _ => (fun v _ => v = (.pointer (some ⟨w.heap.size + 1, 2, none⟩)))) ?_ (fun _ _ h => ⟨fun _ => h, fun hN => absurd (hC.symm.trans hN) (by decide)⟩)
      exact step_val ((wanted_guard rfl rfl sg).trans (by first | rfl | simp [hC])) (by go_simp) rfl
    · exact step_out ((wanted_guard rfl rfl sg).trans (by first | rfl | simp [hC])) ⟨fun h => absurd (hC.symm.trans h) (by decide), fun _ => rfl⟩),
      (fun aF wF F => by
    have sg : aF.tmps.getD 58 undef = (.bool (!(fa && fb && ga && gb && ea && ua && eb))) := F.done 35 58 (by kernel_rfl) rfl
    have s59 : ((fa && fb && ga && gb && ea && ua && eb) = true → aF.tmps.getD 59 undef = (.pointer (some ⟨w.heap.size + 1, 2, none⟩))) ∧ ((fa && fb && ga && gb && ea && ua && eb) = false → aF.tmps.getD 59 undef = undef) := F.done 36 59 (by kernel_rfl) rfl
    have c0 := cell_at HB.out F.kept 2 _ rfl
    rcases bools (fa && fb && ga && gb && ea && ua && eb) with hC | hC
    · refine step_imp (V1 := fun _ => (fun v _ => v = (.int .i64 yb))) ?_ (fun _ _ h => ⟨fun _ => h, fun hN => absurd (hC.symm.trans hN) (by decide)⟩)
      replace s59 := s59.1 hC
      exact step_val ((wanted_guard rfl rfl sg).trans (by first | rfl | simp [hC])) (by go_simp) rfl
    · exact step_out ((wanted_guard rfl rfl sg).trans (by first | rfl | simp [hC])) ⟨fun h => absurd (hC.symm.trans h) (by decide), fun _ => rfl⟩),
      (fun aF wF F => by
    have sg : aF.tmps.getD 58 undef = (.bool (!(fa && fb && ga && gb && ea && ua && eb))) := F.done 35 58 (by kernel_rfl) rfl
    have s60 : ((fa && fb && ga && gb && ea && ua && eb) = true → aF.tmps.getD 60 undef = (.int .i64 yb)) ∧ ((fa && fb && ga && gb && ea && ua && eb) = false → aF.tmps.getD 60 undef = undef) := F.done 37 60 (by kernel_rfl) rfl
    rcases bools (fa && fb && ga && gb && ea && ua && eb) with hC | hC
    · refine step_imp (V1 := fun _ => (fun v _ => v = (.bool (!ub)))) ?_ (fun _ _ h => ⟨fun _ => h, fun hN => absurd (hC.symm.trans hN) (by decide)⟩)
      replace s60 := s60.1 hC
      exact step_val ((wanted_guard rfl rfl sg).trans (by first | rfl | simp [hC])) (by (go_simp; exact UB.out)) rfl
    · exact step_out ((wanted_guard rfl rfl sg).trans (by first | rfl | simp [hC])) ⟨fun h => absurd (hC.symm.trans h) (by decide), fun _ => rfl⟩),
      (fun aF wF F => by
    have s58 : aF.tmps.getD 58 undef = (.bool (!(fa && fb && ga && gb && ea && ua && eb))) := F.done 35 58 (by kernel_rfl) rfl
    have s61 : ((fa && fb && ga && gb && ea && ua && eb) = true → aF.tmps.getD 61 undef = (.bool (!ub))) ∧ ((fa && fb && ga && gb && ea && ua && eb) = false → aF.tmps.getD 61 undef = undef) := F.done 38 61 (by kernel_rfl) rfl
    rcases bools (fa && fb && ga && gb && ea && ua && eb) with hE | hE
    · replace s61 := s61.1 hE
      exact step_val (by simp [Region.wanted]) (by first | (go_simp; done) | (go_simp; simp_all; done) | (simp_all; done)) rfl
    · exact step_val (by simp [Region.wanted]) (by first | (go_simp; done) | (go_simp; simp_all; done) | (simp_all; done)) rfl),
      trivial⟩) ?_
  intro u w1 k1 hu
  have e23 : u 0 = (.pointer (some ⟨w.heap.size, 1, none⟩)) := hu 0 (by decide)
  have e24 : u 1 = (.slice Aa ia ja) := hu 1 (by decide)
  have e25 : u 2 = (.int .i64 (ia : Int)) := hu 2 (by decide)
  have e26 : u 3 = (.bool (!fa)) := hu 3 (by decide)
  have e27 : u 4 = (.bool (!fa)) := hu 4 (by decide)
  have p28 := hu 5 (by decide)
  have p29 := hu 6 (by decide)
  have p30 := hu 7 (by decide)
  have p31 := hu 8 (by decide)
  have e32 : u 9 = (.bool (!(fa && fb))) := hu 9 (by decide)
  have e33 : u 10 = (.bool (!(fa && fb))) := hu 10 (by decide)
  have p34 := hu 11 (by decide)
  have p35 := hu 12 (by decide)
  have p36 := hu 13 (by decide)
  have e37 : u 14 = (.bool (!(fa && fb && ga))) := hu 14 (by decide)
  have e38 : u 15 = (.bool (!(fa && fb && ga))) := hu 15 (by decide)
  have p39 := hu 16 (by decide)
  have p40 := hu 17 (by decide)
  have p41 := hu 18 (by decide)
  have e42 : u 19 = (.bool (!(fa && fb && ga && gb))) := hu 19 (by decide)
  have e43 : u 20 = (.bool (!(fa && fb && ga && gb))) := hu 20 (by decide)
  have p44 := hu 21 (by decide)
  have p45 := hu 22 (by decide)
  have p46 := hu 23 (by decide)
  have e47 : u 24 = (.bool (!(fa && fb && ga && gb && ea))) := hu 24 (by decide)
  have e48 : u 25 = (.bool (!(fa && fb && ga && gb && ea))) := hu 25 (by decide)
  have p49 := hu 26 (by decide)
  have p50 := hu 27 (by decide)
  have p51 := hu 28 (by decide)
  have e52 : u 29 = (.bool (!(fa && fb && ga && gb && ea && ua))) := hu 29 (by decide)
  have e53 : u 30 = (.bool (!(fa && fb && ga && gb && ea && ua))) := hu 30 (by decide)
  have p54 := hu 31 (by decide)
  have p55 := hu 32 (by decide)
  have p56 := hu 33 (by decide)
  have e57 : u 34 = (.bool (!(fa && fb && ga && gb && ea && ua && eb))) := hu 34 (by decide)
  have e58 : u 35 = (.bool (!(fa && fb && ga && gb && ea && ua && eb))) := hu 35 (by decide)
  have p59 := hu 36 (by decide)
  have p60 := hu 37 (by decide)
  have p61 := hu 38 (by decide)
  have e62 : u 39 = (.bool (!(fa && fb && ga && gb && ea && ua && eb && ub))) := hu 39 (by decide)
  clear hu
  simp only [puts, slotOf, if_true, Act.put, List.setIfInBounds_toArray, List.set_cons_zero, List.set_cons_succ, List.getElem?_toArray, List.getElem?_cons_zero, List.getElem?_cons_succ, Option.bind_some, e23, e24, e25, e26, e27, e32, e33, e37, e38, e42, e43, e47, e48, e52, e53, e57, e58, e62]
  clear e23 e24 e25 e26 e27 e32 e33 e37 e38 e42 e43 e47 e48 e52 e53 e57 e58 e62
  generalize u 5 = v28 at *
  try simp only [VL, List.getD_cons_zero, List.getD_cons_succ] at p28
  generalize u 6 = v29 at *
  try simp only [VL, List.getD_cons_zero, List.getD_cons_succ] at p29
  generalize u 7 = v30 at *
  try simp only [VL, List.getD_cons_zero, List.getD_cons_succ] at p30
  generalize u 8 = v31 at *
  try simp only [VL, List.getD_cons_zero, List.getD_cons_succ] at p31
  generalize u 11 = v34 at *
  try simp only [VL, List.getD_cons_zero, List.getD_cons_succ] at p34
  generalize u 12 = v35 at *
  try simp only [VL, List.getD_cons_zero, List.getD_cons_succ] at p35
  generalize u 13 = v36 at *
  try simp only [VL, List.getD_cons_zero, List.getD_cons_succ] at p36
  generalize u 16 = v39 at *
  try simp only [VL, List.getD_cons_zero, List.getD_cons_succ] at p39
  generalize u 17 = v40 at *
  try simp only [VL, List.getD_cons_zero, List.getD_cons_succ] at p40
  generalize u 18 = v41 at *
  try simp only [VL, List.getD_cons_zero, List.getD_cons_succ] at p41
  generalize u 21 = v44 at *
  try simp only [VL, List.getD_cons_zero, List.getD_cons_succ] at p44
  generalize u 22 = v45 at *
  try simp only [VL, List.getD_cons_zero, List.getD_cons_succ] at p45
  generalize u 23 = v46 at *
  try simp only [VL, List.getD_cons_zero, List.getD_cons_succ] at p46
  generalize u 26 = v49 at *
  try simp only [VL, List.getD_cons_zero, List.getD_cons_succ] at p49
  generalize u 27 = v50 at *
  try simp only [VL, List.getD_cons_zero, List.getD_cons_succ] at p50
  generalize u 28 = v51 at *
  try simp only [VL, List.getD_cons_zero, List.getD_cons_succ] at p51
  generalize u 31 = v54 at *
  try simp only [VL, List.getD_cons_zero, List.getD_cons_succ] at p54
  generalize u 32 = v55 at *
  try simp only [VL, List.getD_cons_zero, List.getD_cons_succ] at p55
  generalize u 33 = v56 at *
  try simp only [VL, List.getD_cons_zero, List.getD_cons_succ] at p56
  generalize u 36 = v59 at *
  try simp only [VL, List.getD_cons_zero, List.getD_cons_succ] at p59
  generalize u 37 = v60 at *
  try simp only [VL, List.getD_cons_zero, List.getD_cons_succ] at p60
  generalize u 38 = v61 at *
  try simp only [VL, List.getD_cons_zero, List.getD_cons_succ] at p61
  clear p28 p29 p30 p31 p34 p35 p36 p39 p40 p41 p44 p45 p46 p49 p50 p51 p54 p55 p56 p59 p60 p61 MA MB GA GB EA EB UA UB
  replace K := Lib.hid (K.out.trans k1)
  replace HA := Lib.hid (HA.out.kept k1)
  replace HB := Lib.hid (HB.out.kept k1)
  rcases (bools (fa && fb && ga && gb && ea && ua && eb && ub)).symm with hg | hg
  · rw [hg]
    go_wp2_with fail
    refine (told_c (T.out.kept K.out)).mono ?_
    rintro e w2 ⟨rfl, q⟩
    simp only []
    go_wp2_with fail
    go_ret
    exact ⟨rfl, K.out.trans q⟩
  rw [hg]
  simp only [Bool.and_eq_true] at hg
  obtain ⟨⟨⟨⟨⟨⟨⟨g1, g2⟩, g3⟩, g4⟩, g5⟩, g6⟩, g7⟩, g8⟩ := hg
  obtain ⟨oa, ra⟩ := CCA.out g1 g3 g5 g6
  obtain ⟨ob, rb⟩ := CCB.out g2 g4 g7 g8
  have IA := Lib.hid (fun w1 (k : Kept w w1) => show DyR w1 (.agg #[.bool xa, .slice Aa ia ja, .int .i64 ya]) a.dy.raw by rw [ra]; exact DA.out.kept k)
  have IB := Lib.hid (fun w1 (k : Kept w w1) => show DyR w1 (.agg #[.bool xb, .slice Ab ib jb, .int .i64 yb]) b.dy.raw by rw [rb]; exact DB.out.kept k)
  generalize a.dy = a at *
  generalize b.dy = b at *
  clear g1 g2 g3 g4 g5 g6 g7 g8 CCA CCB DA DB ra rb
  obtain ⟨iA, hiA⟩ : ∃ i, i = (pt a).raw := ⟨_, rfl⟩
  obtain ⟨iB, hiB⟩ : ∃ i, i = (pt b).raw := ⟨_, rfl⟩
  have OA := Lib.hid (fun w1 (k : Kept w w1) => show Calls Tryd.prog 30 _ w1 (RetI iA w1) by rw [hiA]; exact iof_c (IA.out w1 k))
  have OB := Lib.hid (fun w1 (k : Kept w w1) => show Calls Tryd.prog 30 _ w1 (RetI iB w1) by rw [hiB]; exact iof_c (IB.out w1 k))
  obtain ⟨o1, ho1⟩ : ∃ o, o = rawO (addI (pt a) (pt b) 600) := ⟨_, rfl⟩
  have C1 := Lib.hid (fun w1 v u (k : Kept w w1) (hv : IvR w1 v iA) (hu : IvR w1 u iB) => show Calls _ _ _ w1 (RetIE o1 w1) by rw [ho1]; rw [hiA] at hv; rw [hiB] at hu; exact Add_k (p := 600) hv hu (pt_ok oa.ok) (pt_ok ob.ok) (T.out.kept k) (by decide) (by decide))
  obtain ⟨o2, ho2⟩ : ∃ o, o = rawO (subI (pt a) (pt b) 600) := ⟨_, rfl⟩
  have C2 := Lib.hid (fun w1 v u (k : Kept w w1) (hv : IvR w1 v iA) (hu : IvR w1 u iB) => show Calls _ _ _ w1 (RetIE o2 w1) by rw [ho2]; rw [hiA] at hv; rw [hiB] at hu; exact Sub_k (p := 600) hv hu (pt_ok oa.ok) (pt_ok ob.ok) (T.out.kept k) (by decide) (by decide))
  obtain ⟨o3, ho3⟩ : ∃ o, o = rawO (mulI (pt a) (pt b) 600) := ⟨_, rfl⟩
  have C3 := Lib.hid (fun w1 v u (k : Kept w w1) (hv : IvR w1 v iA) (hu : IvR w1 u iB) => show Calls _ _ _ w1 (RetIE o3 w1) by rw [ho3]; rw [hiA] at hv; rw [hiB] at hu; exact Mul_k (p := 600) hv hu (pt_ok oa.ok) (pt_ok ob.ok) (T.out.kept k) (by decide) (by decide))
  obtain ⟨o4, ho4⟩ : ∃ o, o = rawO (sqrI (pt a) 600) := ⟨_, rfl⟩
  have C4 := Lib.hid (fun w1 v (k : Kept w w1) (hv : IvR w1 v iA) => show Calls _ _ _ w1 (RetIE o4 w1) by rw [ho4]; rw [hiA] at hv; exact Sqr_k (p := 600) hv (pt_ok oa.ok) (T.out.kept k) (by decide) (by decide))
  obtain ⟨o5, ho5⟩ : ∃ o, o = rawO (negI (pt a) 600) := ⟨_, rfl⟩
  have C5 := Lib.hid (fun w1 v (k : Kept w w1) (hv : IvR w1 v iA) => show Calls _ _ _ w1 (RetIE o5 w1) by rw [ho5]; rw [hiA] at hv; exact Neg_k (p := 600) hv (pt_ok oa.ok) (T.out.kept k) (by decide) (by decide))
  obtain ⟨o6, ho6⟩ : ∃ o, o = (sumD a b).raw := ⟨_, rfl⟩
  have C6 := Lib.hid (fun w1 (k : Kept w w1) => show Calls _ _ _ w1 (RetE o6 w1) by rw [ho6]; exact Add_c (IA.out w1 k) (IB.out w1 k) oa.ok ob.ok (T.out.kept k))
  have KK6 : Hid (o6.k = 0) := by rw [ho6]; exact (sumD_few oa ob).1
  obtain ⟨o7, ho7⟩ : ∃ o, o = (sumD a (negD b)).raw := ⟨_, rfl⟩
  have C7 := Lib.hid (fun w1 (k : Kept w w1) => show Calls _ _ _ w1 (RetE o7 w1) by rw [ho7]; exact Sub_c (IA.out w1 k) (IB.out w1 k) oa.ok ob.ok (T.out.kept k))
  have KK7 : Hid (o7.k = 0) := by rw [ho7]; exact (sumD_few oa (negD_few ob)).1
  obtain ⟨o8, ho8⟩ : ∃ o, o = (mulD a b).raw := ⟨_, rfl⟩
  have C8 := Lib.hid (fun w1 (k : Kept w w1) => show Calls _ _ _ w1 (RetE o8 w1) by rw [ho8]; exact Mul_c (IA.out w1 k) (IB.out w1 k) oa.ok ob.ok (T.out.kept k))
  have KK8 : Hid (o8.k = 0) := by rw [ho8]; exact (mulD_few oa ob).1
  obtain ⟨o9, ho9⟩ : ∃ o, o = (mulD a a).raw := ⟨_, rfl⟩
  have C9 := Lib.hid (fun w1 (k : Kept w w1) => show Calls _ _ _ w1 (RetE o9 w1) by rw [ho9]; exact Mul_c (IA.out w1 k) (IA.out w1 k) oa.ok oa.ok (T.out.kept k))
  have KK9 : Hid (o9.k = 0) := by rw [ho9]; exact (mulD_few oa oa).1
  have KK1 : Hid (o1.k = 0) := by rw [ho1, point_add oa ob]; rfl
  have V1 : Hid (o1.v = ⟨o6.v, o6.v⟩) := by rw [ho1, ho6, point_add oa ob]; rfl
  have KK2 : Hid (o2.k = 0) := by rw [ho2, point_sub oa ob]; rfl
  have V2 : Hid (o2.v = ⟨o7.v, o7.v⟩) := by rw [ho2, ho7, point_sub oa ob]; rfl
  have KK3 : Hid (o3.k = 0) := by rw [ho3, point_mul oa ob]; rfl
  have V3 : Hid (o3.v = ⟨o8.v, o8.v⟩) := by rw [ho3, ho8, point_mul oa ob]; rfl
  have KK4 : Hid (o4.k = 0) := by rw [ho4, point_sqr oa]; rfl
  have V4 : Hid (o4.v = ⟨o9.v, o9.v⟩) := by rw [ho4, ho9, point_sqr oa]; rfl
  obtain ⟨m, hm⟩ : ∃ m, m = (negD a).raw := ⟨_, rfl⟩
  have KK5 : Hid (o5.k = 0) := by rw [ho5, point_neg oa]; rfl
  have V5 : Hid (o5.v = ⟨m, m⟩) := by rw [ho5, hm, point_neg oa]; rfl
  have NA := Lib.hid (fun w1 (k : Kept w w1) => show Calls Tryd.prog 27 #[.agg #[.bool xa, .slice Aa ia ja, .int .i64 ya]] w1 (RetD m w1) by
    have h := dneg_c (IA.out w1 k) (by have := dy_len oa.ok; show a.raw.m.length ≤ _; omega)
    rw [hm]
    rwa [negR_raw _ oa.ok] at h)
  have L1 : Hid (o1.v.lens 17592186044416) := by rw [ho1]; exact okI_lens (addI_ok (pt_ok oa.ok) (pt_ok ob.ok) (by decide))
  have L2 : Hid (o2.v.lens 17592186044416) := by rw [ho2]; exact okI_lens (subI_ok (pt_ok oa.ok) (pt_ok ob.ok) (by decide))
  have L3 : Hid (o3.v.lens 17592186044416) := by rw [ho3]; exact okI_lens (mulI_ok (by decide))
  have L4 : Hid (o4.v.lens 17592186044416) := by rw [ho4]; exact okI_lens (sqrI_ok (by decide))
  have L5 : Hid (o5.v.lens 17592186044416) := by rw [ho5]; exact okI_lens (negI_ok (pt_ok oa.ok) (by decide))
  clear ho1 ho2 ho3 ho4 ho5 ho6 ho7 ho8 ho9 hiA hiB hm oa ob IA IB
  go_upto_region 3 with fail
  refine region_lin2e (e := 7) (m := 9) (V := VL [
      (fun v _ => v = (.agg #[.bool xa, .slice Aa ia ja, .int .i64 ya])),
      (fun v wv => IvR wv v iA),
      (fun v _ => v = (.agg #[.bool xb, .slice Ab ib jb, .int .i64 yb])),
      (fun v wv => IvR wv v iB),
      (fun v wv => ∃ d, v = .tuple #[d, .int .i64 o1.k] ∧ IvR wv d o1.v),
      (fun v wv => ∃ d, v = .tuple #[d, .int .i64 o1.k] ∧ IvR wv d o1.v),
      (fun v wv => IvR wv v o1.v),
      (fun v _ => v = (.int .i64 o1.k)),
      (fun v wv => ∃ b, v = .pointer (some ⟨b, 0, none⟩) ∧ w1.heap.size ≤ b ∧ BlkI wv b (.bool false) (.slice none 0 0) (.int .i64 0) (.bool false) (.slice none 0 0) (.int .i64 0))])
    (by kernel_rfl) rfl rfl rfl rfl rfl rfl rfl (by decide) (by kernel_rfl) (by kernel_rfl) (by kernel_rfl) (by kernel_rfl) (by kernel_rfl) (by kernel_rfl) (mono_of _ ⟨mono_eq _, fun v w w' k h => by first | exact h | exact h.kept k | exact ⟨h.1, h.2.kept k⟩, mono_eq _, fun v w w' k h => by first | exact h | exact h.kept k | exact ⟨h.1, h.2.kept k⟩, fun v w w' k h => by obtain ⟨d, h1, h2⟩ := h; exact ⟨d, h1, h2.kept k⟩, fun v w w' k h => by obtain ⟨d, h1, h2⟩ := h; exact ⟨d, h1, h2.kept k⟩, fun v w w' k h => by first | exact h | exact h.kept k | exact ⟨h.1, h.2.kept k⟩, mono_eq _, fun v w w' k h => by obtain ⟨b, h1, h2, h3⟩ := h; exact ⟨b, h1, h2, h3.kept k⟩, trivial⟩) (steps_of ⟨
      (fun aF wF F => by
    have s2 : aF.tmps.getD 2 undef = (.pointer (some ⟨w.heap.size, 0, none⟩)) := F.old 2 (by kernel_rfl)
    have c0 := cell_at HA.out F.kept 0 _ rfl
    have c1 := cell_at HA.out F.kept 1 _ rfl
    have c2 := cell_at HA.out F.kept 2 _ rfl
    exact step_val (by simp [Region.wanted]) (by go_simp) rfl),
      (fun aF wF F => by
    have s65 : aF.tmps.getD 65 undef = (.agg #[.bool xa, .slice Aa ia ja, .int .i64 ya]) := F.done 0 65 (by kernel_rfl) rfl
    exact step_good (by simp [Region.wanted]) (by go_simp) (OA.out _ (K.out.trans F.kept)) (fun _ _ h => RetI.good h) (fun _ _ h => h)),
      (fun aF wF F => by
    have s3 : aF.tmps.getD 3 undef = (.pointer (some ⟨w.heap.size + 1, 0, none⟩)) := F.old 3 (by kernel_rfl)
    have c0 := cell_at HB.out F.kept 0 _ rfl
    have c1 := cell_at HB.out F.kept 1 _ rfl
    have c2 := cell_at HB.out F.kept 2 _ rfl
    exact step_val (by simp [Region.wanted]) (by go_simp) rfl),
      (fun aF wF F => by
    have s67 : aF.tmps.getD 67 undef = (.agg #[.bool xb, .slice Ab ib jb, .int .i64 yb]) := F.done 2 67 (by kernel_rfl) rfl
    exact step_good (by simp [Region.wanted]) (by go_simp) (OB.out _ (K.out.trans F.kept)) (fun _ _ h => RetI.good h) (fun _ _ h => h)),
      (fun aF wF F => by
    have s66 : (fun v wv => IvR wv v iA) (aF.tmps.getD 66 undef) wF := F.done 1 66 (by kernel_rfl) rfl
    have s68 : (fun v wv => IvR wv v iB) (aF.tmps.getD 68 undef) wF := F.done 3 68 (by kernel_rfl) rfl
    exact step_good (by simp [Region.wanted]) (by go_simp) (C1.out _ _ _ (K.out.trans F.kept) s66 s68) (fun _ _ h => RetIE.good h) (fun _ _ h => h)),
      (fun aF wF F => by
    have s69 : (fun v wv => ∃ d, v = .tuple #[d, .int .i64 o1.k] ∧ IvR wv d o1.v) (aF.tmps.getD 69 undef) wF := F.done 4 69 (by kernel_rfl) rfl
    exact step_val (by simp [Region.wanted]) rfl s69),
      (fun aF wF F => by
    have s64 : (fun v wv => ∃ d, v = .tuple #[d, .int .i64 o1.k] ∧ IvR wv d o1.v) (aF.tmps.getD 64 undef) wF := F.done 5 64 (by kernel_rfl) rfl
    obtain ⟨dd, ee, hh⟩ := s64; exact step_val (by simp [Region.wanted]) (by go_simp) hh),
      (fun aF wF F => by
    have s64 : (fun v wv => ∃ d, v = .tuple #[d, .int .i64 o1.k] ∧ IvR wv d o1.v) (aF.tmps.getD 64 undef) wF := F.done 5 64 (by kernel_rfl) rfl
    exact step_val (by simp [Region.wanted]) (by obtain ⟨dd, ee, hh⟩ := s64; go_simp) rfl),
      (fun aF wF F => by
    exact step_new (by simp [Region.wanted]) (by go_simp) (kept_alloc _ _) ⟨_, rfl, F.kept.size, blkI_zero _⟩),
      trivial⟩) ?_
  intro u w1 k1 hu
  have e65 : u 0 = (.agg #[.bool xa, .slice Aa ia ja, .int .i64 ya]) := hu 0 (by decide) (by decide)
  have p66 := hu 1 (by decide) (by decide)
  obtain ⟨v66, e66⟩ : ∃ v, u 1 = v := ⟨_, rfl⟩
  rw [e66] at p66
  try simp only [VL, List.getD_cons_zero, List.getD_cons_succ] at p66
  have e67 : u 2 = (.agg #[.bool xb, .slice Ab ib jb, .int .i64 yb]) := hu 2 (by decide) (by decide)
  have p68 := hu 3 (by decide) (by decide)
  obtain ⟨v68, e68⟩ : ∃ v, u 3 = v := ⟨_, rfl⟩
  rw [e68] at p68
  try simp only [VL, List.getD_cons_zero, List.getD_cons_succ] at p68
  have p69 := hu 4 (by decide) (by decide)
  obtain ⟨v69, e69⟩ : ∃ v, u 4 = v := ⟨_, rfl⟩
  rw [e69] at p69
  try simp only [VL, List.getD_cons_zero, List.getD_cons_succ] at p69
  have p64 := hu 5 (by decide) (by decide)
  obtain ⟨v64, e64⟩ : ∃ v, u 5 = v := ⟨_, rfl⟩
  rw [e64] at p64
  try simp only [VL, List.getD_cons_zero, List.getD_cons_succ] at p64
  have p70 := hu 6 (by decide) (by decide)
  obtain ⟨v70, e70⟩ : ∃ v, u 6 = v := ⟨_, rfl⟩
  rw [e70] at p70
  try simp only [VL, List.getD_cons_zero, List.getD_cons_succ] at p70
  have p5 := hu 8 (by decide) (by decide)
  obtain ⟨v5, e5⟩ : ∃ v, u 8 = v := ⟨_, rfl⟩
  rw [e5] at p5
  try simp only [VL, List.getD_cons_zero, List.getD_cons_succ] at p5
  clear hu
  obtain ⟨b1, rfl, hb1, hx⟩ := p5
  obtain ⟨P1, p1, q1, Q1, r1, s1, rfl, z1, z2⟩ := ivR_split p70
  have l1 := Nat.lt_of_lt_of_le HB.out.facts.1 hb1
  obtain ⟨-, x0, x1, x2, x3, x4, x5⟩ := hx.facts
  obtain ⟨f0, f1, f2, f3, f4, f5⟩ := hx.free
  clear p66 p68 p70
  obtain ⟨d64, rfl, -⟩ := p64
  apply dup
  · intro G he
    simp only [VL, List.getD_cons_zero, List.getD_cons_succ] at he
    simp only [if_true, puts, slotOf, Act.put, List.setIfInBounds_toArray, List.set_cons_zero, List.set_cons_succ, List.getElem?_toArray, List.getElem?_cons_zero, List.getElem?_cons_succ, Option.bind_some, e65, e66, e67, e68, e69, e64, e70, e5, he]
    go_simp
    exact G
  · intro G
    simp only [puts, slotOf, Act.put, List.setIfInBounds_toArray, List.set_cons_zero, List.set_cons_succ, List.getElem?_toArray, List.getElem?_cons_zero, List.getElem?_cons_succ, Option.bind_some, e65, e66, e67, e68, e69, e64, e70, e5]
    go_simp
    exact G
  clear e65 e66 e67 e68 e69 e64 e70 e5
  have q := k1
  go_upto_region 4 with fail
  change Code.wp _ _ _ _ (ivW w1 b1 _ _ _ _ _ _)
  have UP : Hid (∀ (b' : Nat) (x y z x' y' z' : Value), BlkI w1 b' x y z x' y' z' → b' ≠ b1 → BlkI (ivW w1 b1 (.bool o1.v.lo.neg) (.slice P1 p1 q1) (.int .i64 o1.v.lo.e) (.bool o1.v.hi.neg) (.slice Q1 r1 s1) (.int .i64 o1.v.hi.e)) b' x y z x' y' z') := fun _ _ _ _ _ _ _ h hne => blkI_ivW h hne _ _ _ _ _ _
  have UD : Hid (∀ (v : Value) (r : Raw), DyR w1 v r → DyR (ivW w1 b1 (.bool o1.v.lo.neg) (.slice P1 p1 q1) (.int .i64 o1.v.lo.e) (.bool o1.v.hi.neg) (.slice Q1 r1 s1) (.int .i64 o1.v.hi.e)) v r) := fun _ _ h => h.ivW hx _ _ _ _ _ _
  have HX' := Lib.hid (hx.laid (.bool o1.v.lo.neg) (.slice P1 p1 q1) (.int .i64 o1.v.lo.e) (.bool o1.v.hi.neg) (.slice Q1 r1 s1) (.int .i64 o1.v.hi.e))
  replace K := Lib.hid (ivW_kept (x := .bool o1.v.lo.neg) (y := .slice P1 p1 q1) (z := .int .i64 o1.v.lo.e) (x' := .bool o1.v.hi.neg) (y' := .slice Q1 r1 s1) (z' := .int .i64 o1.v.hi.e) (K.out.trans q) (show w.heap.size ≤ b1 by omega))
  skip
  have UB : Hid (∀ (b' : Nat) (x y z : Value), Blk w1 b' x y z → b' ≠ b1 → Blk (ivW w1 b1 (.bool o1.v.lo.neg) (.slice P1 p1 q1) (.int .i64 o1.v.lo.e) (.bool o1.v.hi.neg) (.slice Q1 r1 s1) (.int .i64 o1.v.hi.e)) b' x y z) := fun _ _ _ _ h hne => blk_ivW h hne _ _ _ _ _ _
  replace HA := Lib.hid (UB.out _ _ _ _ (HA.out.kept q) (by omega))
  replace HB := Lib.hid (UB.out _ _ _ _ (HB.out.kept q) (by omega))
  have H1 := Lib.hid HX'.out
  have Z1 := Lib.hid (And.intro (UD.out _ _ z1) (UD.out _ _ z2))
  clear UP UB UD HX' hx x0 x1 x2 x3 x4 x5 f0 f1 f2 f3 f4 f5 q k1 z1 z2 hb1 C1
  generalize ivW w1 b1 (.bool o1.v.lo.neg) (.slice P1 p1 q1) (.int .i64 o1.v.lo.e) (.bool o1.v.hi.neg) (.slice Q1 r1 s1) (.int .i64 o1.v.hi.e) = V at *
  refine region_lin2e (e := 7) (m := 9) (V := VL [
      (fun v _ => v = (.agg #[.bool xa, .slice Aa ia ja, .int .i64 ya])),
      (fun v wv => IvR wv v iA),
      (fun v _ => v = (.agg #[.bool xb, .slice Ab ib jb, .int .i64 yb])),
      (fun v wv => IvR wv v iB),
      (fun v wv => ∃ d, v = .tuple #[d, .int .i64 o2.k] ∧ IvR wv d o2.v),
      (fun v wv => ∃ d, v = .tuple #[d, .int .i64 o2.k] ∧ IvR wv d o2.v),
      (fun v wv => IvR wv v o2.v),
      (fun v _ => v = (.int .i64 o2.k)),
      (fun v wv => ∃ b, v = .pointer (some ⟨b, 0, none⟩) ∧ V.heap.size ≤ b ∧ BlkI wv b (.bool false) (.slice none 0 0) (.int .i64 0) (.bool false) (.slice none 0 0) (.int .i64 0))])
    (by kernel_rfl) rfl rfl rfl rfl rfl rfl rfl (by decide) (by kernel_rfl) (by kernel_rfl) (by kernel_rfl) (by kernel_rfl) (by kernel_rfl) (by kernel_rfl) (mono_of _ ⟨mono_eq _, fun v w w' k h => by first | exact h | exact h.kept k | exact ⟨h.1, h.2.kept k⟩, mono_eq _, fun v w w' k h => by first | exact h | exact h.kept k | exact ⟨h.1, h.2.kept k⟩, fun v w w' k h => by obtain ⟨d, h1, h2⟩ := h; exact ⟨d, h1, h2.kept k⟩, fun v w w' k h => by obtain ⟨d, h1, h2⟩ := h; exact ⟨d, h1, h2.kept k⟩, fun v w w' k h => by first | exact h | exact h.kept k | exact ⟨h.1, h.2.kept k⟩, mono_eq _, fun v w w' k h => by obtain ⟨b, h1, h2, h3⟩ := h; exact ⟨b, h1, h2, h3.kept k⟩, trivial⟩) (steps_of ⟨
      (fun aF wF F => by
    have s2 : aF.tmps.getD 2 undef = (.pointer (some ⟨w.heap.size, 0, none⟩)) := F.old 2 (by kernel_rfl)
    have c0 := cell_at HA.out F.kept 0 _ rfl
    have c1 := cell_at HA.out F.kept 1 _ rfl
    have c2 := cell_at HA.out F.kept 2 _ rfl
    exact step_val (by simp [Region.wanted]) (by go_simp) rfl),
      (fun aF wF F => by
    have s73 : aF.tmps.getD 73 undef = (.agg #[.bool xa, .slice Aa ia ja, .int .i64 ya]) := F.done 0 73 (by kernel_rfl) rfl
    exact step_good (by simp [Region.wanted]) (by go_simp) (OA.out _ (K.out.trans F.kept)) (fun _ _ h => RetI.good h) (fun _ _ h => h)),
      (fun aF wF F => by
    have s3 : aF.tmps.getD 3 undef = (.pointer (some ⟨w.heap.size + 1, 0, none⟩)) := F.old 3 (by kernel_rfl)
    have c0 := cell_at HB.out F.kept 0 _ rfl
    have c1 := cell_at HB.out F.kept 1 _ rfl
    have c2 := cell_at HB.out F.kept 2 _ rfl
    exact step_val (by simp [Region.wanted]) (by go_simp) rfl),
      (fun aF wF F => by
    have s75 : aF.tmps.getD 75 undef = (.agg #[.bool xb, .slice Ab ib jb, .int .i64 yb]) := F.done 2 75 (by kernel_rfl) rfl
    exact step_good (by simp [Region.wanted]) (by go_simp) (OB.out _ (K.out.trans F.kept)) (fun _ _ h => RetI.good h) (fun _ _ h => h)),
      (fun aF wF F => by
    have s74 : (fun v wv => IvR wv v iA) (aF.tmps.getD 74 undef) wF := F.done 1 74 (by kernel_rfl) rfl
    have s76 : (fun v wv => IvR wv v iB) (aF.tmps.getD 76 undef) wF := F.done 3 76 (by kernel_rfl) rfl
    exact step_good (by simp [Region.wanted]) (by go_simp) (C2.out _ _ _ (K.out.trans F.kept) s74 s76) (fun _ _ h => RetIE.good h) (fun _ _ h => h)),
      (fun aF wF F => by
    have s77 : (fun v wv => ∃ d, v = .tuple #[d, .int .i64 o2.k] ∧ IvR wv d o2.v) (aF.tmps.getD 77 undef) wF := F.done 4 77 (by kernel_rfl) rfl
    exact step_val (by simp [Region.wanted]) rfl s77),
      (fun aF wF F => by
    have s72 : (fun v wv => ∃ d, v = .tuple #[d, .int .i64 o2.k] ∧ IvR wv d o2.v) (aF.tmps.getD 72 undef) wF := F.done 5 72 (by kernel_rfl) rfl
    obtain ⟨dd, ee, hh⟩ := s72; exact step_val (by simp [Region.wanted]) (by go_simp) hh),
      (fun aF wF F => by
    have s72 : (fun v wv => ∃ d, v = .tuple #[d, .int .i64 o2.k] ∧ IvR wv d o2.v) (aF.tmps.getD 72 undef) wF := F.done 5 72 (by kernel_rfl) rfl
    exact step_val (by simp [Region.wanted]) (by obtain ⟨dd, ee, hh⟩ := s72; go_simp) rfl),
      (fun aF wF F => by
    exact step_new (by simp [Region.wanted]) (by go_simp) (kept_alloc _ _) ⟨_, rfl, F.kept.size, blkI_zero _⟩),
      trivial⟩) ?_
  intro u w1 k1 hu
  have e73 : u 0 = (.agg #[.bool xa, .slice Aa ia ja, .int .i64 ya]) := hu 0 (by decide) (by decide)
  have p74 := hu 1 (by decide) (by decide)
  obtain ⟨v74, e74⟩ : ∃ v, u 1 = v := ⟨_, rfl⟩
  rw [e74] at p74
  try simp only [VL, List.getD_cons_zero, List.getD_cons_succ] at p74
  have e75 : u 2 = (.agg #[.bool xb, .slice Ab ib jb, .int .i64 yb]) := hu 2 (by decide) (by decide)
  have p76 := hu 3 (by decide) (by decide)
  obtain ⟨v76, e76⟩ : ∃ v, u 3 = v := ⟨_, rfl⟩
  rw [e76] at p76
  try simp only [VL, List.getD_cons_zero, List.getD_cons_succ] at p76
  have p77 := hu 4 (by decide) (by decide)
  obtain ⟨v77, e77⟩ : ∃ v, u 4 = v := ⟨_, rfl⟩
  rw [e77] at p77
  try simp only [VL, List.getD_cons_zero, List.getD_cons_succ] at p77
  have p72 := hu 5 (by decide) (by decide)
  obtain ⟨v72, e72⟩ : ∃ v, u 5 = v := ⟨_, rfl⟩
  rw [e72] at p72
  try simp only [VL, List.getD_cons_zero, List.getD_cons_succ] at p72
  have p78 := hu 6 (by decide) (by decide)
  obtain ⟨v78, e78⟩ : ∃ v, u 6 = v := ⟨_, rfl⟩
  rw [e78] at p78
  try simp only [VL, List.getD_cons_zero, List.getD_cons_succ] at p78
  have p7 := hu 8 (by decide) (by decide)
  obtain ⟨v7, e7⟩ : ∃ v, u 8 = v := ⟨_, rfl⟩
  rw [e7] at p7
  try simp only [VL, List.getD_cons_zero, List.getD_cons_succ] at p7
  clear hu
  obtain ⟨b2, rfl, hb2, hx⟩ := p7
  obtain ⟨P2, p2, q2, Q2, r2, s2, rfl, z1, z2⟩ := ivR_split p78
  have l2 := Nat.lt_of_lt_of_le H1.out.facts.1 hb2
  obtain ⟨-, x0, x1, x2, x3, x4, x5⟩ := hx.facts
  obtain ⟨f0, f1, f2, f3, f4, f5⟩ := hx.free
  clear p74 p76 p78
  obtain ⟨d72, rfl, -⟩ := p72
  apply dup
  · intro G he
    simp only [VL, List.getD_cons_zero, List.getD_cons_succ] at he
    simp only [if_true, puts, slotOf, Act.put, List.setIfInBounds_toArray, List.set_cons_zero, List.set_cons_succ, List.getElem?_toArray, List.getElem?_cons_zero, List.getElem?_cons_succ, Option.bind_some, e73, e74, e75, e76, e77, e72, e78, e7, he]
    go_simp
    exact G
  · intro G
    simp only [puts, slotOf, Act.put, List.setIfInBounds_toArray, List.set_cons_zero, List.set_cons_succ, List.getElem?_toArray, List.getElem?_cons_zero, List.getElem?_cons_succ, Option.bind_some, e73, e74, e75, e76, e77, e72, e78, e7]
    go_simp
    exact G
  clear e73 e74 e75 e76 e77 e72 e78 e7
  have q := k1
  go_upto_region 5 with fail
  change Code.wp _ _ _ _ (ivW w1 b2 _ _ _ _ _ _)
  have UP : Hid (∀ (b' : Nat) (x y z x' y' z' : Value), BlkI w1 b' x y z x' y' z' → b' ≠ b2 → BlkI (ivW w1 b2 (.bool o2.v.lo.neg) (.slice P2 p2 q2) (.int .i64 o2.v.lo.e) (.bool o2.v.hi.neg) (.slice Q2 r2 s2) (.int .i64 o2.v.hi.e)) b' x y z x' y' z') := fun _ _ _ _ _ _ _ h hne => blkI_ivW h hne _ _ _ _ _ _
  have UD : Hid (∀ (v : Value) (r : Raw), DyR w1 v r → DyR (ivW w1 b2 (.bool o2.v.lo.neg) (.slice P2 p2 q2) (.int .i64 o2.v.lo.e) (.bool o2.v.hi.neg) (.slice Q2 r2 s2) (.int .i64 o2.v.hi.e)) v r) := fun _ _ h => h.ivW hx _ _ _ _ _ _
  have HX' := Lib.hid (hx.laid (.bool o2.v.lo.neg) (.slice P2 p2 q2) (.int .i64 o2.v.lo.e) (.bool o2.v.hi.neg) (.slice Q2 r2 s2) (.int .i64 o2.v.hi.e))
  replace K := Lib.hid (ivW_kept (x := .bool o2.v.lo.neg) (y := .slice P2 p2 q2) (z := .int .i64 o2.v.lo.e) (x' := .bool o2.v.hi.neg) (y' := .slice Q2 r2 s2) (z' := .int .i64 o2.v.hi.e) (K.out.trans q) (show w.heap.size ≤ b2 by omega))
  skip
  have UB : Hid (∀ (b' : Nat) (x y z : Value), Blk w1 b' x y z → b' ≠ b2 → Blk (ivW w1 b2 (.bool o2.v.lo.neg) (.slice P2 p2 q2) (.int .i64 o2.v.lo.e) (.bool o2.v.hi.neg) (.slice Q2 r2 s2) (.int .i64 o2.v.hi.e)) b' x y z) := fun _ _ _ _ h hne => blk_ivW h hne _ _ _ _ _ _
  replace HA := Lib.hid (UB.out _ _ _ _ (HA.out.kept q) (by omega))
  replace HB := Lib.hid (UB.out _ _ _ _ (HB.out.kept q) (by omega))
  replace H1 := Lib.hid (UP.out _ _ _ _ _ _ _ (H1.out.kept q) (by omega))
  replace Z1 := Lib.hid (And.intro (UD.out _ _ (Z1.out.1.kept q)) (UD.out _ _ (Z1.out.2.kept q)))
  have H2 := Lib.hid HX'.out
  have Z2 := Lib.hid (And.intro (UD.out _ _ z1) (UD.out _ _ z2))
  clear UP UB UD HX' hx x0 x1 x2 x3 x4 x5 f0 f1 f2 f3 f4 f5 q k1 z1 z2 hb2 C2
  generalize ivW w1 b2 (.bool o2.v.lo.neg) (.slice P2 p2 q2) (.int .i64 o2.v.lo.e) (.bool o2.v.hi.neg) (.slice Q2 r2 s2) (.int .i64 o2.v.hi.e) = V at *
  refine region_lin2e (e := 7) (m := 9) (V := VL [
      (fun v _ => v = (.agg #[.bool xa, .slice Aa ia ja, .int .i64 ya])),
      (fun v wv => IvR wv v iA),
      (fun v _ => v = (.agg #[.bool xb, .slice Ab ib jb, .int .i64 yb])),
      (fun v wv => IvR wv v iB),
      (fun v wv => ∃ d, v = .tuple #[d, .int .i64 o3.k] ∧ IvR wv d o3.v),
      (fun v wv => ∃ d, v = .tuple #[d, .int .i64 o3.k] ∧ IvR wv d o3.v),
      (fun v wv => IvR wv v o3.v),
      (fun v _ => v = (.int .i64 o3.k)),
      (fun v wv => ∃ b, v = .pointer (some ⟨b, 0, none⟩) ∧ V.heap.size ≤ b ∧ BlkI wv b (.bool false) (.slice none 0 0) (.int .i64 0) (.bool false) (.slice none 0 0) (.int .i64 0))])
    (by kernel_rfl) rfl rfl rfl rfl rfl rfl rfl (by decide) (by kernel_rfl) (by kernel_rfl) (by kernel_rfl) (by kernel_rfl) (by kernel_rfl) (by kernel_rfl) (mono_of _ ⟨mono_eq _, fun v w w' k h => by first | exact h | exact h.kept k | exact ⟨h.1, h.2.kept k⟩, mono_eq _, fun v w w' k h => by first | exact h | exact h.kept k | exact ⟨h.1, h.2.kept k⟩, fun v w w' k h => by obtain ⟨d, h1, h2⟩ := h; exact ⟨d, h1, h2.kept k⟩, fun v w w' k h => by obtain ⟨d, h1, h2⟩ := h; exact ⟨d, h1, h2.kept k⟩, fun v w w' k h => by first | exact h | exact h.kept k | exact ⟨h.1, h.2.kept k⟩, mono_eq _, fun v w w' k h => by obtain ⟨b, h1, h2, h3⟩ := h; exact ⟨b, h1, h2, h3.kept k⟩, trivial⟩) (steps_of ⟨
      (fun aF wF F => by
    have s2 : aF.tmps.getD 2 undef = (.pointer (some ⟨w.heap.size, 0, none⟩)) := F.old 2 (by kernel_rfl)
    have c0 := cell_at HA.out F.kept 0 _ rfl
    have c1 := cell_at HA.out F.kept 1 _ rfl
    have c2 := cell_at HA.out F.kept 2 _ rfl
    exact step_val (by simp [Region.wanted]) (by go_simp) rfl),
      (fun aF wF F => by
    have s81 : aF.tmps.getD 81 undef = (.agg #[.bool xa, .slice Aa ia ja, .int .i64 ya]) := F.done 0 81 (by kernel_rfl) rfl
    exact step_good (by simp [Region.wanted]) (by go_simp) (OA.out _ (K.out.trans F.kept)) (fun _ _ h => RetI.good h) (fun _ _ h => h)),
      (fun aF wF F => by
    have s3 : aF.tmps.getD 3 undef = (.pointer (some ⟨w.heap.size + 1, 0, none⟩)) := F.old 3 (by kernel_rfl)
    have c0 := cell_at HB.out F.kept 0 _ rfl
    have c1 := cell_at HB.out F.kept 1 _ rfl
    have c2 := cell_at HB.out F.kept 2 _ rfl
    exact step_val (by simp [Region.wanted]) (by go_simp) rfl),
      (fun aF wF F => by
    have s83 : aF.tmps.getD 83 undef = (.agg #[.bool xb, .slice Ab ib jb, .int .i64 yb]) := F.done 2 83 (by kernel_rfl) rfl
    exact step_good (by simp [Region.wanted]) (by go_simp) (OB.out _ (K.out.trans F.kept)) (fun _ _ h => RetI.good h) (fun _ _ h => h)),
      (fun aF wF F => by
    have s82 : (fun v wv => IvR wv v iA) (aF.tmps.getD 82 undef) wF := F.done 1 82 (by kernel_rfl) rfl
    have s84 : (fun v wv => IvR wv v iB) (aF.tmps.getD 84 undef) wF := F.done 3 84 (by kernel_rfl) rfl
    exact step_good (by simp [Region.wanted]) (by go_simp) (C3.out _ _ _ (K.out.trans F.kept) s82 s84) (fun _ _ h => RetIE.good h) (fun _ _ h => h)),
      (fun aF wF F => by
    have s85 : (fun v wv => ∃ d, v = .tuple #[d, .int .i64 o3.k] ∧ IvR wv d o3.v) (aF.tmps.getD 85 undef) wF := F.done 4 85 (by kernel_rfl) rfl
    exact step_val (by simp [Region.wanted]) rfl s85),
      (fun aF wF F => by
    have s80 : (fun v wv => ∃ d, v = .tuple #[d, .int .i64 o3.k] ∧ IvR wv d o3.v) (aF.tmps.getD 80 undef) wF := F.done 5 80 (by kernel_rfl) rfl
    obtain ⟨dd, ee, hh⟩ := s80; exact step_val (by simp [Region.wanted]) (by go_simp) hh),
      (fun aF wF F => by
    have s80 : (fun v wv => ∃ d, v = .tuple #[d, .int .i64 o3.k] ∧ IvR wv d o3.v) (aF.tmps.getD 80 undef) wF := F.done 5 80 (by kernel_rfl) rfl
    exact step_val (by simp [Region.wanted]) (by obtain ⟨dd, ee, hh⟩ := s80; go_simp) rfl),
      (fun aF wF F => by
    exact step_new (by simp [Region.wanted]) (by go_simp) (kept_alloc _ _) ⟨_, rfl, F.kept.size, blkI_zero _⟩),
      trivial⟩) ?_
  intro u w1 k1 hu
  have e81 : u 0 = (.agg #[.bool xa, .slice Aa ia ja, .int .i64 ya]) := hu 0 (by decide) (by decide)
  have p82 := hu 1 (by decide) (by decide)
  obtain ⟨v82, e82⟩ : ∃ v, u 1 = v := ⟨_, rfl⟩
  rw [e82] at p82
  try simp only [VL, List.getD_cons_zero, List.getD_cons_succ] at p82
  have e83 : u 2 = (.agg #[.bool xb, .slice Ab ib jb, .int .i64 yb]) := hu 2 (by decide) (by decide)
  have p84 := hu 3 (by decide) (by decide)
  obtain ⟨v84, e84⟩ : ∃ v, u 3 = v := ⟨_, rfl⟩
  rw [e84] at p84
  try simp only [VL, List.getD_cons_zero, List.getD_cons_succ] at p84
  have p85 := hu 4 (by decide) (by decide)
  obtain ⟨v85, e85⟩ : ∃ v, u 4 = v := ⟨_, rfl⟩
  rw [e85] at p85
  try simp only [VL, List.getD_cons_zero, List.getD_cons_succ] at p85
  have p80 := hu 5 (by decide) (by decide)
  obtain ⟨v80, e80⟩ : ∃ v, u 5 = v := ⟨_, rfl⟩
  rw [e80] at p80
  try simp only [VL, List.getD_cons_zero, List.getD_cons_succ] at p80
  have p86 := hu 6 (by decide) (by decide)
  obtain ⟨v86, e86⟩ : ∃ v, u 6 = v := ⟨_, rfl⟩
  rw [e86] at p86
  try simp only [VL, List.getD_cons_zero, List.getD_cons_succ] at p86
  have p9 := hu 8 (by decide) (by decide)
  obtain ⟨v9, e9⟩ : ∃ v, u 8 = v := ⟨_, rfl⟩
  rw [e9] at p9
  try simp only [VL, List.getD_cons_zero, List.getD_cons_succ] at p9
  clear hu
  obtain ⟨b3, rfl, hb3, hx⟩ := p9
  obtain ⟨P3, p3, q3, Q3, r3, s3, rfl, z1, z2⟩ := ivR_split p86
  have l3 := Nat.lt_of_lt_of_le H2.out.facts.1 hb3
  obtain ⟨-, x0, x1, x2, x3, x4, x5⟩ := hx.facts
  obtain ⟨f0, f1, f2, f3, f4, f5⟩ := hx.free
  clear p82 p84 p86
  obtain ⟨d80, rfl, -⟩ := p80
  apply dup
  · intro G he
    simp only [VL, List.getD_cons_zero, List.getD_cons_succ] at he
    simp only [if_true, puts, slotOf, Act.put, List.setIfInBounds_toArray, List.set_cons_zero, List.set_cons_succ, List.getElem?_toArray, List.getElem?_cons_zero, List.getElem?_cons_succ, Option.bind_some, e81, e82, e83, e84, e85, e80, e86, e9, he]
    go_simp
    exact G
  · intro G
    simp only [puts, slotOf, Act.put, List.setIfInBounds_toArray, List.set_cons_zero, List.set_cons_succ, List.getElem?_toArray, List.getElem?_cons_zero, List.getElem?_cons_succ, Option.bind_some, e81, e82, e83, e84, e85, e80, e86, e9]
    go_simp
    exact G
  clear e81 e82 e83 e84 e85 e80 e86 e9
  have q := k1
  go_upto_region 6 with fail
  change Code.wp _ _ _ _ (ivW w1 b3 _ _ _ _ _ _)
  have UP : Hid (∀ (b' : Nat) (x y z x' y' z' : Value), BlkI w1 b' x y z x' y' z' → b' ≠ b3 → BlkI (ivW w1 b3 (.bool o3.v.lo.neg) (.slice P3 p3 q3) (.int .i64 o3.v.lo.e) (.bool o3.v.hi.neg) (.slice Q3 r3 s3) (.int .i64 o3.v.hi.e)) b' x y z x' y' z') := fun _ _ _ _ _ _ _ h hne => blkI_ivW h hne _ _ _ _ _ _
  have UD : Hid (∀ (v : Value) (r : Raw), DyR w1 v r → DyR (ivW w1 b3 (.bool o3.v.lo.neg) (.slice P3 p3 q3) (.int .i64 o3.v.lo.e) (.bool o3.v.hi.neg) (.slice Q3 r3 s3) (.int .i64 o3.v.hi.e)) v r) := fun _ _ h => h.ivW hx _ _ _ _ _ _
  have HX' := Lib.hid (hx.laid (.bool o3.v.lo.neg) (.slice P3 p3 q3) (.int .i64 o3.v.lo.e) (.bool o3.v.hi.neg) (.slice Q3 r3 s3) (.int .i64 o3.v.hi.e))
  replace K := Lib.hid (ivW_kept (x := .bool o3.v.lo.neg) (y := .slice P3 p3 q3) (z := .int .i64 o3.v.lo.e) (x' := .bool o3.v.hi.neg) (y' := .slice Q3 r3 s3) (z' := .int .i64 o3.v.hi.e) (K.out.trans q) (show w.heap.size ≤ b3 by omega))
  skip
  have UB : Hid (∀ (b' : Nat) (x y z : Value), Blk w1 b' x y z → b' ≠ b3 → Blk (ivW w1 b3 (.bool o3.v.lo.neg) (.slice P3 p3 q3) (.int .i64 o3.v.lo.e) (.bool o3.v.hi.neg) (.slice Q3 r3 s3) (.int .i64 o3.v.hi.e)) b' x y z) := fun _ _ _ _ h hne => blk_ivW h hne _ _ _ _ _ _
  replace HA := Lib.hid (UB.out _ _ _ _ (HA.out.kept q) (by omega))
  replace HB := Lib.hid (UB.out _ _ _ _ (HB.out.kept q) (by omega))
  replace H1 := Lib.hid (UP.out _ _ _ _ _ _ _ (H1.out.kept q) (by omega))
  replace Z1 := Lib.hid (And.intro (UD.out _ _ (Z1.out.1.kept q)) (UD.out _ _ (Z1.out.2.kept q)))
  replace H2 := Lib.hid (UP.out _ _ _ _ _ _ _ (H2.out.kept q) (by omega))
  replace Z2 := Lib.hid (And.intro (UD.out _ _ (Z2.out.1.kept q)) (UD.out _ _ (Z2.out.2.kept q)))
  have H3 := Lib.hid HX'.out
  have Z3 := Lib.hid (And.intro (UD.out _ _ z1) (UD.out _ _ z2))
  clear UP UB UD HX' hx x0 x1 x2 x3 x4 x5 f0 f1 f2 f3 f4 f5 q k1 z1 z2 hb3 C3
  generalize ivW w1 b3 (.bool o3.v.lo.neg) (.slice P3 p3 q3) (.int .i64 o3.v.lo.e) (.bool o3.v.hi.neg) (.slice Q3 r3 s3) (.int .i64 o3.v.hi.e) = V at *
  obtain ⟨-, a0, a1, a2, -⟩ := HA.out.facts
  go_wp2_with fail
  refine (OA.out _ K.out).mono ?_
  rintro e w5 ⟨q5, u5, rfl, hd5⟩
  simp only []
  replace K := Lib.hid (K.out.trans q5)
  replace HA := Lib.hid (HA.out.kept q5); replace HB := Lib.hid (HB.out.kept q5); replace H1 := Lib.hid (H1.out.kept q5); replace Z1 := Lib.hid (And.intro (Z1.out.1.kept q5) (Z1.out.2.kept q5)); replace H2 := Lib.hid (H2.out.kept q5); replace Z2 := Lib.hid (And.intro (Z2.out.1.kept q5) (Z2.out.2.kept q5)); replace H3 := Lib.hid (H3.out.kept q5); replace Z3 := Lib.hid (And.intro (Z3.out.1.kept q5) (Z3.out.2.kept q5))
  have ZZ := Lib.hid hd5
  clear a0 a1 a2 q5 hd5
  go_wp2_with fail
  refine (C4.out _ _ K.out ZZ.out).mono ?_
  rintro e w1 ⟨q, u, rfl, hd⟩
  obtain ⟨P4, p4, q4, R4, r4, s4, rfl, z1, z2⟩ := ivR_split hd
  simp only []
  obtain ⟨V, hV, kV, hb, lV⟩ := boxG w1 (.bool o4.v.lo.neg) (.slice P4 p4 q4) (.int .i64 o4.v.lo.e) (.bool o4.v.hi.neg) (.slice R4 r4 s4) (.int .i64 o4.v.hi.e)
  have HV := Lib.hid hV
  have kk := q.trans kV
  have l4 := Nat.lt_of_lt_of_le H3.out.facts.1 q.size
  replace K := Lib.hid (K.out.trans kk)
  replace HA := Lib.hid (HA.out.kept kk); replace HB := Lib.hid (HB.out.kept kk); replace H1 := Lib.hid (H1.out.kept kk); replace Z1 := Lib.hid (And.intro (Z1.out.1.kept kk) (Z1.out.2.kept kk)); replace H2 := Lib.hid (H2.out.kept kk); replace Z2 := Lib.hid (And.intro (Z2.out.1.kept kk) (Z2.out.2.kept kk)); replace H3 := Lib.hid (H3.out.kept kk); replace Z3 := Lib.hid (And.intro (Z3.out.1.kept kk) (Z3.out.2.kept kk))
  have H4 := Lib.hid hb
  have Z4 := Lib.hid (And.intro (z1.kept kV) (z2.kept kV))
  clear hV kV hb lV kk q hd z1 z2 ZZ C4
  go_upto_region 7 with fail
  rw [← HV.out]
  clear HV
  generalize w1.heap.size = b4 at *
  obtain ⟨-, a0, a1, a2, -⟩ := HA.out.facts
  go_wp2_with fail
  refine (OA.out _ K.out).mono ?_
  rintro e w5 ⟨q5, u5, rfl, hd5⟩
  simp only []
  replace K := Lib.hid (K.out.trans q5)
  replace HA := Lib.hid (HA.out.kept q5); replace HB := Lib.hid (HB.out.kept q5); replace H1 := Lib.hid (H1.out.kept q5); replace Z1 := Lib.hid (And.intro (Z1.out.1.kept q5) (Z1.out.2.kept q5)); replace H2 := Lib.hid (H2.out.kept q5); replace Z2 := Lib.hid (And.intro (Z2.out.1.kept q5) (Z2.out.2.kept q5)); replace H3 := Lib.hid (H3.out.kept q5); replace Z3 := Lib.hid (And.intro (Z3.out.1.kept q5) (Z3.out.2.kept q5)); replace H4 := Lib.hid (H4.out.kept q5); replace Z4 := Lib.hid (And.intro (Z4.out.1.kept q5) (Z4.out.2.kept q5))
  have ZZ := Lib.hid hd5
  clear a0 a1 a2 q5 hd5
  go_wp2_with fail
  refine (C5.out _ _ K.out ZZ.out).mono ?_
  rintro e w1 ⟨q, u, rfl, hd⟩
  obtain ⟨P5, p5, q5, R5, r5, s5, rfl, z1, z2⟩ := ivR_split hd
  simp only []
  obtain ⟨V, hV, kV, hb, lV⟩ := boxG w1 (.bool o5.v.lo.neg) (.slice P5 p5 q5) (.int .i64 o5.v.lo.e) (.bool o5.v.hi.neg) (.slice R5 r5 s5) (.int .i64 o5.v.hi.e)
  have HV := Lib.hid hV
  have kk := q.trans kV
  have l5 := Nat.lt_of_lt_of_le H4.out.facts.1 q.size
  replace K := Lib.hid (K.out.trans kk)
  replace HA := Lib.hid (HA.out.kept kk); replace HB := Lib.hid (HB.out.kept kk); replace H1 := Lib.hid (H1.out.kept kk); replace Z1 := Lib.hid (And.intro (Z1.out.1.kept kk) (Z1.out.2.kept kk)); replace H2 := Lib.hid (H2.out.kept kk); replace Z2 := Lib.hid (And.intro (Z2.out.1.kept kk) (Z2.out.2.kept kk)); replace H3 := Lib.hid (H3.out.kept kk); replace Z3 := Lib.hid (And.intro (Z3.out.1.kept kk) (Z3.out.2.kept kk)); replace H4 := Lib.hid (H4.out.kept kk); replace Z4 := Lib.hid (And.intro (Z4.out.1.kept kk) (Z4.out.2.kept kk))
  have H5 := Lib.hid hb
  have Z5 := Lib.hid (And.intro (z1.kept kV) (z2.kept kV))
  clear hV kV hb lV kk q hd z1 z2 ZZ C5
  go_upto_region 8 with fail
  rw [← HV.out]
  clear HV
  generalize w1.heap.size = b5 at *
  obtain ⟨-, a0, a1, a2, -⟩ := HA.out.facts
  obtain ⟨-, d0, d1, d2, -⟩ := HB.out.facts
  go_wp2_with fail
  refine (C6.out _ K.out).mono ?_
  rintro e w1 ⟨q, u, rfl, hd⟩
  obtain ⟨P6, p6, q6, rfl, z1⟩ := rawR_split hd
  simp only []
  obtain ⟨V, hV, kV, hb, lV⟩ := boxF w1 (.bool o6.v.neg) (.slice P6 p6 q6) (.int .i64 o6.v.e)
  have HV := Lib.hid hV
  have kk := q.trans kV
  have l6 := Nat.lt_of_lt_of_le H5.out.facts.1 q.size
  replace K := Lib.hid (K.out.trans kk)
  replace HA := Lib.hid (HA.out.kept kk); replace HB := Lib.hid (HB.out.kept kk); replace H1 := Lib.hid (H1.out.kept kk); replace Z1 := Lib.hid (And.intro (Z1.out.1.kept kk) (Z1.out.2.kept kk)); replace H2 := Lib.hid (H2.out.kept kk); replace Z2 := Lib.hid (And.intro (Z2.out.1.kept kk) (Z2.out.2.kept kk)); replace H3 := Lib.hid (H3.out.kept kk); replace Z3 := Lib.hid (And.intro (Z3.out.1.kept kk) (Z3.out.2.kept kk)); replace H4 := Lib.hid (H4.out.kept kk); replace Z4 := Lib.hid (And.intro (Z4.out.1.kept kk) (Z4.out.2.kept kk)); replace H5 := Lib.hid (H5.out.kept kk); replace Z5 := Lib.hid (And.intro (Z5.out.1.kept kk) (Z5.out.2.kept kk))
  have H6 := Lib.hid hb
  have Z6 := Lib.hid (z1.kept kV)
  clear hV kV hb lV kk q hd z1 C6 a0 a1 a2 d0 d1 d2
  go_upto_region 9 with fail
  rw [← HV.out]
  clear HV
  generalize w1.heap.size = b6 at *
  obtain ⟨-, a0, a1, a2, -⟩ := HA.out.facts
  obtain ⟨-, d0, d1, d2, -⟩ := HB.out.facts
  go_wp2_with fail
  refine (C7.out _ K.out).mono ?_
  rintro e w1 ⟨q, u, rfl, hd⟩
  obtain ⟨P7, p7, q7, rfl, z1⟩ := rawR_split hd
  simp only []
  obtain ⟨V, hV, kV, hb, lV⟩ := boxF w1 (.bool o7.v.neg) (.slice P7 p7 q7) (.int .i64 o7.v.e)
  have HV := Lib.hid hV
  have kk := q.trans kV
  have l7 := Nat.lt_of_lt_of_le H6.out.facts.1 q.size
  replace K := Lib.hid (K.out.trans kk)
  replace HA := Lib.hid (HA.out.kept kk); replace HB := Lib.hid (HB.out.kept kk); replace H1 := Lib.hid (H1.out.kept kk); replace Z1 := Lib.hid (And.intro (Z1.out.1.kept kk) (Z1.out.2.kept kk)); replace H2 := Lib.hid (H2.out.kept kk); replace Z2 := Lib.hid (And.intro (Z2.out.1.kept kk) (Z2.out.2.kept kk)); replace H3 := Lib.hid (H3.out.kept kk); replace Z3 := Lib.hid (And.intro (Z3.out.1.kept kk) (Z3.out.2.kept kk)); replace H4 := Lib.hid (H4.out.kept kk); replace Z4 := Lib.hid (And.intro (Z4.out.1.kept kk) (Z4.out.2.kept kk)); replace H5 := Lib.hid (H5.out.kept kk); replace Z5 := Lib.hid (And.intro (Z5.out.1.kept kk) (Z5.out.2.kept kk)); replace H6 := Lib.hid (H6.out.kept kk); replace Z6 := Lib.hid (Z6.out.kept kk)
  have H7 := Lib.hid hb
  have Z7 := Lib.hid (z1.kept kV)
  clear hV kV hb lV kk q hd z1 C7 a0 a1 a2 d0 d1 d2
  go_upto_region 10 with fail
  rw [← HV.out]
  clear HV
  generalize w1.heap.size = b7 at *
  obtain ⟨-, a0, a1, a2, -⟩ := HA.out.facts
  obtain ⟨-, d0, d1, d2, -⟩ := HB.out.facts
  go_wp2_with fail
  refine (C8.out _ K.out).mono ?_
  rintro e w1 ⟨q, u, rfl, hd⟩
  obtain ⟨P8, p8, q8, rfl, z1⟩ := rawR_split hd
  simp only []
  obtain ⟨V, hV, kV, hb, lV⟩ := boxF w1 (.bool o8.v.neg) (.slice P8 p8 q8) (.int .i64 o8.v.e)
  have HV := Lib.hid hV
  have kk := q.trans kV
  have l8 := Nat.lt_of_lt_of_le H7.out.facts.1 q.size
  replace K := Lib.hid (K.out.trans kk)
  replace HA := Lib.hid (HA.out.kept kk); replace HB := Lib.hid (HB.out.kept kk); replace H1 := Lib.hid (H1.out.kept kk); replace Z1 := Lib.hid (And.intro (Z1.out.1.kept kk) (Z1.out.2.kept kk)); replace H2 := Lib.hid (H2.out.kept kk); replace Z2 := Lib.hid (And.intro (Z2.out.1.kept kk) (Z2.out.2.kept kk)); replace H3 := Lib.hid (H3.out.kept kk); replace Z3 := Lib.hid (And.intro (Z3.out.1.kept kk) (Z3.out.2.kept kk)); replace H4 := Lib.hid (H4.out.kept kk); replace Z4 := Lib.hid (And.intro (Z4.out.1.kept kk) (Z4.out.2.kept kk)); replace H5 := Lib.hid (H5.out.kept kk); replace Z5 := Lib.hid (And.intro (Z5.out.1.kept kk) (Z5.out.2.kept kk)); replace H6 := Lib.hid (H6.out.kept kk); replace Z6 := Lib.hid (Z6.out.kept kk); replace H7 := Lib.hid (H7.out.kept kk); replace Z7 := Lib.hid (Z7.out.kept kk)
  have H8 := Lib.hid hb
  have Z8 := Lib.hid (z1.kept kV)
  clear hV kV hb lV kk q hd z1 C8 a0 a1 a2 d0 d1 d2
  go_upto_region 11 with fail
  rw [← HV.out]
  clear HV
  generalize w1.heap.size = b8 at *
  obtain ⟨-, a0, a1, a2, -⟩ := HA.out.facts
  go_wp2_with fail
  refine (C9.out _ K.out).mono ?_
  rintro e w1 ⟨q, u, rfl, hd⟩
  obtain ⟨P9, p9, q9, rfl, z1⟩ := rawR_split hd
  simp only []
  obtain ⟨V, hV, kV, hb, lV⟩ := boxF w1 (.bool o9.v.neg) (.slice P9 p9 q9) (.int .i64 o9.v.e)
  have HV := Lib.hid hV
  have kk := q.trans kV
  have l9 := Nat.lt_of_lt_of_le H8.out.facts.1 q.size
  replace K := Lib.hid (K.out.trans kk)
  replace HA := Lib.hid (HA.out.kept kk); replace HB := Lib.hid (HB.out.kept kk); replace H1 := Lib.hid (H1.out.kept kk); replace Z1 := Lib.hid (And.intro (Z1.out.1.kept kk) (Z1.out.2.kept kk)); replace H2 := Lib.hid (H2.out.kept kk); replace Z2 := Lib.hid (And.intro (Z2.out.1.kept kk) (Z2.out.2.kept kk)); replace H3 := Lib.hid (H3.out.kept kk); replace Z3 := Lib.hid (And.intro (Z3.out.1.kept kk) (Z3.out.2.kept kk)); replace H4 := Lib.hid (H4.out.kept kk); replace Z4 := Lib.hid (And.intro (Z4.out.1.kept kk) (Z4.out.2.kept kk)); replace H5 := Lib.hid (H5.out.kept kk); replace Z5 := Lib.hid (And.intro (Z5.out.1.kept kk) (Z5.out.2.kept kk)); replace H6 := Lib.hid (H6.out.kept kk); replace Z6 := Lib.hid (Z6.out.kept kk); replace H7 := Lib.hid (H7.out.kept kk); replace Z7 := Lib.hid (Z7.out.kept kk); replace H8 := Lib.hid (H8.out.kept kk); replace Z8 := Lib.hid (Z8.out.kept kk)
  have H9 := Lib.hid hb
  have Z9 := Lib.hid (z1.kept kV)
  clear hV kV hb lV kk q hd z1 C9 a0 a1 a2
  go_upto_region 12 with fail
  rw [← HV.out]
  clear HV
  generalize w1.heap.size = b9 at *
  rw [KK1.out, KK2.out, KK3.out, KK4.out, KK5.out, KK6.out, KK7.out, KK8.out, KK9.out]
  refine region_lin (m := 53) (V := VL [
      (fun v _ => v = (.bool true)),
      (fun v _ => v = (.bool true)),
      (fun v _ => v = .int .i64 0),
      (fun v _ => v = .int .i64 0),
      (fun v _ => v = (.int .i64 0)),
      (fun v _ => v = .int .i64 0),
      (fun v _ => v = (.int .i64 0)),
      (fun v _ => v = .int .i64 0),
      (fun v _ => v = (.int .i64 0)),
      (fun v _ => v = .int .i64 0),
      (fun v _ => v = (.int .i64 0)),
      (fun v _ => v = .int .i64 0),
      (fun v _ => v = (.int .i64 0)),
      (fun v _ => v = .int .i64 0),
      (fun v _ => v = (.int .i64 0)),
      (fun v _ => v = .int .i64 0),
      (fun v _ => v = (.int .i64 0)),
      (fun v _ => v = .int .i64 0),
      (fun v _ => v = (.int .i64 0)),
      (fun v _ => v = (.bool true)),
      (fun v _ => v = (.bool true)),
      (fun v _ => v = (.bool true)),
      (fun v _ => v = (.agg #[.bool o1.v.lo.neg, .slice P1 p1 q1, .int .i64 o1.v.lo.e, .bool o1.v.hi.neg, .slice Q1 r1 s1, .int .i64 o1.v.hi.e])),
      (fun v _ => v = (.agg #[.bool o6.v.neg, .slice P6 p6 q6, .int .i64 o6.v.e])),
      (fun v wv => IvR wv v (⟨o6.v, o6.v⟩ : RawI)),
      (fun v _ => v = (.bool true)),
      (fun v _ => v = (.bool true)),
      (fun v _ => v = (.bool true)),
      (fun v _ => v = (.agg #[.bool o2.v.lo.neg, .slice P2 p2 q2, .int .i64 o2.v.lo.e, .bool o2.v.hi.neg, .slice Q2 r2 s2, .int .i64 o2.v.hi.e])),
      (fun v _ => v = (.agg #[.bool o7.v.neg, .slice P7 p7 q7, .int .i64 o7.v.e])),
      (fun v wv => IvR wv v (⟨o7.v, o7.v⟩ : RawI)),
      (fun v _ => v = (.bool true)),
      (fun v _ => v = (.bool true)),
      (fun v _ => v = (.bool true)),
      (fun v _ => v = (.agg #[.bool o3.v.lo.neg, .slice P3 p3 q3, .int .i64 o3.v.lo.e, .bool o3.v.hi.neg, .slice Q3 r3 s3, .int .i64 o3.v.hi.e])),
      (fun v _ => v = (.agg #[.bool o8.v.neg, .slice P8 p8 q8, .int .i64 o8.v.e])),
      (fun v wv => IvR wv v (⟨o8.v, o8.v⟩ : RawI)),
      (fun v _ => v = (.bool true)),
      (fun v _ => v = (.bool true)),
      (fun v _ => v = (.bool true)),
      (fun v _ => v = (.agg #[.bool o4.v.lo.neg, .slice P4 p4 q4, .int .i64 o4.v.lo.e, .bool o4.v.hi.neg, .slice R4 r4 s4, .int .i64 o4.v.hi.e])),
      (fun v _ => v = (.agg #[.bool o9.v.neg, .slice P9 p9 q9, .int .i64 o9.v.e])),
      (fun v wv => IvR wv v (⟨o9.v, o9.v⟩ : RawI)),
      (fun v _ => v = (.bool true)),
      (fun v _ => v = (.bool true)),
      (fun v _ => v = (.bool true)),
      (fun v _ => v = (.agg #[.bool o5.v.lo.neg, .slice P5 p5 q5, .int .i64 o5.v.lo.e, .bool o5.v.hi.neg, .slice R5 r5 s5, .int .i64 o5.v.hi.e])),
      (fun v _ => v = (.agg #[.bool xa, .slice Aa ia ja, .int .i64 ya])),
      (fun v wv => DyR wv v m),
      (fun v wv => IvR wv v (⟨m, m⟩ : RawI)),
      (fun v _ => v = (.bool true)),
      (fun v _ => v = (.bool true)),
      (fun v _ => v = (.bool true))])
    (by kernel_rfl) rfl (by kernel_rfl) (by kernel_rfl) (by kernel_rfl) (mono_of _ ⟨mono_eq _, mono_eq _, mono_eq _, mono_eq _, mono_eq _, mono_eq _, mono_eq _, mono_eq _, mono_eq _, mono_eq _, mono_eq _, mono_eq _, mono_eq _, mono_eq _, mono_eq _, mono_eq _, mono_eq _, mono_eq _, mono_eq _, mono_eq _, mono_eq _, mono_eq _, mono_eq _, mono_eq _, fun v w w' k h => by first | exact h | exact h.kept k | exact ⟨h.1, h.2.kept k⟩, mono_eq _, mono_eq _, mono_eq _, mono_eq _, mono_eq _, fun v w w' k h => by first | exact h | exact h.kept k | exact ⟨h.1, h.2.kept k⟩, mono_eq _, mono_eq _, mono_eq _, mono_eq _, mono_eq _, fun v w w' k h => by first | exact h | exact h.kept k | exact ⟨h.1, h.2.kept k⟩, mono_eq _, mono_eq _, mono_eq _, mono_eq _, mono_eq _, fun v w w' k h => by first | exact h | exact h.kept k | exact ⟨h.1, h.2.kept k⟩, mono_eq _, mono_eq _, mono_eq _, mono_eq _, mono_eq _, fun v w w' k h => by first | exact h | exact h.kept k | exact ⟨h.1, h.2.kept k⟩, fun v w w' k h => by first | exact h | exact h.kept k | exact ⟨h.1, h.2.kept k⟩, mono_eq _, mono_eq _, mono_eq _, trivial⟩) (steps_of ⟨
      (fun aF wF F => by
    exact step_good (by simp [Region.wanted]) (by go_simp) (told_c (T.out.kept (K.out.trans F.kept))) (fun _ _ h => RetK.good h) (fun _ _ h => h)),
      (fun aF wF F => by
    have s124 : aF.tmps.getD 124 undef = (.bool true) := F.done 0 124 (by kernel_rfl) rfl
    exact step_val (by simp [Region.wanted]) (by go_simp) rfl),
      (fun aF wF F => by
    have s6 : aF.tmps.getD 6 undef = .int .i64 0 := F.old 6 (by kernel_rfl)
    have sg : aF.tmps.getD 125 undef = (.bool true) := F.done 1 125 (by kernel_rfl) rfl
    exact step_val ((wanted_guard rfl rfl sg).trans rfl) (by go_simp) rfl),
      (fun aF wF F => by
    have s8 : aF.tmps.getD 8 undef = .int .i64 0 := F.old 8 (by kernel_rfl)
    have sg : aF.tmps.getD 125 undef = (.bool true) := F.done 1 125 (by kernel_rfl) rfl
    exact step_val ((wanted_guard rfl rfl sg).trans rfl) (by go_simp) rfl),
      (fun aF wF F => by
    have s126 : aF.tmps.getD 126 undef = .int .i64 0 := F.done 2 126 (by kernel_rfl) rfl
    have s127 : aF.tmps.getD 127 undef = .int .i64 0 := F.done 3 127 (by kernel_rfl) rfl
    have sg : aF.tmps.getD 125 undef = (.bool true) := F.done 1 125 (by kernel_rfl) rfl
    exact step_val ((wanted_guard rfl rfl sg).trans rfl) (by (go_simp; rfl)) rfl),
      (fun aF wF F => by
    have s10 : aF.tmps.getD 10 undef = .int .i64 0 := F.old 10 (by kernel_rfl)
    have sg : aF.tmps.getD 125 undef = (.bool true) := F.done 1 125 (by kernel_rfl) rfl
    exact step_val ((wanted_guard rfl rfl sg).trans rfl) (by go_simp) rfl),
      (fun aF wF F => by
    have s128 : aF.tmps.getD 128 undef = (.int .i64 0) := F.done 4 128 (by kernel_rfl) rfl
    have s129 : aF.tmps.getD 129 undef = .int .i64 0 := F.done 5 129 (by kernel_rfl) rfl
    have sg : aF.tmps.getD 125 undef = (.bool true) := F.done 1 125 (by kernel_rfl) rfl
    exact step_val ((wanted_guard rfl rfl sg).trans rfl) (by (go_simp; rfl)) rfl),
      (fun aF wF F => by
    have s12 : aF.tmps.getD 12 undef = .int .i64 0 := F.old 12 (by kernel_rfl)
    have sg : aF.tmps.getD 125 undef = (.bool true) := F.done 1 125 (by kernel_rfl) rfl
    exact step_val ((wanted_guard rfl rfl sg).trans rfl) (by go_simp) rfl),
      (fun aF wF F => by
    have s130 : aF.tmps.getD 130 undef = (.int .i64 0) := F.done 6 130 (by kernel_rfl) rfl
    have s131 : aF.tmps.getD 131 undef = .int .i64 0 := F.done 7 131 (by kernel_rfl) rfl
    have sg : aF.tmps.getD 125 undef = (.bool true) := F.done 1 125 (by kernel_rfl) rfl
    exact step_val ((wanted_guard rfl rfl sg).trans rfl) (by (go_simp; rfl)) rfl),
      (fun aF wF F => by
    have s14 : aF.tmps.getD 14 undef = .int .i64 0 := F.old 14 (by kernel_rfl)
    have sg : aF.tmps.getD 125 undef = (.bool true) := F.done 1 125 (by kernel_rfl) rfl
    exact step_val ((wanted_guard rfl rfl sg).trans rfl) (by go_simp) rfl),
      (fun aF wF F => by
    have s132 : aF.tmps.getD 132 undef = (.int .i64 0) := F.done 8 132 (by kernel_rfl) rfl
    have s133 : aF.tmps.getD 133 undef = .int .i64 0 := F.done 9 133 (by kernel_rfl) rfl
    have sg : aF.tmps.getD 125 undef = (.bool true) := F.done 1 125 (by kernel_rfl) rfl
    exact step_val ((wanted_guard rfl rfl sg).trans rfl) (by (go_simp; rfl)) rfl),
      (fun aF wF F => by
    have s16 : aF.tmps.getD 16 undef = .int .i64 0 := F.old 16 (by kernel_rfl)
    have sg : aF.tmps.getD 125 undef = (.bool true) := F.done 1 125 (by kernel_rfl) rfl
    exact step_val ((wanted_guard rfl rfl sg).trans rfl) (by go_simp) rfl),
      (fun aF wF F => by
    have s134 : aF.tmps.getD 134 undef = (.int .i64 0) := F.done 10 134 (by kernel_rfl) rfl
    have s135 : aF.tmps.getD 135 undef = .int .i64 0 := F.done 11 135 (by kernel_rfl) rfl
    have sg : aF.tmps.getD 125 undef = (.bool true) := F.done 1 125 (by kernel_rfl) rfl
    exact step_val ((wanted_guard rfl rfl sg).trans rfl) (by (go_simp; rfl)) rfl),
      (fun aF wF F => by
    have s18 : aF.tmps.getD 18 undef = .int .i64 0 := F.old 18 (by kernel_rfl)
    have sg : aF.tmps.getD 125 undef = (.bool true) := F.done 1 125 (by kernel_rfl) rfl
    exact step_val ((wanted_guard rfl rfl sg).trans rfl) (by go_simp) rfl),
      (fun aF wF F => by
    have s136 : aF.tmps.getD 136 undef = (.int .i64 0) := F.done 12 136 (by kernel_rfl) rfl
    have s137 : aF.tmps.getD 137 undef = .int .i64 0 := F.done 13 137 (by kernel_rfl) rfl
    have sg : aF.tmps.getD 125 undef = (.bool true) := F.done 1 125 (by kernel_rfl) rfl
    exact step_val ((wanted_guard rfl rfl sg).trans rfl) (by (go_simp; rfl)) rfl),
      (fun aF wF F => by
    have s20 : aF.tmps.getD 20 undef = .int .i64 0 := F.old 20 (by kernel_rfl)
    have sg : aF.tmps.getD 125 undef = (.bool true) := F.done 1 125 (by kernel_rfl) rfl
    exact step_val ((wanted_guard rfl rfl sg).trans rfl) (by go_simp) rfl),
      (fun aF wF F => by
    have s138 : aF.tmps.getD 138 undef = (.int .i64 0) := F.done 14 138 (by kernel_rfl) rfl
    have s139 : aF.tmps.getD 139 undef = .int .i64 0 := F.done 15 139 (by kernel_rfl) rfl
    have sg : aF.tmps.getD 125 undef = (.bool true) := F.done 1 125 (by kernel_rfl) rfl
    exact step_val ((wanted_guard rfl rfl sg).trans rfl) (by (go_simp; rfl)) rfl),
      (fun aF wF F => by
    have s22 : aF.tmps.getD 22 undef = .int .i64 0 := F.old 22 (by kernel_rfl)
    have sg : aF.tmps.getD 125 undef = (.bool true) := F.done 1 125 (by kernel_rfl) rfl
    exact step_val ((wanted_guard rfl rfl sg).trans rfl) (by go_simp) rfl),
      (fun aF wF F => by
    have s140 : aF.tmps.getD 140 undef = (.int .i64 0) := F.done 16 140 (by kernel_rfl) rfl
    have s141 : aF.tmps.getD 141 undef = .int .i64 0 := F.done 17 141 (by kernel_rfl) rfl
    have sg : aF.tmps.getD 125 undef = (.bool true) := F.done 1 125 (by kernel_rfl) rfl
    exact step_val ((wanted_guard rfl rfl sg).trans rfl) (by (go_simp; rfl)) rfl),
      (fun aF wF F => by
    have s142 : aF.tmps.getD 142 undef = (.int .i64 0) := F.done 18 142 (by kernel_rfl) rfl
    have sg : aF.tmps.getD 125 undef = (.bool true) := F.done 1 125 (by kernel_rfl) rfl
    exact step_val ((wanted_guard rfl rfl sg).trans rfl) (by go_simp) rfl),
      (fun aF wF F => by
    have s125 : aF.tmps.getD 125 undef = (.bool true) := F.done 1 125 (by kernel_rfl) rfl
    have s143 : aF.tmps.getD 143 undef = (.bool true) := F.done 19 143 (by kernel_rfl) rfl
    exact step_val (by simp [Region.wanted]) (by go_simp) rfl),
      (fun aF wF F => by
    have s144 : aF.tmps.getD 144 undef = (.bool true) := F.done 20 144 (by kernel_rfl) rfl
    exact step_val (by simp [Region.wanted]) (by go_simp) rfl),
      (fun aF wF F => by
    have s5 : aF.tmps.getD 5 undef = (.pointer (some ⟨b1, 0, none⟩)) := F.old 5 (by kernel_rfl)
    have c0 := cell_at H1.out F.kept 0 _ rfl
    have c1 := cell_at H1.out F.kept 1 _ rfl
    have c2 := cell_at H1.out F.kept 2 _ rfl
    have c3 := cell_at H1.out F.kept 3 _ rfl
    have c4 := cell_at H1.out F.kept 4 _ rfl
    have c5 := cell_at H1.out F.kept 5 _ rfl
    have sg : aF.tmps.getD 145 undef = (.bool true) := F.done 21 145 (by kernel_rfl) rfl
    exact step_val ((wanted_guard rfl rfl sg).trans rfl) (by go_simp) rfl),
      (fun aF wF F => by
    have s15 : aF.tmps.getD 15 undef = (.pointer (some ⟨b6, 0, none⟩)) := F.old 15 (by kernel_rfl)
    have c0 := cell_at H6.out F.kept 0 _ rfl
    have c1 := cell_at H6.out F.kept 1 _ rfl
    have c2 := cell_at H6.out F.kept 2 _ rfl
    have sg : aF.tmps.getD 145 undef = (.bool true) := F.done 21 145 (by kernel_rfl) rfl
    exact step_val ((wanted_guard rfl rfl sg).trans rfl) (by go_simp) rfl),
      (fun aF wF F => by
    have s147 : aF.tmps.getD 147 undef = (.agg #[.bool o6.v.neg, .slice P6 p6 q6, .int .i64 o6.v.e]) := F.done 23 147 (by kernel_rfl) rfl
    have sg : aF.tmps.getD 145 undef = (.bool true) := F.done 21 145 (by kernel_rfl) rfl
    exact step_good ((wanted_guard rfl rfl sg).trans rfl) (by go_simp) (iof_c (Z6.out.kept F.kept)) (fun _ _ h => RetI.good h) (fun _ _ h => h)),
      (fun aF wF F => by
    have s146 : aF.tmps.getD 146 undef = (.agg #[.bool o1.v.lo.neg, .slice P1 p1 q1, .int .i64 o1.v.lo.e, .bool o1.v.hi.neg, .slice Q1 r1 s1, .int .i64 o1.v.hi.e]) := F.done 22 146 (by kernel_rfl) rfl
    have s148 : (fun v wv => IvR wv v (⟨o6.v, o6.v⟩ : RawI)) (aF.tmps.getD 148 undef) wF := F.done 24 148 (by kernel_rfl) rfl
    have sg : aF.tmps.getD 145 undef = (.bool true) := F.done 21 145 (by kernel_rfl) rfl
    exact step_good ((wanted_guard rfl rfl sg).trans rfl) (by go_simp) (isameV ⟨_, _, _, _, _, _, rfl, Z1.out.1.kept F.kept, Z1.out.2.kept F.kept⟩ s148 V1.out L1.out) (fun _ _ h => RetK.good h) (fun _ _ h => h)),
      (fun aF wF F => by
    have s145 : aF.tmps.getD 145 undef = (.bool true) := F.done 21 145 (by kernel_rfl) rfl
    have s149 : aF.tmps.getD 149 undef = (.bool true) := F.done 25 149 (by kernel_rfl) rfl
    exact step_val (by simp [Region.wanted]) (by go_simp) rfl),
      (fun aF wF F => by
    have s150 : aF.tmps.getD 150 undef = (.bool true) := F.done 26 150 (by kernel_rfl) rfl
    exact step_val (by simp [Region.wanted]) (by go_simp) rfl),
      (fun aF wF F => by
    have s7 : aF.tmps.getD 7 undef = (.pointer (some ⟨b2, 0, none⟩)) := F.old 7 (by kernel_rfl)
    have c0 := cell_at H2.out F.kept 0 _ rfl
    have c1 := cell_at H2.out F.kept 1 _ rfl
    have c2 := cell_at H2.out F.kept 2 _ rfl
    have c3 := cell_at H2.out F.kept 3 _ rfl
    have c4 := cell_at H2.out F.kept 4 _ rfl
    have c5 := cell_at H2.out F.kept 5 _ rfl
    have sg : aF.tmps.getD 151 undef = (.bool true) := F.done 27 151 (by kernel_rfl) rfl
    exact step_val ((wanted_guard rfl rfl sg).trans rfl) (by go_simp) rfl),
      (fun aF wF F => by
    have s17 : aF.tmps.getD 17 undef = (.pointer (some ⟨b7, 0, none⟩)) := F.old 17 (by kernel_rfl)
    have c0 := cell_at H7.out F.kept 0 _ rfl
    have c1 := cell_at H7.out F.kept 1 _ rfl
    have c2 := cell_at H7.out F.kept 2 _ rfl
    have sg : aF.tmps.getD 151 undef = (.bool true) := F.done 27 151 (by kernel_rfl) rfl
    exact step_val ((wanted_guard rfl rfl sg).trans rfl) (by go_simp) rfl),
      (fun aF wF F => by
    have s153 : aF.tmps.getD 153 undef = (.agg #[.bool o7.v.neg, .slice P7 p7 q7, .int .i64 o7.v.e]) := F.done 29 153 (by kernel_rfl) rfl
    have sg : aF.tmps.getD 151 undef = (.bool true) := F.done 27 151 (by kernel_rfl) rfl
    exact step_good ((wanted_guard rfl rfl sg).trans rfl) (by go_simp) (iof_c (Z7.out.kept F.kept)) (fun _ _ h => RetI.good h) (fun _ _ h => h)),
      (fun aF wF F => by
    have s152 : aF.tmps.getD 152 undef = (.agg #[.bool o2.v.lo.neg, .slice P2 p2 q2, .int .i64 o2.v.lo.e, .bool o2.v.hi.neg, .slice Q2 r2 s2, .int .i64 o2.v.hi.e]) := F.done 28 152 (by kernel_rfl) rfl
    have s154 : (fun v wv => IvR wv v (⟨o7.v, o7.v⟩ : RawI)) (aF.tmps.getD 154 undef) wF := F.done 30 154 (by kernel_rfl) rfl
    have sg : aF.tmps.getD 151 undef = (.bool true) := F.done 27 151 (by kernel_rfl) rfl
    exact step_good ((wanted_guard rfl rfl sg).trans rfl) (by go_simp) (isameV ⟨_, _, _, _, _, _, rfl, Z2.out.1.kept F.kept, Z2.out.2.kept F.kept⟩ s154 V2.out L2.out) (fun _ _ h => RetK.good h) (fun _ _ h => h)),
      (fun aF wF F => by
    have s151 : aF.tmps.getD 151 undef = (.bool true) := F.done 27 151 (by kernel_rfl) rfl
    have s155 : aF.tmps.getD 155 undef = (.bool true) := F.done 31 155 (by kernel_rfl) rfl
    exact step_val (by simp [Region.wanted]) (by go_simp) rfl),
      (fun aF wF F => by
    have s156 : aF.tmps.getD 156 undef = (.bool true) := F.done 32 156 (by kernel_rfl) rfl
    exact step_val (by simp [Region.wanted]) (by go_simp) rfl),
      (fun aF wF F => by
    have s9 : aF.tmps.getD 9 undef = (.pointer (some ⟨b3, 0, none⟩)) := F.old 9 (by kernel_rfl)
    have c0 := cell_at H3.out F.kept 0 _ rfl
    have c1 := cell_at H3.out F.kept 1 _ rfl
    have c2 := cell_at H3.out F.kept 2 _ rfl
    have c3 := cell_at H3.out F.kept 3 _ rfl
    have c4 := cell_at H3.out F.kept 4 _ rfl
    have c5 := cell_at H3.out F.kept 5 _ rfl
    have sg : aF.tmps.getD 157 undef = (.bool true) := F.done 33 157 (by kernel_rfl) rfl
    exact step_val ((wanted_guard rfl rfl sg).trans rfl) (by go_simp) rfl),
      (fun aF wF F => by
    have s19 : aF.tmps.getD 19 undef = (.pointer (some ⟨b8, 0, none⟩)) := F.old 19 (by kernel_rfl)
    have c0 := cell_at H8.out F.kept 0 _ rfl
    have c1 := cell_at H8.out F.kept 1 _ rfl
    have c2 := cell_at H8.out F.kept 2 _ rfl
    have sg : aF.tmps.getD 157 undef = (.bool true) := F.done 33 157 (by kernel_rfl) rfl
    exact step_val ((wanted_guard rfl rfl sg).trans rfl) (by go_simp) rfl),
      (fun aF wF F => by
    have s159 : aF.tmps.getD 159 undef = (.agg #[.bool o8.v.neg, .slice P8 p8 q8, .int .i64 o8.v.e]) := F.done 35 159 (by kernel_rfl) rfl
    have sg : aF.tmps.getD 157 undef = (.bool true) := F.done 33 157 (by kernel_rfl) rfl
    exact step_good ((wanted_guard rfl rfl sg).trans rfl) (by go_simp) (iof_c (Z8.out.kept F.kept)) (fun _ _ h => RetI.good h) (fun _ _ h => h)),
      (fun aF wF F => by
    have s158 : aF.tmps.getD 158 undef = (.agg #[.bool o3.v.lo.neg, .slice P3 p3 q3, .int .i64 o3.v.lo.e, .bool o3.v.hi.neg, .slice Q3 r3 s3, .int .i64 o3.v.hi.e]) := F.done 34 158 (by kernel_rfl) rfl
    have s160 : (fun v wv => IvR wv v (⟨o8.v, o8.v⟩ : RawI)) (aF.tmps.getD 160 undef) wF := F.done 36 160 (by kernel_rfl) rfl
    have sg : aF.tmps.getD 157 undef = (.bool true) := F.done 33 157 (by kernel_rfl) rfl
    exact step_good ((wanted_guard rfl rfl sg).trans rfl) (by go_simp) (isameV ⟨_, _, _, _, _, _, rfl, Z3.out.1.kept F.kept, Z3.out.2.kept F.kept⟩ s160 V3.out L3.out) (fun _ _ h => RetK.good h) (fun _ _ h => h)),
      (fun aF wF F => by
    have s157 : aF.tmps.getD 157 undef = (.bool true) := F.done 33 157 (by kernel_rfl) rfl
    have s161 : aF.tmps.getD 161 undef = (.bool true) := F.done 37 161 (by kernel_rfl) rfl
    exact step_val (by simp [Region.wanted]) (by go_simp) rfl),
      (fun aF wF F => by
    have s162 : aF.tmps.getD 162 undef = (.bool true) := F.done 38 162 (by kernel_rfl) rfl
    exact step_val (by simp [Region.wanted]) (by go_simp) rfl),
      (fun aF wF F => by
    have s11 : aF.tmps.getD 11 undef = (.pointer (some ⟨b4, 0, none⟩)) := F.old 11 (by kernel_rfl)
    have c0 := cell_at H4.out F.kept 0 _ rfl
    have c1 := cell_at H4.out F.kept 1 _ rfl
    have c2 := cell_at H4.out F.kept 2 _ rfl
    have c3 := cell_at H4.out F.kept 3 _ rfl
    have c4 := cell_at H4.out F.kept 4 _ rfl
    have c5 := cell_at H4.out F.kept 5 _ rfl
    have sg : aF.tmps.getD 163 undef = (.bool true) := F.done 39 163 (by kernel_rfl) rfl
    exact step_val ((wanted_guard rfl rfl sg).trans rfl) (by go_simp) rfl),
      (fun aF wF F => by
    have s21 : aF.tmps.getD 21 undef = (.pointer (some ⟨b9, 0, none⟩)) := F.old 21 (by kernel_rfl)
    have c0 := cell_at H9.out F.kept 0 _ rfl
    have c1 := cell_at H9.out F.kept 1 _ rfl
    have c2 := cell_at H9.out F.kept 2 _ rfl
    have sg : aF.tmps.getD 163 undef = (.bool true) := F.done 39 163 (by kernel_rfl) rfl
    exact step_val ((wanted_guard rfl rfl sg).trans rfl) (by go_simp) rfl),
      (fun aF wF F => by
    have s165 : aF.tmps.getD 165 undef = (.agg #[.bool o9.v.neg, .slice P9 p9 q9, .int .i64 o9.v.e]) := F.done 41 165 (by kernel_rfl) rfl
    have sg : aF.tmps.getD 163 undef = (.bool true) := F.done 39 163 (by kernel_rfl) rfl
    exact step_good ((wanted_guard rfl rfl sg).trans rfl) (by go_simp) (iof_c (Z9.out.kept F.kept)) (fun _ _ h => RetI.good h) (fun _ _ h => h)),
      (fun aF wF F => by
    have s164 : aF.tmps.getD 164 undef = (.agg #[.bool o4.v.lo.neg, .slice P4 p4 q4, .int .i64 o4.v.lo.e, .bool o4.v.hi.neg, .slice R4 r4 s4, .int .i64 o4.v.hi.e]) := F.done 40 164 (by kernel_rfl) rfl
    have s166 : (fun v wv => IvR wv v (⟨o9.v, o9.v⟩ : RawI)) (aF.tmps.getD 166 undef) wF := F.done 42 166 (by kernel_rfl) rfl
    have sg : aF.tmps.getD 163 undef = (.bool true) := F.done 39 163 (by kernel_rfl) rfl
    exact step_good ((wanted_guard rfl rfl sg).trans rfl) (by go_simp) (isameV ⟨_, _, _, _, _, _, rfl, Z4.out.1.kept F.kept, Z4.out.2.kept F.kept⟩ s166 V4.out L4.out) (fun _ _ h => RetK.good h) (fun _ _ h => h)),
      (fun aF wF F => by
    have s163 : aF.tmps.getD 163 undef = (.bool true) := F.done 39 163 (by kernel_rfl) rfl
    have s167 : aF.tmps.getD 167 undef = (.bool true) := F.done 43 167 (by kernel_rfl) rfl
    exact step_val (by simp [Region.wanted]) (by go_simp) rfl),
      (fun aF wF F => by
    have s168 : aF.tmps.getD 168 undef = (.bool true) := F.done 44 168 (by kernel_rfl) rfl
    exact step_val (by simp [Region.wanted]) (by go_simp) rfl),
      (fun aF wF F => by
    have s13 : aF.tmps.getD 13 undef = (.pointer (some ⟨b5, 0, none⟩)) := F.old 13 (by kernel_rfl)
    have c0 := cell_at H5.out F.kept 0 _ rfl
    have c1 := cell_at H5.out F.kept 1 _ rfl
    have c2 := cell_at H5.out F.kept 2 _ rfl
    have c3 := cell_at H5.out F.kept 3 _ rfl
    have c4 := cell_at H5.out F.kept 4 _ rfl
    have c5 := cell_at H5.out F.kept 5 _ rfl
    have sg : aF.tmps.getD 169 undef = (.bool true) := F.done 45 169 (by kernel_rfl) rfl
    exact step_val ((wanted_guard rfl rfl sg).trans rfl) (by go_simp) rfl),
      (fun aF wF F => by
    have s2 : aF.tmps.getD 2 undef = (.pointer (some ⟨w.heap.size, 0, none⟩)) := F.old 2 (by kernel_rfl)
    have c0 := cell_at HA.out F.kept 0 _ rfl
    have c1 := cell_at HA.out F.kept 1 _ rfl
    have c2 := cell_at HA.out F.kept 2 _ rfl
    have sg : aF.tmps.getD 169 undef = (.bool true) := F.done 45 169 (by kernel_rfl) rfl
    exact step_val ((wanted_guard rfl rfl sg).trans rfl) (by go_simp) rfl),
      (fun aF wF F => by
    have s171 : aF.tmps.getD 171 undef = (.agg #[.bool xa, .slice Aa ia ja, .int .i64 ya]) := F.done 47 171 (by kernel_rfl) rfl
    have sg : aF.tmps.getD 169 undef = (.bool true) := F.done 45 169 (by kernel_rfl) rfl
    exact step_good ((wanted_guard rfl rfl sg).trans rfl) (by go_simp) (NA.out _ (K.out.trans F.kept)) (fun _ _ h => RetD.good h) (fun _ _ h => h)),
      (fun aF wF F => by
    have s172 : (fun v wv => DyR wv v m) (aF.tmps.getD 172 undef) wF := F.done 48 172 (by kernel_rfl) rfl
    have sg : aF.tmps.getD 169 undef = (.bool true) := F.done 45 169 (by kernel_rfl) rfl
    exact step_good ((wanted_guard rfl rfl sg).trans rfl) (by go_simp) (iof_c s172) (fun _ _ h => RetI.good h) (fun _ _ h => h)),
      (fun aF wF F => by
    have s170 : aF.tmps.getD 170 undef = (.agg #[.bool o5.v.lo.neg, .slice P5 p5 q5, .int .i64 o5.v.lo.e, .bool o5.v.hi.neg, .slice R5 r5 s5, .int .i64 o5.v.hi.e]) := F.done 46 170 (by kernel_rfl) rfl
    have s173 : (fun v wv => IvR wv v (⟨m, m⟩ : RawI)) (aF.tmps.getD 173 undef) wF := F.done 49 173 (by kernel_rfl) rfl
    have sg : aF.tmps.getD 169 undef = (.bool true) := F.done 45 169 (by kernel_rfl) rfl
    exact step_good ((wanted_guard rfl rfl sg).trans rfl) (by go_simp) (isameV ⟨_, _, _, _, _, _, rfl, Z5.out.1.kept F.kept, Z5.out.2.kept F.kept⟩ s173 V5.out L5.out) (fun _ _ h => RetK.good h) (fun _ _ h => h)),
      (fun aF wF F => by
    have s169 : aF.tmps.getD 169 undef = (.bool true) := F.done 45 169 (by kernel_rfl) rfl
    have s174 : aF.tmps.getD 174 undef = (.bool true) := F.done 50 174 (by kernel_rfl) rfl
    exact step_val (by simp [Region.wanted]) (by go_simp) rfl),
      (fun aF wF F => by
    have s175 : aF.tmps.getD 175 undef = (.bool true) := F.done 51 175 (by kernel_rfl) rfl
    exact step_val (by simp [Region.wanted]) (by go_simp) rfl),
      trivial⟩) ?_
  intro u w1 k1 hu
  have e124 : u 0 = (.bool true) := hu 0 (by decide)
  have e125 : u 1 = (.bool true) := hu 1 (by decide)
  have e126 : u 2 = .int .i64 0 := hu 2 (by decide)
  have e127 : u 3 = .int .i64 0 := hu 3 (by decide)
  have e128 : u 4 = (.int .i64 0) := hu 4 (by decide)
  have e129 : u 5 = .int .i64 0 := hu 5 (by decide)
  have e130 : u 6 = (.int .i64 0) := hu 6 (by decide)
  have e131 : u 7 = .int .i64 0 := hu 7 (by decide)
  have e132 : u 8 = (.int .i64 0) := hu 8 (by decide)
  have e133 : u 9 = .int .i64 0 := hu 9 (by decide)
  have e134 : u 10 = (.int .i64 0) := hu 10 (by decide)
  have e135 : u 11 = .int .i64 0 := hu 11 (by decide)
  have e136 : u 12 = (.int .i64 0) := hu 12 (by decide)
  have e137 : u 13 = .int .i64 0 := hu 13 (by decide)
  have e138 : u 14 = (.int .i64 0) := hu 14 (by decide)
  have e139 : u 15 = .int .i64 0 := hu 15 (by decide)
  have e140 : u 16 = (.int .i64 0) := hu 16 (by decide)
  have e141 : u 17 = .int .i64 0 := hu 17 (by decide)
  have e142 : u 18 = (.int .i64 0) := hu 18 (by decide)
  have e143 : u 19 = (.bool true) := hu 19 (by decide)
  have e144 : u 20 = (.bool true) := hu 20 (by decide)
  have e145 : u 21 = (.bool true) := hu 21 (by decide)
  have e146 : u 22 = (.agg #[.bool o1.v.lo.neg, .slice P1 p1 q1, .int .i64 o1.v.lo.e, .bool o1.v.hi.neg, .slice Q1 r1 s1, .int .i64 o1.v.hi.e]) := hu 22 (by decide)
  have e147 : u 23 = (.agg #[.bool o6.v.neg, .slice P6 p6 q6, .int .i64 o6.v.e]) := hu 23 (by decide)
  have p148 := hu 24 (by decide)
  have e149 : u 25 = (.bool true) := hu 25 (by decide)
  have e150 : u 26 = (.bool true) := hu 26 (by decide)
  have e151 : u 27 = (.bool true) := hu 27 (by decide)
  have e152 : u 28 = (.agg #[.bool o2.v.lo.neg, .slice P2 p2 q2, .int .i64 o2.v.lo.e, .bool o2.v.hi.neg, .slice Q2 r2 s2, .int .i64 o2.v.hi.e]) := hu 28 (by decide)
  have e153 : u 29 = (.agg #[.bool o7.v.neg, .slice P7 p7 q7, .int .i64 o7.v.e]) := hu 29 (by decide)
  have p154 := hu 30 (by decide)
  have e155 : u 31 = (.bool true) := hu 31 (by decide)
  have e156 : u 32 = (.bool true) := hu 32 (by decide)
  have e157 : u 33 = (.bool true) := hu 33 (by decide)
  have e158 : u 34 = (.agg #[.bool o3.v.lo.neg, .slice P3 p3 q3, .int .i64 o3.v.lo.e, .bool o3.v.hi.neg, .slice Q3 r3 s3, .int .i64 o3.v.hi.e]) := hu 34 (by decide)
  have e159 : u 35 = (.agg #[.bool o8.v.neg, .slice P8 p8 q8, .int .i64 o8.v.e]) := hu 35 (by decide)
  have p160 := hu 36 (by decide)
  have e161 : u 37 = (.bool true) := hu 37 (by decide)
  have e162 : u 38 = (.bool true) := hu 38 (by decide)
  have e163 : u 39 = (.bool true) := hu 39 (by decide)
  have e164 : u 40 = (.agg #[.bool o4.v.lo.neg, .slice P4 p4 q4, .int .i64 o4.v.lo.e, .bool o4.v.hi.neg, .slice R4 r4 s4, .int .i64 o4.v.hi.e]) := hu 40 (by decide)
  have e165 : u 41 = (.agg #[.bool o9.v.neg, .slice P9 p9 q9, .int .i64 o9.v.e]) := hu 41 (by decide)
  have p166 := hu 42 (by decide)
  have e167 : u 43 = (.bool true) := hu 43 (by decide)
  have e168 : u 44 = (.bool true) := hu 44 (by decide)
  have e169 : u 45 = (.bool true) := hu 45 (by decide)
  have e170 : u 46 = (.agg #[.bool o5.v.lo.neg, .slice P5 p5 q5, .int .i64 o5.v.lo.e, .bool o5.v.hi.neg, .slice R5 r5 s5, .int .i64 o5.v.hi.e]) := hu 46 (by decide)
  have e171 : u 47 = (.agg #[.bool xa, .slice Aa ia ja, .int .i64 ya]) := hu 47 (by decide)
  have p172 := hu 48 (by decide)
  have p173 := hu 49 (by decide)
  have e174 : u 50 = (.bool true) := hu 50 (by decide)
  have e175 : u 51 = (.bool true) := hu 51 (by decide)
  have e4 : u 52 = (.bool true) := hu 52 (by decide)
  clear hu
  simp only [puts, slotOf, if_true, Act.put, List.setIfInBounds_toArray, List.set_cons_zero, List.set_cons_succ, List.getElem?_toArray, List.getElem?_cons_zero, List.getElem?_cons_succ, Option.bind_some, e124, e125, e126, e127, e128, e129, e130, e131, e132, e133, e134, e135, e136, e137, e138, e139, e140, e141, e142, e143, e144, e145, e146, e147, e149, e150, e151, e152, e153, e155, e156, e157, e158, e159, e161, e162, e163, e164, e165, e167, e168, e169, e170, e171, e174, e175, e4]
  clear e124 e125 e126 e127 e128 e129 e130 e131 e132 e133 e134 e135 e136 e137 e138 e139 e140 e141 e142 e143 e144 e145 e146 e147 e149 e150 e151 e152 e153 e155 e156 e157 e158 e159 e161 e162 e163 e164 e165 e167 e168 e169 e170 e171 e174 e175 e4
  generalize u 24 = v148 at *
  try simp only [VL, List.getD_cons_zero, List.getD_cons_succ] at p148
  generalize u 30 = v154 at *
  try simp only [VL, List.getD_cons_zero, List.getD_cons_succ] at p154
  generalize u 36 = v160 at *
  try simp only [VL, List.getD_cons_zero, List.getD_cons_succ] at p160
  generalize u 42 = v166 at *
  try simp only [VL, List.getD_cons_zero, List.getD_cons_succ] at p166
  generalize u 48 = v172 at *
  try simp only [VL, List.getD_cons_zero, List.getD_cons_succ] at p172
  generalize u 49 = v173 at *
  try simp only [VL, List.getD_cons_zero, List.getD_cons_succ] at p173
  go_wp2_with fail
  go_ret
  exact ⟨rfl, K.out.trans k1⟩






end Go.Proofs.YtjdplcenniogdaaDoor
