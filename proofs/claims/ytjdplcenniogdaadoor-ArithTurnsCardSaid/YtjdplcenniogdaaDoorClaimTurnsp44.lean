/- Laws of layer 6: ArithTurns. -/
import Derived.Test.YtjdplcenniogdaaDoorClaimTurnsp20
import Derived.Test.YtjdplcenniogdaaDoorClaimTurnsp43
namespace Go.Proofs.YtjdplcenniogdaaDoor
open Go.RowKit

theorem n_of (p : Int) (c m : Nat) (hm : 0 < m) (hs : c + m ≤ 1000) : ∃ n : Nat, wrap64 ((c : Int) + wrap64 ((IntKind.u64.wrap p).tmod (m : Int))) = (n : Int) ∧ c ≤ n ∧ n < c + m := by
  rw [IntKind.wrap_u64]
  have h0 : 0 ≤ p % 18446744073709551616 := Int.emod_nonneg _ (by decide)
  rw [Int.tmod_eq_emod_of_nonneg h0]
  have h1 : 0 ≤ p % 18446744073709551616 % (m : Int) := Int.emod_nonneg _ (by omega)
  have h2 : p % 18446744073709551616 % (m : Int) < m := Int.emod_lt_of_pos _ (by omega)
  generalize p % 18446744073709551616 % (m : Int) = x at *
  refine ⟨(c + x).toNat, ?_, by omega, by omega⟩
  unfold wrap64
  omega
theorem sameR_self (a : Raw) : sameR a a = true := by unfold sameR; simp
theorem isameT {w : World} {v u : Value} {a : RawI} (hv : IvR w v a) (hu : IvR w u a) (hl : a.lens 17592186044416) : Calls Tryd.prog 26 #[v, u] w (RetK (.bool true) w) := by
  have h := isame_c hv hu hl
  rwa [sameR_self, sameR_self] at h
theorem okI_lens {o : Outc Iv} (h : OkI o) : (rawO o).v.lens 17592186044416 := iv_lens h.1

set_option maxHeartbeats 4000000 in
set_option maxRecDepth 100000 in
theorem turns_c {w : World} {v u : Value} {a b : RawI} {p : Int} (hv : IvR w v a) (hu : IvR w u b) (la : a.lens 17592186044416) (lb : b.lens 17592186044416) (hT : Tab w) :
    Calls Tryd.prog 5 #[v, u, .int .i64 p] w (RetK (.bool true) w) := by
  have FA := Lib.hid (fun w1 (k : Kept w w1) => fewI_c (hv.kept k) la)
  have FB := Lib.hid (fun w1 (k : Kept w w1) => fewI_c (hu.kept k) lb)
  have MA := Lib.hid (fun w1 (k : Kept w w1) => imay_c (hv.kept k) la)
  have MB := Lib.hid (fun w1 (k : Kept w w1) => imay_c (hu.kept k) lb)
  have T := Lib.hid hT
  obtain ⟨A, l, c, A', l', c', rfl, h1, h2⟩ := ivR_split hv
  obtain ⟨B, j, e, B', j', e', rfl, g1, g2⟩ := ivR_split hu
  have H1 := Lib.hid h1
  have H2 := Lib.hid h2
  have G1 := Lib.hid g1
  have G2 := Lib.hid g2
  have CA := Lib.hid (fun (h : mayI a = true) => iv_clean h1.small h2.small h)
  have CB := Lib.hid (fun (h : mayI b = true) => iv_clean g1.small g2.small h)
  clear hv hu h1 h2 g1 g2 la lb hT
  obtain ⟨fa, hfa⟩ : ∃ x, fewI a = x := ⟨_, rfl⟩
  obtain ⟨fb, hfb⟩ : ∃ x, fewI b = x := ⟨_, rfl⟩
  obtain ⟨ma, hma⟩ : ∃ x, mayI a = x := ⟨_, rfl⟩
  obtain ⟨mb, hmb⟩ : ∃ x, mayI b = x := ⟨_, rfl⟩
  rw [hfa] at FA
  rw [hfb] at FB
  rw [hma] at MA CA
  rw [hmb] at MB CB
  clear hfa hfb hma hmb
  generalize a.lo.neg = n1 at *
  generalize a.lo.e = e1 at *
  generalize a.hi.neg = n2 at *
  generalize a.hi.e = e2 at *
  generalize b.lo.neg = n3 at *
  generalize b.lo.e = e3 at *
  generalize b.hi.neg = n4 at *
  generalize b.hi.e = e4 at *
  obtain ⟨W, hW, kW, BA, BB⟩ := box2ii w (.bool n1) (.slice A l c) (.int .i64 e1) (.bool n2) (.slice A' l' c') (.int .i64 e2) (.bool n3) (.slice B j e) (.int .i64 e3) (.bool n4) (.slice B' j' e') (.int .i64 e4)
  have HW := Lib.hid hW
  have K := Lib.hid kW
  have HA := Lib.hid BA
  have HB := Lib.hid BB
  clear hW kW BA BB
  go_enter Tryd.func5, Tryd.ntmps5
  go_upto_region 1 with fail
  rw [← HW.out]
  refine region_seq (m := 18) (V := VL [
      (fun v _ => v = (.agg #[.bool n1, .slice A l c, .int .i64 e1, .bool n2, .slice A' l' c', .int .i64 e2])),
      (fun v _ => v = (.bool fa)),
      (fun v _ => v = (.bool (!fa))),
      (fun v _ => v = (.bool (!fa))),
      (fun v wv => (fa = true → (fun v _ => v = (.agg #[.bool n3, .slice B j e, .int .i64 e3, .bool n4, .slice B' j' e', .int .i64 e4])) v wv) ∧ (fa = false → v = undef)),
      (fun v wv => (fa = true → (fun v _ => v = (.bool fb)) v wv) ∧ (fa = false → v = undef)),
      (fun v wv => (fa = true → (fun v _ => v = (.bool (!fb))) v wv) ∧ (fa = false → v = undef)),
      (fun v _ => v = (.bool (!(fa && fb)))),
      (fun v _ => v = (.bool (!(fa && fb)))),
      (fun v wv => ((fa && fb) = true → (fun v _ => v = (.agg #[.bool n1, .slice A l c, .int .i64 e1, .bool n2, .slice A' l' c', .int .i64 e2])) v wv) ∧ ((fa && fb) = false → v = undef)),
      (fun v wv => ((fa && fb) = true → (fun v _ => v = (.bool ma)) v wv) ∧ ((fa && fb) = false → v = undef)),
      (fun v wv => ((fa && fb) = true → (fun v _ => v = (.bool (!ma))) v wv) ∧ ((fa && fb) = false → v = undef)),
      (fun v _ => v = (.bool (!(fa && fb && ma)))),
      (fun v _ => v = (.bool (!(fa && fb && ma)))),
      (fun v wv => ((fa && fb && ma) = true → (fun v _ => v = (.agg #[.bool n3, .slice B j e, .int .i64 e3, .bool n4, .slice B' j' e', .int .i64 e4])) v wv) ∧ ((fa && fb && ma) = false → v = undef)),
      (fun v wv => ((fa && fb && ma) = true → (fun v _ => v = (.bool mb)) v wv) ∧ ((fa && fb && ma) = false → v = undef)),
      (fun v wv => ((fa && fb && ma) = true → (fun v _ => v = (.bool (!mb))) v wv) ∧ ((fa && fb && ma) = false → v = undef)),
      (fun v _ => v = (.bool (!(fa && fb && ma && mb))))])
    rfl (by kernel_rfl) (by kernel_rfl) (by kernel_rfl) (mono_of _ ⟨mono_eq _, mono_eq _, mono_eq _, mono_eq _, fun v w w' k h => ⟨fun hC => (fun v w w' k h => by first | exact h | exact h.kept k | exact ⟨h.1, h.2.kept k⟩) v w w' k (h.1 hC), h.2⟩, fun v w w' k h => ⟨fun hC => (fun v w w' k h => by first | exact h | exact h.kept k | exact ⟨h.1, h.2.kept k⟩) v w w' k (h.1 hC), h.2⟩, fun v w w' k h => ⟨fun hC => (fun v w w' k h => by first | exact h | exact h.kept k | exact ⟨h.1, h.2.kept k⟩) v w w' k (h.1 hC), h.2⟩, mono_eq _, mono_eq _, fun v w w' k h => ⟨fun hC => (fun v w w' k h => by first | exact h | exact h.kept k | exact ⟨h.1, h.2.kept k⟩) v w w' k (h.1 hC), h.2⟩, fun v w w' k h => ⟨fun hC => (fun v w w' k h => by first | exact h | exact h.kept k | exact ⟨h.1, h.2.kept k⟩) v w w' k (h.1 hC), h.2⟩, fun v w w' k h => ⟨fun hC => (fun v w w' k h => by first | exact h | exact h.kept k | exact ⟨h.1, h.2.kept k⟩) v w w' k (h.1 hC), h.2⟩, mono_eq _, mono_eq _, fun v w w' k h => ⟨fun hC => (fun v w w' k h => by first | exact h | exact h.kept k | exact ⟨h.1, h.2.kept k⟩) v w w' k (h.1 hC), h.2⟩, fun v w w' k h => ⟨fun hC => (fun v w w' k h => by first | exact h | exact h.kept k | exact ⟨h.1, h.2.kept k⟩) v w w' k (h.1 hC), h.2⟩, fun v w w' k h => ⟨fun hC => (fun v w w' k h => by first | exact h | exact h.kept k | exact ⟨h.1, h.2.kept k⟩) v w w' k (h.1 hC), h.2⟩, mono_eq _, trivial⟩) (steps_of ⟨
      (fun aF wF F => by
    have s3 : aF.tmps.getD 3 undef = (.pointer (some ⟨w.heap.size, 0, none⟩)) := F.old 3 (by kernel_rfl)
    have c0 := cell_at HA.out F.kept 0 _ rfl
    have c1 := cell_at HA.out F.kept 1 _ rfl
    have c2 := cell_at HA.out F.kept 2 _ rfl
    have c3 := cell_at HA.out F.kept 3 _ rfl
    have c4 := cell_at HA.out F.kept 4 _ rfl
    have c5 := cell_at HA.out F.kept 5 _ rfl
    exact step_val (by simp [Region.wanted]) (by go_simp) rfl),
      (fun aF wF F => by
    have s13 : aF.tmps.getD 13 undef = (.agg #[.bool n1, .slice A l c, .int .i64 e1, .bool n2, .slice A' l' c', .int .i64 e2]) := F.done 0 13 (by kernel_rfl) rfl
    exact step_good (by simp [Region.wanted]) (by go_simp) (FA.out _ (K.out.trans F.kept)) (fun _ _ h => RetK.good h) (fun _ _ h => h)),
      (fun aF wF F => by
    have s14 : aF.tmps.getD 14 undef = (.bool fa) := F.done 1 14 (by kernel_rfl) rfl
    exact step_val (by simp [Region.wanted]) (by go_simp) rfl),
      (fun aF wF F => by
    have s15 : aF.tmps.getD 15 undef = (.bool (!fa)) := F.done 2 15 (by kernel_rfl) rfl
    exact step_val (by simp [Region.wanted]) (by go_simp) rfl),
      (fun aF wF F => by
    have sg : aF.tmps.getD 16 undef = (.bool (!fa)) := F.done 3 16 (by kernel_rfl) rfl
    have s4 : aF.tmps.getD 4 undef = (.pointer (some ⟨w.heap.size + 1, 0, none⟩)) := F.old 4 (by kernel_rfl)
    have c0 := cell_at HB.out F.kept 0 _ rfl
    have c1 := cell_at HB.out F.kept 1 _ rfl
    have c2 := cell_at HB.out F.kept 2 _ rfl
    have c3 := cell_at HB.out F.kept 3 _ rfl
    have c4 := cell_at HB.out F.kept 4 _ rfl
    have c5 := cell_at HB.out F.kept 5 _ rfl
    rcases bools fa with hC | hC
    · refine step_imp (V1 := fun _ => (fun v _ => v = (.agg #[.bool n3, .slice B j e, .int .i64 e3, .bool n4, .slice B' j' e', .int .i64 e4]))) ?_ (fun _ _ h => ⟨fun _ => h, fun hN => absurd (hC.symm.trans hN) (by decide)⟩)
      exact step_val ((wanted_guard rfl rfl sg).trans (by first | rfl | simp [hC])) (by go_simp) rfl
    · exact step_out ((wanted_guard rfl rfl sg).trans (by first | rfl | simp [hC])) ⟨fun h => absurd (hC.symm.trans h) (by decide), fun _ => rfl⟩),
      (fun aF wF F => by
    have sg : aF.tmps.getD 16 undef = (.bool (!fa)) := F.done 3 16 (by kernel_rfl) rfl
    have s17 : (fa = true → aF.tmps.getD 17 undef = (.agg #[.bool n3, .slice B j e, .int .i64 e3, .bool n4, .slice B' j' e', .int .i64 e4])) ∧ (fa = false → aF.tmps.getD 17 undef = undef) := F.done 4 17 (by kernel_rfl) rfl
    rcases bools fa with hC | hC
    · refine step_imp (V1 := fun _ => (fun v _ => v = (.bool fb))) ?_ (fun _ _ h => ⟨fun _ => h, fun hN => absurd (hC.symm.trans hN) (by decide)⟩)
      replace s17 := s17.1 hC
      exact step_good ((wanted_guard rfl rfl sg).trans (by first | rfl | simp [hC])) (by go_simp) (FB.out _ (K.out.trans F.kept)) (fun _ _ h => RetK.good h) (fun _ _ h => h)
    · exact step_out ((wanted_guard rfl rfl sg).trans (by first | rfl | simp [hC])) ⟨fun h => absurd (hC.symm.trans h) (by decide), fun _ => rfl⟩),
      (fun aF wF F => by
    have sg : aF.tmps.getD 16 undef = (.bool (!fa)) := F.done 3 16 (by kernel_rfl) rfl
    have s18 : (fa = true → aF.tmps.getD 18 undef = (.bool fb)) ∧ (fa = false → aF.tmps.getD 18 undef = undef) := F.done 5 18 (by kernel_rfl) rfl
    rcases bools fa with hC | hC
    · refine step_imp (V1 := fun _ => (fun v _ => v = (.bool (!fb)))) ?_ (fun _ _ h => ⟨fun _ => h, fun hN => absurd (hC.symm.trans hN) (by decide)⟩)
      replace s18 := s18.1 hC
      exact step_val ((wanted_guard rfl rfl sg).trans (by first | rfl | simp [hC])) (by go_simp) rfl
    · exact step_out ((wanted_guard rfl rfl sg).trans (by first | rfl | simp [hC])) ⟨fun h => absurd (hC.symm.trans h) (by decide), fun _ => rfl⟩),
      (fun aF wF F => by
    have s16 : aF.tmps.getD 16 undef = (.bool (!fa)) := F.done 3 16 (by kernel_rfl) rfl
    have s19 : (fa = true → aF.tmps.getD 19 undef = (.bool (!fb))) ∧ (fa = false → aF.tmps.getD 19 undef = undef) := F.done 6 19 (by kernel_rfl) rfl
    rcases bools fa with hE | hE
    · replace s19 := s19.1 hE
      exact step_val (by simp [Region.wanted]) (by first | (go_simp; done) | (go_simp; simp_all; done) | (simp_all; done)) rfl
    · exact step_val (by simp [Region.wanted]) (by first | (go_simp; done) | (go_simp; simp_all; done) | (simp_all; done)) rfl),
      (fun aF wF F => by
    have s20 : aF.tmps.getD 20 undef = (.bool (!(fa && fb))) := F.done 7 20 (by kernel_rfl) rfl
    exact step_val (by simp [Region.wanted]) (by go_simp) rfl),
      (fun aF wF F => by
    have sg : aF.tmps.getD 21 undef = (.bool (!(fa && fb))) := F.done 8 21 (by kernel_rfl) rfl
    have s3 : aF.tmps.getD 3 undef = (.pointer (some ⟨w.heap.size, 0, none⟩)) := F.old 3 (by kernel_rfl)
    have c0 := cell_at HA.out F.kept 0 _ rfl
    have c1 := cell_at HA.out F.kept 1 _ rfl
    have c2 := cell_at HA.out F.kept 2 _ rfl
    have c3 := cell_at HA.out F.kept 3 _ rfl
    have c4 := cell_at HA.out F.kept 4 _ rfl
    have c5 := cell_at HA.out F.kept 5 _ rfl
    rcases bools (fa && fb) with hC | hC
    · refine step_imp (V1 := fun _ => (fun v _ => v = (.agg #[.bool n1, .slice A l c, .int .i64 e1, .bool n2, .slice A' l' c', .int .i64 e2]))) ?_ (fun _ _ h => ⟨fun _ => h, fun hN => absurd (hC.symm.trans hN) (by decide)⟩)
      exact step_val ((wanted_guard rfl rfl sg).trans (by first | rfl | simp [hC])) (by go_simp) rfl
    · exact step_out ((wanted_guard rfl rfl sg).trans (by first | rfl | simp [hC])) ⟨fun h => absurd (hC.symm.trans h) (by decide), fun _ => rfl⟩),
      (fun aF wF F => by
    have sg : aF.tmps.getD 21 undef = (.bool (!(fa && fb))) := F.done 8 21 (by kernel_rfl) rfl
    have s22 : ((fa && fb) = true → aF.tmps.getD 22 undef = (.agg #[.bool n1, .slice A l c, .int .i64 e1, .bool n2, .slice A' l' c', .int .i64 e2])) ∧ ((fa && fb) = false → aF.tmps.getD 22 undef = undef) := F.done 9 22 (by kernel_rfl) rfl
    rcases bools (fa && fb) with hC | hC
    · refine step_imp (V1 := fun _ => (fun v _ => v = (.bool ma))) ?_ (fun _ _ h => ⟨fun _ => h, fun hN => absurd (hC.symm.trans hN) (by decide)⟩)
      replace s22 := s22.1 hC
      exact step_good ((wanted_guard rfl rfl sg).trans (by first | rfl | simp [hC])) (by go_simp) (MA.out _ (K.out.trans F.kept)) (fun _ _ h => RetK.good h) (fun _ _ h => h)
    · exact step_out ((wanted_guard rfl rfl sg).trans (by first | rfl | simp [hC])) ⟨fun h => absurd (hC.symm.trans h) (by decide), fun _ => rfl⟩),
      (fun aF wF F => by
    have sg : aF.tmps.getD 21 undef = (.bool (!(fa && fb))) := F.done 8 21 (by kernel_rfl) rfl
    have s23 : ((fa && fb) = true → aF.tmps.getD 23 undef = (.bool ma)) ∧ ((fa && fb) = false → aF.tmps.getD 23 undef = undef) := F.done 10 23 (by kernel_rfl) rfl
    rcases bools (fa && fb) with hC | hC
    · refine step_imp (V1 := fun _ => (fun v _ => v = (.bool (!ma)))) ?_ (fun _ _ h => ⟨fun _ => h, fun hN => absurd (hC.symm.trans hN) (by decide)⟩)
      replace s23 := s23.1 hC
      exact step_val ((wanted_guard rfl rfl sg).trans (by first | rfl | simp [hC])) (by go_simp) rfl
    · exact step_out ((wanted_guard rfl rfl sg).trans (by first | rfl | simp [hC])) ⟨fun h => absurd (hC.symm.trans h) (by decide), fun _ => rfl⟩),
      (fun aF wF F => by
    have s21 : aF.tmps.getD 21 undef = (.bool (!(fa && fb))) := F.done 8 21 (by kernel_rfl) rfl
    have s24 : ((fa && fb) = true → aF.tmps.getD 24 undef = (.bool (!ma))) ∧ ((fa && fb) = false → aF.tmps.getD 24 undef = undef) := F.done 11 24 (by kernel_rfl) rfl
    rcases bools (fa && fb) with hE | hE
    · replace s24 := s24.1 hE
      exact step_val (by simp [Region.wanted]) (by first | (go_simp; done) | (go_simp; simp_all; done) | (simp_all; done)) rfl
    · exact step_val (by simp [Region.wanted]) (by first | (go_simp; done) | (go_simp; simp_all; done) | (simp_all; done)) rfl),
      (fun aF wF F => by
    have s25 : aF.tmps.getD 25 undef = (.bool (!(fa && fb && ma))) := F.done 12 25 (by kernel_rfl) rfl
    exact step_val (by simp [Region.wanted]) (by go_simp) rfl),
      (fun aF wF F => by
    have sg : aF.tmps.getD 26 undef = (.bool (!(fa && fb && ma))) := F.done 13 26 (by kernel_rfl) rfl
    have s4 : aF.tmps.getD 4 undef = (.pointer (some ⟨w.heap.size + 1, 0, none⟩)) := F.old 4 (by kernel_rfl)
    have c0 := cell_at HB.out F.kept 0 _ rfl
    have c1 := cell_at HB.out F.kept 1 _ rfl
    have c2 := cell_at HB.out F.kept 2 _ rfl
    have c3 := cell_at HB.out F.kept 3 _ rfl
    have c4 := cell_at HB.out F.kept 4 _ rfl
    have c5 := cell_at HB.out F.kept 5 _ rfl
    rcases bools (fa && fb && ma) with hC | hC
    · refine step_imp (V1 := fun _ => (fun v _ => v = (.agg #[.bool n3, .slice B j e, .int .i64 e3, .bool n4, .slice B' j' e', .int .i64 e4]))) ?_ (fun _ _ h => ⟨fun _ => h, fun hN => absurd (hC.symm.trans hN) (by decide)⟩)
      exact step_val ((wanted_guard rfl rfl sg).trans (by first | rfl | simp [hC])) (by go_simp) rfl
    · exact step_out ((wanted_guard rfl rfl sg).trans (by first | rfl | simp [hC])) ⟨fun h => absurd (hC.symm.trans h) (by decide), fun _ => rfl⟩),
      (fun aF wF F => by
    have sg : aF.tmps.getD 26 undef = (.bool (!(fa && fb && ma))) := F.done 13 26 (by kernel_rfl) rfl
    have s27 : ((fa && fb && ma) = true → aF.tmps.getD 27 undef = (.agg #[.bool n3, .slice B j e, .int .i64 e3, .bool n4, .slice B' j' e', .int .i64 e4])) ∧ ((fa && fb && ma) = false → aF.tmps.getD 27 undef = undef) := F.done 14 27 (by kernel_rfl) rfl
    rcases bools (fa && fb && ma) with hC | hC
    · refine step_imp (V1 := fun _ => (fun v _ => v = (.bool mb))) ?_ (fun _ _ h => ⟨fun _ => h, fun hN => absurd (hC.symm.trans hN) (by decide)⟩)
      replace s27 := s27.1 hC
      exact step_good ((wanted_guard rfl rfl sg).trans (by first | rfl | simp [hC])) (by go_simp) (MB.out _ (K.out.trans F.kept)) (fun _ _ h => RetK.good h) (fun _ _ h => h)
    · exact step_out ((wanted_guard rfl rfl sg).trans (by first | rfl | simp [hC])) ⟨fun h => absurd (hC.symm.trans h) (by decide), fun _ => rfl⟩),
      (fun aF wF F => by
    have sg : aF.tmps.getD 26 undef = (.bool (!(fa && fb && ma))) := F.done 13 26 (by kernel_rfl) rfl
    have s28 : ((fa && fb && ma) = true → aF.tmps.getD 28 undef = (.bool mb)) ∧ ((fa && fb && ma) = false → aF.tmps.getD 28 undef = undef) := F.done 15 28 (by kernel_rfl) rfl
    rcases bools (fa && fb && ma) with hC | hC
    · refine step_imp (V1 := fun _ => (fun v _ => v = (.bool (!mb)))) ?_ (fun _ _ h => ⟨fun _ => h, fun hN => absurd (hC.symm.trans hN) (by decide)⟩)
      replace s28 := s28.1 hC
      exact step_val ((wanted_guard rfl rfl sg).trans (by first | rfl | simp [hC])) (by go_simp) rfl
    · exact step_out ((wanted_guard rfl rfl sg).trans (by first | rfl | simp [hC])) ⟨fun h => absurd (hC.symm.trans h) (by decide), fun _ => rfl⟩),
      (fun aF wF F => by
    have s26 : aF.tmps.getD 26 undef = (.bool (!(fa && fb && ma))) := F.done 13 26 (by kernel_rfl) rfl
    have s29 : ((fa && fb && ma) = true → aF.tmps.getD 29 undef = (.bool (!mb))) ∧ ((fa && fb && ma) = false → aF.tmps.getD 29 undef = undef) := F.done 16 29 (by kernel_rfl) rfl
    rcases bools (fa && fb && ma) with hE | hE
    · replace s29 := s29.1 hE
      exact step_val (by simp [Region.wanted]) (by first | (go_simp; done) | (go_simp; simp_all; done) | (simp_all; done)) rfl
    · exact step_val (by simp [Region.wanted]) (by first | (go_simp; done) | (go_simp; simp_all; done) | (simp_all; done)) rfl),
      trivial⟩) ?_
  intro u w1 k1 hu
  have e13 : u 0 = (.agg #[.bool n1, .slice A l c, .int .i64 e1, .bool n2, .slice A' l' c', .int .i64 e2]) := hu 0 (by decide)
  have e14 : u 1 = (.bool fa) := hu 1 (by decide)
  have e15 : u 2 = (.bool (!fa)) := hu 2 (by decide)
  have e16 : u 3 = (.bool (!fa)) := hu 3 (by decide)
  have p17 := hu 4 (by decide)
  have p18 := hu 5 (by decide)
  have p19 := hu 6 (by decide)
  have e20 : u 7 = (.bool (!(fa && fb))) := hu 7 (by decide)
  have e21 : u 8 = (.bool (!(fa && fb))) := hu 8 (by decide)
  have p22 := hu 9 (by decide)
  have p23 := hu 10 (by decide)
  have p24 := hu 11 (by decide)
  have e25 : u 12 = (.bool (!(fa && fb && ma))) := hu 12 (by decide)
  have e26 : u 13 = (.bool (!(fa && fb && ma))) := hu 13 (by decide)
  have p27 := hu 14 (by decide)
  have p28 := hu 15 (by decide)
  have p29 := hu 16 (by decide)
  have e30 : u 17 = (.bool (!(fa && fb && ma && mb))) := hu 17 (by decide)
  clear hu
  simp only [puts, slotOf, if_true, Act.put, List.setIfInBounds_toArray, List.set_cons_zero, List.set_cons_succ, List.getElem?_toArray, List.getElem?_cons_zero, List.getElem?_cons_succ, Option.bind_some, e13, e14, e15, e16, e20, e21, e25, e26, e30]
  clear e13 e14 e15 e16 e20 e21 e25 e26 e30
  generalize u 4 = v17 at *
  try simp only [VL, List.getD_cons_zero, List.getD_cons_succ] at p17
  generalize u 5 = v18 at *
  try simp only [VL, List.getD_cons_zero, List.getD_cons_succ] at p18
  generalize u 6 = v19 at *
  try simp only [VL, List.getD_cons_zero, List.getD_cons_succ] at p19
  generalize u 9 = v22 at *
  try simp only [VL, List.getD_cons_zero, List.getD_cons_succ] at p22
  generalize u 10 = v23 at *
  try simp only [VL, List.getD_cons_zero, List.getD_cons_succ] at p23
  generalize u 11 = v24 at *
  try simp only [VL, List.getD_cons_zero, List.getD_cons_succ] at p24
  generalize u 14 = v27 at *
  try simp only [VL, List.getD_cons_zero, List.getD_cons_succ] at p27
  generalize u 15 = v28 at *
  try simp only [VL, List.getD_cons_zero, List.getD_cons_succ] at p28
  generalize u 16 = v29 at *
  try simp only [VL, List.getD_cons_zero, List.getD_cons_succ] at p29
  clear p17 p18 p19 p22 p23 p24 p27 p28 p29 FA FB MA MB
  replace K := Lib.hid (K.out.trans k1)
  replace HA := Lib.hid (HA.out.kept k1)
  replace HB := Lib.hid (HB.out.kept k1)
  rcases (bools (fa && fb && ma && mb)).symm with hg | hg
  · rw [hg]
    go_wp2_with fail
    refine (told_c (T.out.kept K.out)).mono ?_
    rintro e w2 ⟨rfl, q⟩
    simp only []
    go_wp2_with fail
    go_ret
    exact ⟨rfl, K.out.trans q⟩
  rw [hg]
  simp only [Bool.and_eq_true] at hg
  obtain ⟨oa, ra⟩ := CA.out hg.1.2
  obtain ⟨ob, rb⟩ := CB.out hg.2
  have IA := Lib.hid (fun w1 (k : Kept w w1) => show IvC w1 (.agg #[.bool n1, .slice A l c, .int .i64 e1, .bool n2, .slice A' l' c', .int .i64 e2]) a.iv by unfold IvC; rw [ra]; exact ⟨_, _, _, _, _, _, rfl, H1.out.kept k, H2.out.kept k⟩)
  have IB := Lib.hid (fun w1 (k : Kept w w1) => show IvC w1 (.agg #[.bool n3, .slice B j e, .int .i64 e3, .bool n4, .slice B' j' e', .int .i64 e4]) b.iv by unfold IvC; rw [rb]; exact ⟨_, _, _, _, _, _, rfl, G1.out.kept k, G2.out.kept k⟩)
  generalize a.iv = a at *
  generalize b.iv = b at *
  clear hg CA CB H1 H2 G1 G2 ra rb
  obtain ⟨n, hn, m1, m2⟩ := n_of p 1 200 (by decide) (by decide)
  have o1n : 1 ≤ n := m1
  have o2n : n ≤ 2000 := by omega
  have hn' : wrap64 (1 + wrap64 ((IntKind.u64.wrap p).tmod 200)) = (n : Int) := hn
  clear hn m1 m2
  -- the contracts
  obtain ⟨o1, ho1⟩ : ∃ o, o = rawO (addI a b n) := ⟨_, rfl⟩
  obtain ⟨o2, ho2⟩ : ∃ o, o = rawO (subI a b n) := ⟨_, rfl⟩
  obtain ⟨o3, ho3⟩ : ∃ o, o = rawO (mulI a b n) := ⟨_, rfl⟩
  obtain ⟨o4, ho4⟩ : ∃ o, o = rawO (mulI b a n) := ⟨_, rfl⟩
  obtain ⟨o5, ho5⟩ : ∃ o, o = rawO (sqrI a n) := ⟨_, rfl⟩
  obtain ⟨o6, ho6⟩ : ∃ o, o = rawO (mulI a a n) := ⟨_, rfl⟩
  have C1 := Lib.hid (fun w1 (k : Kept w w1) => show Calls _ _ _ w1 (RetIE o1 w1) by rw [ho1]; exact Add_k (IA.out _ k) (IB.out _ k) oa ob (T.out.kept k) o1n o2n)
  have C1' := Lib.hid (fun w1 (k : Kept w w1) => show Calls _ _ _ w1 (RetIE o1 w1) by rw [ho1, addI_comm oa ob]; exact Add_k (IB.out _ k) (IA.out _ k) ob oa (T.out.kept k) o1n o2n)
  have C2 := Lib.hid (fun w1 (k : Kept w w1) => show Calls _ _ _ w1 (RetIE o2 w1) by rw [ho2]; exact Sub_k (IA.out _ k) (IB.out _ k) oa ob (T.out.kept k) o1n o2n)
  have C2' := Lib.hid (fun w1 v (k : Kept w w1) (hv : IvR w1 v ⟨(negD b.hi).raw, (negD b.lo).raw⟩) => show Calls _ _ _ w1 (RetIE o2 w1) by rw [ho2, subI_add]; exact Add_k (IA.out _ k) hv oa (neg_ok ob) (T.out.kept k) o1n o2n)
  have C3 := Lib.hid (fun w1 (k : Kept w w1) => show Calls _ _ _ w1 (RetIE o3 w1) by rw [ho3]; exact Mul_k (IA.out _ k) (IB.out _ k) oa ob (T.out.kept k) o1n o2n)
  have C4 := Lib.hid (fun w1 (k : Kept w w1) => show Calls _ _ _ w1 (RetIE o4 w1) by rw [ho4]; exact Mul_k (IB.out _ k) (IA.out _ k) ob oa (T.out.kept k) o1n o2n)
  have C5 := Lib.hid (fun w1 (k : Kept w w1) => show Calls _ _ _ w1 (RetIE o5 w1) by rw [ho5]; exact Sqr_k (IA.out _ k) oa (T.out.kept k) o1n o2n)
  have C6 := Lib.hid (fun w1 (k : Kept w w1) => show Calls _ _ _ w1 (RetIE o6 w1) by rw [ho6]; exact Mul_k (IA.out _ k) (IA.out _ k) oa oa (T.out.kept k) o1n o2n)
  have L1 : o1.v.lens 17592186044416 := by rw [ho1]; exact okI_lens (addI_ok oa ob o1n)
  have L2 : o2.v.lens 17592186044416 := by rw [ho2]; exact okI_lens (subI_ok oa ob o1n)
  have L3 : o3.v.lens 17592186044416 := by rw [ho3]; exact okI_lens (mulI_ok o1n)
  obtain ⟨z3, hz3⟩ : ∃ z, decide (o3.k = 0) = z := ⟨_, rfl⟩
  have Q3 := Lib.hid hz3
  have hz4 : decide (o4.k = 0) = z3 := by
    rw [← hz3, ho3, ho4, decide_eq_decide]
    exact (mulI_comm a b o1n).1.symm
  have hv4 : o4.v = o3.v := by rw [ho3, ho4]; show (mulI b a n).v.raw = (mulI a b n).v.raw; rw [(mulI_comm a b o1n).2]
  have Q4 := Lib.hid hz4
  have QV := Lib.hid hv4
  obtain ⟨z5, hz5⟩ : ∃ z, decide (o5.k = 0) = z := ⟨_, rfl⟩
  obtain ⟨z6, hz6⟩ : ∃ z, decide (o6.k = 0) = z := ⟨_, rfl⟩
  have Q5 := Lib.hid hz5
  have Q6 := Lib.hid hz6
  have CW := Lib.hid (fun (hz : (z5 && z6) = true) w1 v u (hv : IvR w1 v o5.v) (hu : IvR w1 u o6.v) => show Calls Tryd.prog 19 #[v, u] w1 (RetK (.bool true) w1) by
    rw [← hz5, ← hz6] at hz
    simp only [Bool.and_eq_true, decide_eq_true_eq] at hz
    rw [ho5] at hv hz
    rw [ho6] at hu hz
    have hw := sqr_in_mul o1n hz.1 hz.2
    have h := within_c hv hu (sqrI_ok o1n).1 (mulI_ok o1n).1
    rwa [(withinI_iff _ _).2 ⟨hw.1, hw.2.1⟩] at h)
  have CG := Lib.hid (fun w1 v (hv : DyR w1 v o5.v.lo) => show Calls Tryd.prog 22 #[v] w1 (RetK (.int .i64 (sg (sqrI a n).v.lo)) w1) by
    rw [ho5] at hv
    have h := dsign_c hv (iv_lens (sqrI_ok o1n).1).1
    rwa [show (rawO (sqrI a n)).v.lo = (sqrI a n).v.lo.raw from rfl, sgnR_raw _ (sqrI_ok o1n).1.lo] at h)
  obtain ⟨g, hg⟩ : ∃ g, g = sg (sqrI a n).v.lo := ⟨_, rfl⟩
  have GE := Lib.hid (fun (hz : (z5 && z6) = true) => show decide (0 ≤ g) = true by
    rw [← hz5, ← hz6] at hz
    simp only [Bool.and_eq_true, decide_eq_true_eq] at hz
    rw [ho5, ho6] at hz
    have hw := sqr_in_mul o1n hz.1 hz.2
    rw [hg, sg_q]
    simp only [decide_eq_true_eq]
    exact cmpQ_ge.2 hw.2.2)
  rw [← hg] at CG
  have N1 := Lib.hid (fun w1 (k : Kept w w1) => show Calls Tryd.prog 27 #[.agg #[.bool n4, .slice B' j' e', .int .i64 e4]] w1 (RetD (negD b.hi).raw w1) by
    obtain ⟨_, _, _, _, _, _, hh, y1, y2⟩ := IB.out w1 k
    simp only [Value.agg.injEq, List.cons.injEq, Array.mk.injEq, and_true] at hh
    obtain ⟨rfl, rfl, rfl, rfl, rfl, rfl⟩ := hh
    have h := dneg_c y2 (by have := dy_len ob.hi; show b.hi.raw.m.length ≤ _; omega)
    rwa [show b.raw.hi = b.hi.raw from rfl, negR_raw _ ob.hi] at h)
  have N2 := Lib.hid (fun w1 (k : Kept w w1) => show Calls Tryd.prog 27 #[.agg #[.bool n3, .slice B j e, .int .i64 e3]] w1 (RetD (negD b.lo).raw w1) by
    obtain ⟨_, _, _, _, _, _, hh, y1, y2⟩ := IB.out w1 k
    simp only [Value.agg.injEq, List.cons.injEq, Array.mk.injEq, and_true] at hh
    obtain ⟨rfl, rfl, rfl, rfl, rfl, rfl⟩ := hh
    have h := dneg_c y1 (by have := dy_len ob.lo; show b.lo.raw.m.length ≤ _; omega)
    rwa [show b.raw.lo = b.lo.raw from rfl, negR_raw _ ob.lo] at h)
  generalize (negD b.hi).raw = m1 at *
  generalize (negD b.lo).raw = m2 at *
  clear ho1 ho2 ho3 ho4 ho5 ho6 IA IB hg oa ob o1n o2n hz3 hz4 hz5 hz6 hv4
  obtain ⟨-, c0, c1, c2, c3, c4, c5⟩ := HA.out.facts
  obtain ⟨-, d0, d1, d2, d3, d4, d5⟩ := HB.out.facts
  go_wp2_with fail
  refine (C1.out _ K.out).mono ?_
  rintro e w1 ⟨q, u, rfl, hd⟩
  obtain ⟨PX, pX, qX, RX, rX, sX, rfl, z1, z2⟩ := ivR_split hd
  simp only []
  obtain ⟨V, hV, kV, hb, lV⟩ := boxG w1 (.bool o1.v.lo.neg) (.slice PX pX qX) (.int .i64 o1.v.lo.e) (.bool o1.v.hi.neg) (.slice RX rX sX) (.int .i64 o1.v.hi.e)
  have HV := Lib.hid hV
  have kk := q.trans kV
  have lX : w.heap.size + 1 < w1.heap.size := Nat.lt_of_lt_of_le HB.out.facts.1 q.size
  replace K := Lib.hid (K.out.trans kk)
  replace HA := Lib.hid (HA.out.kept kk); replace HB := Lib.hid (HB.out.kept kk)
  have HX := Lib.hid hb
  have ZX := Lib.hid (And.intro (z1.kept kV) (z2.kept kV))
  clear hV kV hb lV kk q hd z1 z2 c0 c1 c2 c3 c4 c5 d0 d1 d2 d3 d4 d5
  go_upto_region 5 with fail
  rw [← HV.out]
  clear HV
  generalize w1.heap.size = bX at *
  obtain ⟨-, c0, c1, c2, c3, c4, c5⟩ := HA.out.facts
  obtain ⟨-, d0, d1, d2, d3, d4, d5⟩ := HB.out.facts
  go_wp2_with fail
  refine (C1'.out _ K.out).mono ?_
  rintro e w1 ⟨q, u, rfl, hd⟩
  obtain ⟨PY, pY, qY, RY, rY, sY, rfl, z1, z2⟩ := ivR_split hd
  simp only []
  obtain ⟨V, hV, kV, hb, lV⟩ := boxG w1 (.bool o1.v.lo.neg) (.slice PY pY qY) (.int .i64 o1.v.lo.e) (.bool o1.v.hi.neg) (.slice RY rY sY) (.int .i64 o1.v.hi.e)
  have HV := Lib.hid hV
  have kk := q.trans kV
  have lY : bX < w1.heap.size := Nat.lt_of_lt_of_le HX.out.facts.1 q.size
  replace K := Lib.hid (K.out.trans kk)
  replace HA := Lib.hid (HA.out.kept kk); replace HB := Lib.hid (HB.out.kept kk); replace HX := Lib.hid (HX.out.kept kk); replace ZX := Lib.hid (And.intro (ZX.out.1.kept kk) (ZX.out.2.kept kk))
  have HY := Lib.hid hb
  have ZY := Lib.hid (And.intro (z1.kept kV) (z2.kept kV))
  clear hV kV hb lV kk q hd z1 z2 c0 c1 c2 c3 c4 c5 d0 d1 d2 d3 d4 d5
  go_upto_region 6 with fail
  rw [← HV.out]
  clear HV
  generalize w1.heap.size = bY at *
  obtain ⟨-, c0, c1, c2, c3, c4, c5⟩ := HX.out.facts
  obtain ⟨-, d0, d1, d2, d3, d4, d5⟩ := HY.out.facts
  go_wp2_with fail
  refine (isameT ⟨_, _, _, _, _, _, rfl, ZX.out.1, ZX.out.2⟩ ⟨_, _, _, _, _, _, rfl, ZY.out.1, ZY.out.2⟩ L1).mono ?_
  rintro e w1 ⟨rfl, q⟩
  simp only []
  replace K := Lib.hid (K.out.trans q)
  replace HA := Lib.hid (HA.out.kept q); replace HB := Lib.hid (HB.out.kept q); replace HX := Lib.hid (HX.out.kept q); replace HY := Lib.hid (HY.out.kept q)
  clear q c0 c1 c2 c3 c4 c5 d0 d1 d2 d3 d4 d5 ZX ZY
  go_upto_region 8 with fail
  refine region_lin1 (m := 8) (V := VL [
      (fun v _ => v = (.pointer (some ⟨w.heap.size + 1, 3, none⟩))),
      (fun v _ => v = (.agg #[.bool n4, .slice B' j' e', .int .i64 e4])),
      (fun v wv => DyR wv v m1),
      (fun v _ => v = (.pointer (some ⟨w.heap.size + 1, 0, none⟩))),
      (fun v _ => v = (.agg #[.bool n3, .slice B j e, .int .i64 e3])),
      (fun v wv => DyR wv v m2),
      (fun v wv => IvR wv v ⟨m1, m2⟩),
      (fun v wv => ∃ b, v = .pointer (some ⟨b, 0, none⟩) ∧ w1.heap.size ≤ b ∧ BlkI wv b (.bool false) (.slice none 0 0) (.int .i64 0) (.bool false) (.slice none 0 0) (.int .i64 0))])
    (by kernel_rfl) rfl rfl rfl (by kernel_rfl) (by kernel_rfl) (by kernel_rfl) (by kernel_rfl) (mono_of _ ⟨mono_eq _, mono_eq _, fun v w w' k h => by first | exact h | exact h.kept k | exact ⟨h.1, h.2.kept k⟩, mono_eq _, mono_eq _, fun v w w' k h => by first | exact h | exact h.kept k | exact ⟨h.1, h.2.kept k⟩, fun v w w' k h => by first | exact h | exact h.kept k | exact ⟨h.1, h.2.kept k⟩, fun v w w' k h => by obtain ⟨b, h1, h2, h3⟩ := h; exact ⟨b, h1, h2, h3.kept k⟩, trivial⟩) (steps_of ⟨
      (fun aF wF F => by
    have s4 : aF.tmps.getD 4 undef = (.pointer (some ⟨w.heap.size + 1, 0, none⟩)) := F.old 4 (by kernel_rfl)
    exact step_val (by simp [Region.wanted]) (by go_simp) rfl),
      (fun aF wF F => by
    have s60 : aF.tmps.getD 60 undef = (.pointer (some ⟨w.heap.size + 1, 3, none⟩)) := F.done 0 60 (by kernel_rfl) rfl
    have c0 := cell_at HB.out F.kept 3 _ rfl
    have c1 := cell_at HB.out F.kept 4 _ rfl
    have c2 := cell_at HB.out F.kept 5 _ rfl
    exact step_val (by simp [Region.wanted]) (by go_simp) rfl),
      (fun aF wF F => by
    have s61 : aF.tmps.getD 61 undef = (.agg #[.bool n4, .slice B' j' e', .int .i64 e4]) := F.done 1 61 (by kernel_rfl) rfl
    exact step_good (by simp [Region.wanted]) (by go_simp) (N1.out _ (K.out.trans F.kept)) (fun _ _ h => RetD.good h) (fun _ _ h => h)),
      (fun aF wF F => by
    have s4 : aF.tmps.getD 4 undef = (.pointer (some ⟨w.heap.size + 1, 0, none⟩)) := F.old 4 (by kernel_rfl)
    exact step_val (by simp [Region.wanted]) (by go_simp) rfl),
      (fun aF wF F => by
    have s63 : aF.tmps.getD 63 undef = (.pointer (some ⟨w.heap.size + 1, 0, none⟩)) := F.done 3 63 (by kernel_rfl) rfl
    have c0 := cell_at HB.out F.kept 0 _ rfl
    have c1 := cell_at HB.out F.kept 1 _ rfl
    have c2 := cell_at HB.out F.kept 2 _ rfl
    exact step_val (by simp [Region.wanted]) (by go_simp) rfl),
      (fun aF wF F => by
    have s64 : aF.tmps.getD 64 undef = (.agg #[.bool n3, .slice B j e, .int .i64 e3]) := F.done 4 64 (by kernel_rfl) rfl
    exact step_good (by simp [Region.wanted]) (by go_simp) (N2.out _ (K.out.trans F.kept)) (fun _ _ h => RetD.good h) (fun _ _ h => h)),
      (fun aF wF F => by
    have s62 : (fun v wv => DyR wv v m1) (aF.tmps.getD 62 undef) wF := F.done 2 62 (by kernel_rfl) rfl
    have s65 : (fun v wv => DyR wv v m2) (aF.tmps.getD 65 undef) wF := F.done 5 65 (by kernel_rfl) rfl
    obtain ⟨X1, Y1, Z1, ee1, gg1⟩ := rawR_split s62; obtain ⟨X2, Y2, Z2, ee2, gg2⟩ := rawR_split s65; simp only [Array.getD_eq_getD_getElem?] at ee1 ee2; exact step_val (by simp [Region.wanted]) (by go_simp) ⟨_, _, _, _, _, _, rfl, gg1, gg2⟩),
      (fun aF wF F => by
    exact step_new (by simp [Region.wanted]) (by go_simp) (kept_alloc _ _) ⟨_, rfl, F.kept.size, blkI_zero _⟩),
      trivial⟩) ?_
  intro u w1 k1 hu
  have e60 : u 0 = (.pointer (some ⟨w.heap.size + 1, 3, none⟩)) := hu 0 (by decide)
  have e61 : u 1 = (.agg #[.bool n4, .slice B' j' e', .int .i64 e4]) := hu 1 (by decide)
  have p62 := hu 2 (by decide)
  have e63 : u 3 = (.pointer (some ⟨w.heap.size + 1, 0, none⟩)) := hu 3 (by decide)
  have e64 : u 4 = (.agg #[.bool n3, .slice B j e, .int .i64 e3]) := hu 4 (by decide)
  have p65 := hu 5 (by decide)
  have p66 := hu 6 (by decide)
  have p12 := hu 7 (by decide)
  clear hu
  simp only [puts, slotOf, if_true, Act.put, List.setIfInBounds_toArray, List.set_cons_zero, List.set_cons_succ, List.getElem?_toArray, List.getElem?_cons_zero, List.getElem?_cons_succ, Option.bind_some, e60, e61, e63, e64]
  clear e60 e61 e63 e64
  generalize u 2 = v62 at *
  try simp only [VL, List.getD_cons_zero, List.getD_cons_succ] at p62
  generalize u 5 = v65 at *
  try simp only [VL, List.getD_cons_zero, List.getD_cons_succ] at p65
  generalize u 6 = v66 at *
  try simp only [VL, List.getD_cons_zero, List.getD_cons_succ] at p66
  generalize u 7 = v12 at *
  try simp only [VL, List.getD_cons_zero, List.getD_cons_succ] at p12
  obtain ⟨bC, rfl, hbC, hx⟩ := p12
  obtain ⟨o7, ho7⟩ : ∃ o : Outc RawI, o = ⟨⟨m1, m2⟩, 0⟩ := ⟨_, rfl⟩
  have p66' : IvR w1 v66 o7.v := by rw [ho7]; exact p66
  rw [show (⟨m1, m2⟩ : RawI) = o7.v by rw [ho7]] at C2'
  obtain ⟨PC, pC, qC, RC, rC, sC, rfl, z1, z2⟩ := ivR_split p66'
  clear p62 p65 p66 p66' ho7
  have q := k1
  have lC : bY < bC := Nat.lt_of_lt_of_le HY.out.facts.1 hbC
  obtain ⟨-, x0, x1, x2, x3, x4, x5⟩ := hx.facts
  obtain ⟨f0, f1, f2, f3, f4, f5⟩ := hx.free
  go_simp
  go_upto_region 9 with fail
  change Code.wp _ _ _ _ (ivW w1 bC _ _ _ _ _ _)
  have UP : Hid (∀ (b' : Nat) (x y z x' y' z' : Value), BlkI w1 b' x y z x' y' z' → b' ≠ bC → BlkI (ivW w1 bC (.bool o7.v.lo.neg) (.slice PC pC qC) (.int .i64 o7.v.lo.e) (.bool o7.v.hi.neg) (.slice RC rC sC) (.int .i64 o7.v.hi.e)) b' x y z x' y' z') := fun _ _ _ _ _ _ _ h hne => blkI_ivW h hne _ _ _ _ _ _
  have UD : Hid (∀ (v : Value) (r : Raw), DyR w1 v r → DyR (ivW w1 bC (.bool o7.v.lo.neg) (.slice PC pC qC) (.int .i64 o7.v.lo.e) (.bool o7.v.hi.neg) (.slice RC rC sC) (.int .i64 o7.v.hi.e)) v r) := fun _ _ h => h.ivW hx _ _ _ _ _ _
  have HX' := Lib.hid (hx.laid (.bool o7.v.lo.neg) (.slice PC pC qC) (.int .i64 o7.v.lo.e) (.bool o7.v.hi.neg) (.slice RC rC sC) (.int .i64 o7.v.hi.e))
  replace K := Lib.hid (ivW_kept (x := .bool o7.v.lo.neg) (y := .slice PC pC qC) (z := .int .i64 o7.v.lo.e) (x' := .bool o7.v.hi.neg) (y' := .slice RC rC sC) (z' := .int .i64 o7.v.hi.e) (K.out.trans q) (show w.heap.size ≤ bC by omega))
  replace HA := Lib.hid (UP.out _ _ _ _ _ _ _ (HA.out.kept q) (by omega)); replace HB := Lib.hid (UP.out _ _ _ _ _ _ _ (HB.out.kept q) (by omega)); replace HX := Lib.hid (UP.out _ _ _ _ _ _ _ (HX.out.kept q) (by omega)); replace HY := Lib.hid (UP.out _ _ _ _ _ _ _ (HY.out.kept q) (by omega))
  have HC := Lib.hid HX'.out
  have ZC := Lib.hid (And.intro (UD.out _ _ z1) (UD.out _ _ z2))
  clear UP UD HX' hx x0 x1 x2 x3 x4 x5 f0 f1 f2 f3 f4 f5 q k1 z1 z2 hbC
  generalize ivW w1 bC (.bool o7.v.lo.neg) (.slice PC pC qC) (.int .i64 o7.v.lo.e) (.bool o7.v.hi.neg) (.slice RC rC sC) (.int .i64 o7.v.hi.e) = V at *
  obtain ⟨-, c0, c1, c2, c3, c4, c5⟩ := HA.out.facts
  obtain ⟨-, d0, d1, d2, d3, d4, d5⟩ := HB.out.facts
  go_wp2_with fail
  refine (C2.out _ K.out).mono ?_
  rintro e w1 ⟨q, u, rfl, hd⟩
  obtain ⟨PS, pS, qS, RS, rS, sS, rfl, z1, z2⟩ := ivR_split hd
  simp only []
  have hx := HX.out.kept q
  obtain ⟨-, x0, x1, x2, x3, x4, x5⟩ := hx.facts
  obtain ⟨f0, f1, f2, f3, f4, f5⟩ := hx.free
  go_upto_region 10 with fail
  change Code.wp _ _ _ _ (ivW w1 bX _ _ _ _ _ _)
  have UP : Hid (∀ (b' : Nat) (x y z x' y' z' : Value), BlkI w1 b' x y z x' y' z' → b' ≠ bX → BlkI (ivW w1 bX (.bool o2.v.lo.neg) (.slice PS pS qS) (.int .i64 o2.v.lo.e) (.bool o2.v.hi.neg) (.slice RS rS sS) (.int .i64 o2.v.hi.e)) b' x y z x' y' z') := fun _ _ _ _ _ _ _ h hne => blkI_ivW h hne _ _ _ _ _ _
  have UD : Hid (∀ (v : Value) (r : Raw), DyR w1 v r → DyR (ivW w1 bX (.bool o2.v.lo.neg) (.slice PS pS qS) (.int .i64 o2.v.lo.e) (.bool o2.v.hi.neg) (.slice RS rS sS) (.int .i64 o2.v.hi.e)) v r) := fun _ _ h => h.ivW hx _ _ _ _ _ _
  have HX' := Lib.hid (hx.laid (.bool o2.v.lo.neg) (.slice PS pS qS) (.int .i64 o2.v.lo.e) (.bool o2.v.hi.neg) (.slice RS rS sS) (.int .i64 o2.v.hi.e))
  replace K := Lib.hid (ivW_kept (x := .bool o2.v.lo.neg) (y := .slice PS pS qS) (z := .int .i64 o2.v.lo.e) (x' := .bool o2.v.hi.neg) (y' := .slice RS rS sS) (z' := .int .i64 o2.v.hi.e) (K.out.trans q) (show w.heap.size ≤ bX by omega))
  replace HA := Lib.hid (UP.out _ _ _ _ _ _ _ (HA.out.kept q) (by omega)); replace HB := Lib.hid (UP.out _ _ _ _ _ _ _ (HB.out.kept q) (by omega)); replace HY := Lib.hid (UP.out _ _ _ _ _ _ _ (HY.out.kept q) (by omega)); replace HC := Lib.hid (UP.out _ _ _ _ _ _ _ (HC.out.kept q) (by omega)); replace ZC := Lib.hid (And.intro (UD.out _ _ (ZC.out.1.kept q)) (UD.out _ _ (ZC.out.2.kept q)))
  replace HX := Lib.hid (HX'.out)
  have ZS := Lib.hid (And.intro (UD.out _ _ z1) (UD.out _ _ z2))
  clear UP UD HX' hx x0 x1 x2 x3 x4 x5 f0 f1 f2 f3 f4 f5 q hd z1 z2 c0 c1 c2 c3 c4 c5 d0 d1 d2 d3 d4 d5
  generalize ivW w1 bX (.bool o2.v.lo.neg) (.slice PS pS qS) (.int .i64 o2.v.lo.e) (.bool o2.v.hi.neg) (.slice RS rS sS) (.int .i64 o2.v.hi.e) = V at *
  obtain ⟨-, c0, c1, c2, c3, c4, c5⟩ := HA.out.facts
  obtain ⟨-, d0, d1, d2, d3, d4, d5⟩ := HC.out.facts
  go_wp2_with fail
  refine (C2'.out _ _ K.out ⟨_, _, _, _, _, _, rfl, ZC.out.1, ZC.out.2⟩).mono ?_
  rintro e w1 ⟨q, u, rfl, hd⟩
  obtain ⟨PT, pT, qT, RT, rT, sT, rfl, z1, z2⟩ := ivR_split hd
  simp only []
  have hx := HY.out.kept q
  obtain ⟨-, x0, x1, x2, x3, x4, x5⟩ := hx.facts
  obtain ⟨f0, f1, f2, f3, f4, f5⟩ := hx.free
  go_upto_region 11 with fail
  change Code.wp _ _ _ _ (ivW w1 bY _ _ _ _ _ _)
  have UP : Hid (∀ (b' : Nat) (x y z x' y' z' : Value), BlkI w1 b' x y z x' y' z' → b' ≠ bY → BlkI (ivW w1 bY (.bool o2.v.lo.neg) (.slice PT pT qT) (.int .i64 o2.v.lo.e) (.bool o2.v.hi.neg) (.slice RT rT sT) (.int .i64 o2.v.hi.e)) b' x y z x' y' z') := fun _ _ _ _ _ _ _ h hne => blkI_ivW h hne _ _ _ _ _ _
  have UD : Hid (∀ (v : Value) (r : Raw), DyR w1 v r → DyR (ivW w1 bY (.bool o2.v.lo.neg) (.slice PT pT qT) (.int .i64 o2.v.lo.e) (.bool o2.v.hi.neg) (.slice RT rT sT) (.int .i64 o2.v.hi.e)) v r) := fun _ _ h => h.ivW hx _ _ _ _ _ _
  have HX' := Lib.hid (hx.laid (.bool o2.v.lo.neg) (.slice PT pT qT) (.int .i64 o2.v.lo.e) (.bool o2.v.hi.neg) (.slice RT rT sT) (.int .i64 o2.v.hi.e))
  replace K := Lib.hid (ivW_kept (x := .bool o2.v.lo.neg) (y := .slice PT pT qT) (z := .int .i64 o2.v.lo.e) (x' := .bool o2.v.hi.neg) (y' := .slice RT rT sT) (z' := .int .i64 o2.v.hi.e) (K.out.trans q) (show w.heap.size ≤ bY by omega))
  replace HA := Lib.hid (UP.out _ _ _ _ _ _ _ (HA.out.kept q) (by omega)); replace HB := Lib.hid (UP.out _ _ _ _ _ _ _ (HB.out.kept q) (by omega)); replace HX := Lib.hid (UP.out _ _ _ _ _ _ _ (HX.out.kept q) (by omega)); replace HC := Lib.hid (UP.out _ _ _ _ _ _ _ (HC.out.kept q) (by omega)); replace ZS := Lib.hid (And.intro (UD.out _ _ (ZS.out.1.kept q)) (UD.out _ _ (ZS.out.2.kept q)))
  replace HY := Lib.hid (HX'.out)
  have ZT := Lib.hid (And.intro (UD.out _ _ z1) (UD.out _ _ z2))
  clear UP UD HX' hx x0 x1 x2 x3 x4 x5 f0 f1 f2 f3 f4 f5 q hd z1 z2 c0 c1 c2 c3 c4 c5 d0 d1 d2 d3 d4 d5 ZC
  generalize ivW w1 bY (.bool o2.v.lo.neg) (.slice PT pT qT) (.int .i64 o2.v.lo.e) (.bool o2.v.hi.neg) (.slice RT rT sT) (.int .i64 o2.v.hi.e) = V at *
  obtain ⟨-, c0, c1, c2, c3, c4, c5⟩ := HX.out.facts
  obtain ⟨-, d0, d1, d2, d3, d4, d5⟩ := HY.out.facts
  go_wp2_with fail
  refine (isameT ⟨_, _, _, _, _, _, rfl, ZS.out.1, ZS.out.2⟩ ⟨_, _, _, _, _, _, rfl, ZT.out.1, ZT.out.2⟩ L2).mono ?_
  rintro e w1 ⟨rfl, q⟩
  simp only []
  replace K := Lib.hid (K.out.trans q)
  replace HA := Lib.hid (HA.out.kept q); replace HB := Lib.hid (HB.out.kept q); replace HX := Lib.hid (HX.out.kept q); replace HY := Lib.hid (HY.out.kept q)
  clear q c0 c1 c2 c3 c4 c5 d0 d1 d2 d3 d4 d5 ZS ZT HC
  go_upto_region 13 with fail
  obtain ⟨-, c0, c1, c2, c3, c4, c5⟩ := HA.out.facts
  obtain ⟨-, d0, d1, d2, d3, d4, d5⟩ := HB.out.facts
  go_wp2_with fail
  refine (C3.out _ K.out).mono ?_
  rintro e w1 ⟨q, u, rfl, hd⟩
  obtain ⟨PU, pU, qU, RU, rU, sU, rfl, z1, z2⟩ := ivR_split hd
  simp only []
  have hx := HX.out.kept q
  obtain ⟨-, x0, x1, x2, x3, x4, x5⟩ := hx.facts
  obtain ⟨f0, f1, f2, f3, f4, f5⟩ := hx.free
  go_upto_region 14 with fail
  change Code.wp _ _ _ _ (ivW w1 bX _ _ _ _ _ _)
  have UP : Hid (∀ (b' : Nat) (x y z x' y' z' : Value), BlkI w1 b' x y z x' y' z' → b' ≠ bX → BlkI (ivW w1 bX (.bool o3.v.lo.neg) (.slice PU pU qU) (.int .i64 o3.v.lo.e) (.bool o3.v.hi.neg) (.slice RU rU sU) (.int .i64 o3.v.hi.e)) b' x y z x' y' z') := fun _ _ _ _ _ _ _ h hne => blkI_ivW h hne _ _ _ _ _ _
  have UD : Hid (∀ (v : Value) (r : Raw), DyR w1 v r → DyR (ivW w1 bX (.bool o3.v.lo.neg) (.slice PU pU qU) (.int .i64 o3.v.lo.e) (.bool o3.v.hi.neg) (.slice RU rU sU) (.int .i64 o3.v.hi.e)) v r) := fun _ _ h => h.ivW hx _ _ _ _ _ _
  have HX' := Lib.hid (hx.laid (.bool o3.v.lo.neg) (.slice PU pU qU) (.int .i64 o3.v.lo.e) (.bool o3.v.hi.neg) (.slice RU rU sU) (.int .i64 o3.v.hi.e))
  replace K := Lib.hid (ivW_kept (x := .bool o3.v.lo.neg) (y := .slice PU pU qU) (z := .int .i64 o3.v.lo.e) (x' := .bool o3.v.hi.neg) (y' := .slice RU rU sU) (z' := .int .i64 o3.v.hi.e) (K.out.trans q) (show w.heap.size ≤ bX by omega))
  replace HA := Lib.hid (UP.out _ _ _ _ _ _ _ (HA.out.kept q) (by omega)); replace HB := Lib.hid (UP.out _ _ _ _ _ _ _ (HB.out.kept q) (by omega)); replace HY := Lib.hid (UP.out _ _ _ _ _ _ _ (HY.out.kept q) (by omega))
  replace HX := Lib.hid (HX'.out)
  have ZU := Lib.hid (And.intro (UD.out _ _ z1) (UD.out _ _ z2))
  clear UP UD HX' hx x0 x1 x2 x3 x4 x5 f0 f1 f2 f3 f4 f5 q hd z1 z2 c0 c1 c2 c3 c4 c5 d0 d1 d2 d3 d4 d5
  generalize ivW w1 bX (.bool o3.v.lo.neg) (.slice PU pU qU) (.int .i64 o3.v.lo.e) (.bool o3.v.hi.neg) (.slice RU rU sU) (.int .i64 o3.v.hi.e) = V at *
  obtain ⟨-, c0, c1, c2, c3, c4, c5⟩ := HA.out.facts
  obtain ⟨-, d0, d1, d2, d3, d4, d5⟩ := HB.out.facts
  go_wp2_with fail
  refine (C4.out _ K.out).mono ?_
  rintro e w1 ⟨q, u, rfl, hd⟩
  obtain ⟨PW, pW, qW, RW, rW, sW, rfl, z1, z2⟩ := ivR_split hd
  simp only []
  have hx := HY.out.kept q
  obtain ⟨-, x0, x1, x2, x3, x4, x5⟩ := hx.facts
  obtain ⟨f0, f1, f2, f3, f4, f5⟩ := hx.free
  go_upto_region 15 with fail
  change Code.wp _ _ _ _ (ivW w1 bY _ _ _ _ _ _)
  have UP : Hid (∀ (b' : Nat) (x y z x' y' z' : Value), BlkI w1 b' x y z x' y' z' → b' ≠ bY → BlkI (ivW w1 bY (.bool o4.v.lo.neg) (.slice PW pW qW) (.int .i64 o4.v.lo.e) (.bool o4.v.hi.neg) (.slice RW rW sW) (.int .i64 o4.v.hi.e)) b' x y z x' y' z') := fun _ _ _ _ _ _ _ h hne => blkI_ivW h hne _ _ _ _ _ _
  have UD : Hid (∀ (v : Value) (r : Raw), DyR w1 v r → DyR (ivW w1 bY (.bool o4.v.lo.neg) (.slice PW pW qW) (.int .i64 o4.v.lo.e) (.bool o4.v.hi.neg) (.slice RW rW sW) (.int .i64 o4.v.hi.e)) v r) := fun _ _ h => h.ivW hx _ _ _ _ _ _
  have HX' := Lib.hid (hx.laid (.bool o4.v.lo.neg) (.slice PW pW qW) (.int .i64 o4.v.lo.e) (.bool o4.v.hi.neg) (.slice RW rW sW) (.int .i64 o4.v.hi.e))
  replace K := Lib.hid (ivW_kept (x := .bool o4.v.lo.neg) (y := .slice PW pW qW) (z := .int .i64 o4.v.lo.e) (x' := .bool o4.v.hi.neg) (y' := .slice RW rW sW) (z' := .int .i64 o4.v.hi.e) (K.out.trans q) (show w.heap.size ≤ bY by omega))
  replace HA := Lib.hid (UP.out _ _ _ _ _ _ _ (HA.out.kept q) (by omega)); replace HB := Lib.hid (UP.out _ _ _ _ _ _ _ (HB.out.kept q) (by omega)); replace HX := Lib.hid (UP.out _ _ _ _ _ _ _ (HX.out.kept q) (by omega)); replace ZU := Lib.hid (And.intro (UD.out _ _ (ZU.out.1.kept q)) (UD.out _ _ (ZU.out.2.kept q)))
  replace HY := Lib.hid (HX'.out)
  have ZW := Lib.hid (And.intro (UD.out _ _ z1) (UD.out _ _ z2))
  clear UP UD HX' hx x0 x1 x2 x3 x4 x5 f0 f1 f2 f3 f4 f5 q hd z1 z2 c0 c1 c2 c3 c4 c5 d0 d1 d2 d3 d4 d5
  generalize ivW w1 bY (.bool o4.v.lo.neg) (.slice PW pW qW) (.int .i64 o4.v.lo.e) (.bool o4.v.hi.neg) (.slice RW rW sW) (.int .i64 o4.v.hi.e) = V at *
  rw [QV.out] at ZW HY
  refine region_seq (m := 11) (V := VL [
      (fun v _ => v = .int .i64 o3.k),
      (fun v _ => v = (.bool z3)),
      (fun v _ => v = .int .i64 o4.k),
      (fun v _ => v = (.bool z3)),
      (fun v _ => v = (.bool false)),
      (fun v _ => v = (.bool false)),
      (fun v _ => v = (.agg #[.bool o3.v.lo.neg, .slice PU pU qU, .int .i64 o3.v.lo.e, .bool o3.v.hi.neg, .slice RU rU sU, .int .i64 o3.v.hi.e])),
      (fun v _ => v = (.agg #[.bool o3.v.lo.neg, .slice PW pW qW, .int .i64 o3.v.lo.e, .bool o3.v.hi.neg, .slice RW rW sW, .int .i64 o3.v.hi.e])),
      (fun v _ => v = (.bool true)),
      (fun v _ => v = (.bool false)),
      (fun v _ => v = (.bool false))])
    rfl (by kernel_rfl) (by kernel_rfl) (by kernel_rfl) (mono_of _ ⟨mono_eq _, mono_eq _, mono_eq _, mono_eq _, mono_eq _, mono_eq _, mono_eq _, mono_eq _, mono_eq _, mono_eq _, mono_eq _, trivial⟩) (steps_of ⟨
      (fun aF wF F => by
    have s9 : aF.tmps.getD 9 undef = .int .i64 o3.k := F.old 9 (by kernel_rfl)
    exact step_val (by simp [Region.wanted]) (by go_simp) rfl),
      (fun aF wF F => by
    have s104 : aF.tmps.getD 104 undef = .int .i64 o3.k := F.done 0 104 (by kernel_rfl) rfl
    exact step_val (by simp [Region.wanted]) (by (go_simp; exact Q3.out)) rfl),
      (fun aF wF F => by
    have s11 : aF.tmps.getD 11 undef = .int .i64 o4.k := F.old 11 (by kernel_rfl)
    exact step_val (by simp [Region.wanted]) (by go_simp) rfl),
      (fun aF wF F => by
    have s106 : aF.tmps.getD 106 undef = .int .i64 o4.k := F.done 2 106 (by kernel_rfl) rfl
    exact step_val (by simp [Region.wanted]) (by (go_simp; exact Q4.out)) rfl),
      (fun aF wF F => by
    have s105 : aF.tmps.getD 105 undef = (.bool z3) := F.done 1 105 (by kernel_rfl) rfl
    have s107 : aF.tmps.getD 107 undef = (.bool z3) := F.done 3 107 (by kernel_rfl) rfl
    exact step_val (by simp [Region.wanted]) (by go_simp) rfl),
      (fun aF wF F => by
    have s108 : aF.tmps.getD 108 undef = (.bool false) := F.done 4 108 (by kernel_rfl) rfl
    exact step_val (by simp [Region.wanted]) (by go_simp) rfl),
      (fun aF wF F => by
    have s8 : aF.tmps.getD 8 undef = (.pointer (some ⟨bX, 0, none⟩)) := F.old 8 (by kernel_rfl)
    have c0 := cell_at HX.out F.kept 0 _ rfl
    have c1 := cell_at HX.out F.kept 1 _ rfl
    have c2 := cell_at HX.out F.kept 2 _ rfl
    have c3 := cell_at HX.out F.kept 3 _ rfl
    have c4 := cell_at HX.out F.kept 4 _ rfl
    have c5 := cell_at HX.out F.kept 5 _ rfl
    have sg : aF.tmps.getD 109 undef = (.bool false) := F.done 5 109 (by kernel_rfl) rfl
    exact step_val ((wanted_guard rfl rfl sg).trans rfl) (by go_simp) rfl),
      (fun aF wF F => by
    have s10 : aF.tmps.getD 10 undef = (.pointer (some ⟨bY, 0, none⟩)) := F.old 10 (by kernel_rfl)
    have c0 := cell_at HY.out F.kept 0 _ rfl
    have c1 := cell_at HY.out F.kept 1 _ rfl
    have c2 := cell_at HY.out F.kept 2 _ rfl
    have c3 := cell_at HY.out F.kept 3 _ rfl
    have c4 := cell_at HY.out F.kept 4 _ rfl
    have c5 := cell_at HY.out F.kept 5 _ rfl
    have sg : aF.tmps.getD 109 undef = (.bool false) := F.done 5 109 (by kernel_rfl) rfl
    exact step_val ((wanted_guard rfl rfl sg).trans rfl) (by go_simp) rfl),
      (fun aF wF F => by
    have s110 : aF.tmps.getD 110 undef = (.agg #[.bool o3.v.lo.neg, .slice PU pU qU, .int .i64 o3.v.lo.e, .bool o3.v.hi.neg, .slice RU rU sU, .int .i64 o3.v.hi.e]) := F.done 6 110 (by kernel_rfl) rfl
    have s111 : aF.tmps.getD 111 undef = (.agg #[.bool o3.v.lo.neg, .slice PW pW qW, .int .i64 o3.v.lo.e, .bool o3.v.hi.neg, .slice RW rW sW, .int .i64 o3.v.hi.e]) := F.done 7 111 (by kernel_rfl) rfl
    have sg : aF.tmps.getD 109 undef = (.bool false) := F.done 5 109 (by kernel_rfl) rfl
    exact step_good ((wanted_guard rfl rfl sg).trans rfl) (by go_simp) (isameT ⟨_, _, _, _, _, _, rfl, ZU.out.1.kept F.kept, ZU.out.2.kept F.kept⟩ ⟨_, _, _, _, _, _, rfl, ZW.out.1.kept F.kept, ZW.out.2.kept F.kept⟩ L3) (fun _ _ h => RetK.good h) (fun _ _ h => h)),
      (fun aF wF F => by
    have s112 : aF.tmps.getD 112 undef = (.bool true) := F.done 8 112 (by kernel_rfl) rfl
    have sg : aF.tmps.getD 109 undef = (.bool false) := F.done 5 109 (by kernel_rfl) rfl
    exact step_val ((wanted_guard rfl rfl sg).trans rfl) (by go_simp) rfl),
      (fun aF wF F => by
    have s109 : aF.tmps.getD 109 undef = (.bool false) := F.done 5 109 (by kernel_rfl) rfl
    have s113 : aF.tmps.getD 113 undef = (.bool false) := F.done 9 113 (by kernel_rfl) rfl
    exact step_val (by simp [Region.wanted]) (by go_simp) rfl),
      trivial⟩) ?_
  intro u w1 k1 hu
  have e104 : u 0 = .int .i64 o3.k := hu 0 (by decide)
  have e105 : u 1 = (.bool z3) := hu 1 (by decide)
  have e106 : u 2 = .int .i64 o4.k := hu 2 (by decide)
  have e107 : u 3 = (.bool z3) := hu 3 (by decide)
  have e108 : u 4 = (.bool false) := hu 4 (by decide)
  have e109 : u 5 = (.bool false) := hu 5 (by decide)
  have e110 : u 6 = (.agg #[.bool o3.v.lo.neg, .slice PU pU qU, .int .i64 o3.v.lo.e, .bool o3.v.hi.neg, .slice RU rU sU, .int .i64 o3.v.hi.e]) := hu 6 (by decide)
  have e111 : u 7 = (.agg #[.bool o3.v.lo.neg, .slice PW pW qW, .int .i64 o3.v.lo.e, .bool o3.v.hi.neg, .slice RW rW sW, .int .i64 o3.v.hi.e]) := hu 7 (by decide)
  have e112 : u 8 = (.bool true) := hu 8 (by decide)
  have e113 : u 9 = (.bool false) := hu 9 (by decide)
  have e114 : u 10 = (.bool false) := hu 10 (by decide)
  clear hu
  simp only [puts, slotOf, if_true, Act.put, List.setIfInBounds_toArray, List.set_cons_zero, List.set_cons_succ, List.getElem?_toArray, List.getElem?_cons_zero, List.getElem?_cons_succ, Option.bind_some, e104, e105, e106, e107, e108, e109, e110, e111, e112, e113, e114]
  clear e104 e105 e106 e107 e108 e109 e110 e111 e112 e113 e114
  replace K := Lib.hid (K.out.trans k1)
  replace HA := Lib.hid (HA.out.kept k1)
  replace HX := Lib.hid (HX.out.kept k1)
  replace HY := Lib.hid (HY.out.kept k1)
  clear k1 ZU ZW
  go_upto_region 17 with fail
  obtain ⟨-, c0, c1, c2, c3, c4, c5⟩ := HA.out.facts
  go_wp2_with fail
  refine (C5.out _ K.out).mono ?_
  rintro e w1 ⟨q, u, rfl, hd⟩
  obtain ⟨PM, pM, qM, RM, rM, sM, rfl, z1, z2⟩ := ivR_split hd
  simp only []
  have hx := HX.out.kept q
  obtain ⟨-, x0, x1, x2, x3, x4, x5⟩ := hx.facts
  obtain ⟨f0, f1, f2, f3, f4, f5⟩ := hx.free
  go_upto_region 18 with fail
  change Code.wp _ _ _ _ (ivW w1 bX _ _ _ _ _ _)
  have UP : Hid (∀ (b' : Nat) (x y z x' y' z' : Value), BlkI w1 b' x y z x' y' z' → b' ≠ bX → BlkI (ivW w1 bX (.bool o5.v.lo.neg) (.slice PM pM qM) (.int .i64 o5.v.lo.e) (.bool o5.v.hi.neg) (.slice RM rM sM) (.int .i64 o5.v.hi.e)) b' x y z x' y' z') := fun _ _ _ _ _ _ _ h hne => blkI_ivW h hne _ _ _ _ _ _
  have UD : Hid (∀ (v : Value) (r : Raw), DyR w1 v r → DyR (ivW w1 bX (.bool o5.v.lo.neg) (.slice PM pM qM) (.int .i64 o5.v.lo.e) (.bool o5.v.hi.neg) (.slice RM rM sM) (.int .i64 o5.v.hi.e)) v r) := fun _ _ h => h.ivW hx _ _ _ _ _ _
  have HX' := Lib.hid (hx.laid (.bool o5.v.lo.neg) (.slice PM pM qM) (.int .i64 o5.v.lo.e) (.bool o5.v.hi.neg) (.slice RM rM sM) (.int .i64 o5.v.hi.e))
  replace K := Lib.hid (ivW_kept (x := .bool o5.v.lo.neg) (y := .slice PM pM qM) (z := .int .i64 o5.v.lo.e) (x' := .bool o5.v.hi.neg) (y' := .slice RM rM sM) (z' := .int .i64 o5.v.hi.e) (K.out.trans q) (show w.heap.size ≤ bX by omega))
  replace HA := Lib.hid (UP.out _ _ _ _ _ _ _ (HA.out.kept q) (by omega)); replace HY := Lib.hid (UP.out _ _ _ _ _ _ _ (HY.out.kept q) (by omega))
  replace HX := Lib.hid (HX'.out)
  have ZM := Lib.hid (And.intro (UD.out _ _ z1) (UD.out _ _ z2))
  clear UP UD HX' hx x0 x1 x2 x3 x4 x5 f0 f1 f2 f3 f4 f5 q hd z1 z2 c0 c1 c2 c3 c4 c5
  generalize ivW w1 bX (.bool o5.v.lo.neg) (.slice PM pM qM) (.int .i64 o5.v.lo.e) (.bool o5.v.hi.neg) (.slice RM rM sM) (.int .i64 o5.v.hi.e) = V at *
  obtain ⟨-, c0, c1, c2, c3, c4, c5⟩ := HA.out.facts
  go_wp2_with fail
  refine (C6.out _ K.out).mono ?_
  rintro e w1 ⟨q, u, rfl, hd⟩
  obtain ⟨PN, pN, qN, RN, rN, sN, rfl, z1, z2⟩ := ivR_split hd
  simp only []
  have hx := HY.out.kept q
  obtain ⟨-, x0, x1, x2, x3, x4, x5⟩ := hx.facts
  obtain ⟨f0, f1, f2, f3, f4, f5⟩ := hx.free
  go_upto_region 19 with fail
  change Code.wp _ _ _ _ (ivW w1 bY _ _ _ _ _ _)
  have UP : Hid (∀ (b' : Nat) (x y z x' y' z' : Value), BlkI w1 b' x y z x' y' z' → b' ≠ bY → BlkI (ivW w1 bY (.bool o6.v.lo.neg) (.slice PN pN qN) (.int .i64 o6.v.lo.e) (.bool o6.v.hi.neg) (.slice RN rN sN) (.int .i64 o6.v.hi.e)) b' x y z x' y' z') := fun _ _ _ _ _ _ _ h hne => blkI_ivW h hne _ _ _ _ _ _
  have UD : Hid (∀ (v : Value) (r : Raw), DyR w1 v r → DyR (ivW w1 bY (.bool o6.v.lo.neg) (.slice PN pN qN) (.int .i64 o6.v.lo.e) (.bool o6.v.hi.neg) (.slice RN rN sN) (.int .i64 o6.v.hi.e)) v r) := fun _ _ h => h.ivW hx _ _ _ _ _ _
  have HX' := Lib.hid (hx.laid (.bool o6.v.lo.neg) (.slice PN pN qN) (.int .i64 o6.v.lo.e) (.bool o6.v.hi.neg) (.slice RN rN sN) (.int .i64 o6.v.hi.e))
  replace K := Lib.hid (ivW_kept (x := .bool o6.v.lo.neg) (y := .slice PN pN qN) (z := .int .i64 o6.v.lo.e) (x' := .bool o6.v.hi.neg) (y' := .slice RN rN sN) (z' := .int .i64 o6.v.hi.e) (K.out.trans q) (show w.heap.size ≤ bY by omega))
  replace HA := Lib.hid (UP.out _ _ _ _ _ _ _ (HA.out.kept q) (by omega)); replace HX := Lib.hid (UP.out _ _ _ _ _ _ _ (HX.out.kept q) (by omega)); replace ZM := Lib.hid (And.intro (UD.out _ _ (ZM.out.1.kept q)) (UD.out _ _ (ZM.out.2.kept q)))
  replace HY := Lib.hid (HX'.out)
  have ZN := Lib.hid (And.intro (UD.out _ _ z1) (UD.out _ _ z2))
  clear UP UD HX' hx x0 x1 x2 x3 x4 x5 f0 f1 f2 f3 f4 f5 q hd z1 z2 c0 c1 c2 c3 c4 c5
  generalize ivW w1 bY (.bool o6.v.lo.neg) (.slice PN pN qN) (.int .i64 o6.v.lo.e) (.bool o6.v.hi.neg) (.slice RN rN sN) (.int .i64 o6.v.hi.e) = V at *
  refine region_seq (m := 21) (V := VL [
      (fun v _ => v = (.bool true)),
      (fun v _ => v = (.bool true)),
      (fun v _ => v = .int .i64 o5.k),
      (fun v _ => v = (.bool (!z5))),
      (fun v _ => v = (.bool (!z5))),
      (fun v wv => (z5 = true → (fun v _ => v = .int .i64 o6.k) v wv) ∧ (z5 = false → v = undef)),
      (fun v wv => (z5 = true → (fun v _ => v = (.bool (!z6))) v wv) ∧ (z5 = false → v = undef)),
      (fun v _ => v = (.bool (!(z5 && z6)))),
      (fun v _ => v = (.bool (!(z5 && z6)))),
      (fun v wv => ((z5 && z6) = true → (fun v _ => v = (.agg #[.bool o5.v.lo.neg, .slice PM pM qM, .int .i64 o5.v.lo.e, .bool o5.v.hi.neg, .slice RM rM sM, .int .i64 o5.v.hi.e])) v wv) ∧ ((z5 && z6) = false → v = undef)),
      (fun v wv => ((z5 && z6) = true → (fun v _ => v = (.agg #[.bool o6.v.lo.neg, .slice PN pN qN, .int .i64 o6.v.lo.e, .bool o6.v.hi.neg, .slice RN rN sN, .int .i64 o6.v.hi.e])) v wv) ∧ ((z5 && z6) = false → v = undef)),
      (fun v wv => ((z5 && z6) = true → (fun v _ => v = (.bool true)) v wv) ∧ ((z5 && z6) = false → v = undef)),
      (fun v wv => ((z5 && z6) = true → (fun v _ => v = (.bool true)) v wv) ∧ ((z5 && z6) = false → v = undef)),
      (fun v wv => ((z5 && z6) = true → (fun v _ => v = (.pointer (some ⟨bX, 0, none⟩))) v wv) ∧ ((z5 && z6) = false → v = undef)),
      (fun v wv => ((z5 && z6) = true → (fun v _ => v = (.agg #[.bool o5.v.lo.neg, .slice PM pM qM, .int .i64 o5.v.lo.e])) v wv) ∧ ((z5 && z6) = false → v = undef)),
      (fun v wv => ((z5 && z6) = true → (fun v _ => v = (.int .i64 g)) v wv) ∧ ((z5 && z6) = false → v = undef)),
      (fun v wv => ((z5 && z6) = true → (fun v _ => v = (.bool true)) v wv) ∧ ((z5 && z6) = false → v = undef)),
      (fun v wv => ((z5 && z6) = true → (fun v _ => v = (.bool true)) v wv) ∧ ((z5 && z6) = false → v = undef)),
      (fun v _ => v = (.bool true)),
      (fun v _ => v = (.bool true)),
      (fun v _ => v = (.bool true))])
    rfl (by kernel_rfl) (by kernel_rfl) (by kernel_rfl) (mono_of _ ⟨mono_eq _, mono_eq _, mono_eq _, mono_eq _, mono_eq _, fun v w w' k h => ⟨fun hC => (fun v w w' k h => by first | exact h | exact h.kept k | exact ⟨h.1, h.2.kept k⟩) v w w' k (h.1 hC), h.2⟩, fun v w w' k h => ⟨fun hC => (fun v w w' k h => by first | exact h | exact h.kept k | exact ⟨h.1, h.2.kept k⟩) v w w' k (h.1 hC), h.2⟩, mono_eq _, mono_eq _, fun v w w' k h => ⟨fun hC => (fun v w w' k h => by first | exact h | exact h.kept k | exact ⟨h.1, h.2.kept k⟩) v w w' k (h.1 hC), h.2⟩, fun v w w' k h => ⟨fun hC => (fun v w w' k h => by first | exact h | exact h.kept k | exact ⟨h.1, h.2.kept k⟩) v w w' k (h.1 hC), h.2⟩, fun v w w' k h => ⟨fun hC => (fun v w w' k h => by first | exact h | exact h.kept k | exact ⟨h.1, h.2.kept k⟩) v w w' k (h.1 hC), h.2⟩, fun v w w' k h => ⟨fun hC => (fun v w w' k h => by first | exact h | exact h.kept k | exact ⟨h.1, h.2.kept k⟩) v w w' k (h.1 hC), h.2⟩, fun v w w' k h => ⟨fun hC => (fun v w w' k h => by first | exact h | exact h.kept k | exact ⟨h.1, h.2.kept k⟩) v w w' k (h.1 hC), h.2⟩, fun v w w' k h => ⟨fun hC => (fun v w w' k h => by first | exact h | exact h.kept k | exact ⟨h.1, h.2.kept k⟩) v w w' k (h.1 hC), h.2⟩, fun v w w' k h => ⟨fun hC => (fun v w w' k h => by first | exact h | exact h.kept k | exact ⟨h.1, h.2.kept k⟩) v w w' k (h.1 hC), h.2⟩, fun v w w' k h => ⟨fun hC => (fun v w w' k h => by first | exact h | exact h.kept k | exact ⟨h.1, h.2.kept k⟩) v w w' k (h.1 hC), h.2⟩, fun v w w' k h => ⟨fun hC => (fun v w w' k h => by first | exact h | exact h.kept k | exact ⟨h.1, h.2.kept k⟩) v w w' k (h.1 hC), h.2⟩, mono_eq _, mono_eq _, mono_eq _, trivial⟩) (steps_of ⟨
      (fun aF wF F => by
    exact step_good (by simp [Region.wanted]) (by go_simp) (told_c (T.out.kept (K.out.trans F.kept))) (fun _ _ h => RetK.good h) (fun _ _ h => h)),
      (fun aF wF F => by
    have s128 : aF.tmps.getD 128 undef = (.bool true) := F.done 0 128 (by kernel_rfl) rfl
    exact step_val (by simp [Region.wanted]) (by go_simp) rfl),
      (fun aF wF F => by
    have s9 : aF.tmps.getD 9 undef = .int .i64 o5.k := F.old 9 (by kernel_rfl)
    have sg : aF.tmps.getD 129 undef = (.bool true) := F.done 1 129 (by kernel_rfl) rfl
    exact step_val ((wanted_guard rfl rfl sg).trans rfl) (by go_simp) rfl),
      (fun aF wF F => by
    have s130 : aF.tmps.getD 130 undef = .int .i64 o5.k := F.done 2 130 (by kernel_rfl) rfl
    have sg : aF.tmps.getD 129 undef = (.bool true) := F.done 1 129 (by kernel_rfl) rfl
    exact step_val ((wanted_guard rfl rfl sg).trans rfl) (by (go_simp; first | exact congrArg _ Q5.out | (have hq := Q5.out; grind))) rfl),
      (fun aF wF F => by
    have s131 : aF.tmps.getD 131 undef = (.bool (!z5)) := F.done 3 131 (by kernel_rfl) rfl
    have sg : aF.tmps.getD 129 undef = (.bool true) := F.done 1 129 (by kernel_rfl) rfl
    exact step_val ((wanted_guard rfl rfl sg).trans rfl) (by go_simp) rfl),
      (fun aF wF F => by
    have sg : aF.tmps.getD 132 undef = (.bool (!z5)) := F.done 4 132 (by kernel_rfl) rfl
    have s11 : aF.tmps.getD 11 undef = .int .i64 o6.k := F.old 11 (by kernel_rfl)
    rcases bools z5 with hC | hC
    · refine step_imp (V1 := fun _ => (fun v _ => v = .int .i64 o6.k)) ?_ (fun _ _ h => ⟨fun _ => h, fun hN => absurd (hC.symm.trans hN) (by decide)⟩)
      exact step_val ((wanted_guard rfl rfl sg).trans (by first | rfl | simp [hC])) (by go_simp) rfl
    · exact step_out ((wanted_guard rfl rfl sg).trans (by first | rfl | simp [hC])) ⟨fun h => absurd (hC.symm.trans h) (by decide), fun _ => rfl⟩),
      (fun aF wF F => by
    have sg : aF.tmps.getD 132 undef = (.bool (!z5)) := F.done 4 132 (by kernel_rfl) rfl
    have s133 : (z5 = true → aF.tmps.getD 133 undef = .int .i64 o6.k) ∧ (z5 = false → aF.tmps.getD 133 undef = undef) := F.done 5 133 (by kernel_rfl) rfl
    rcases bools z5 with hC | hC
    · refine step_imp (V1 := fun _ => (fun v _ => v = (.bool (!z6)))) ?_ (fun _ _ h => ⟨fun _ => h, fun hN => absurd (hC.symm.trans hN) (by decide)⟩)
      replace s133 := s133.1 hC
      exact step_val ((wanted_guard rfl rfl sg).trans (by first | rfl | simp [hC])) (by (go_simp; first | exact congrArg _ Q6.out | (have hq := Q6.out; grind))) rfl
    · exact step_out ((wanted_guard rfl rfl sg).trans (by first | rfl | simp [hC])) ⟨fun h => absurd (hC.symm.trans h) (by decide), fun _ => rfl⟩),
      (fun aF wF F => by
    have sg : aF.tmps.getD 129 undef = (.bool true) := F.done 1 129 (by kernel_rfl) rfl
    have s132 : aF.tmps.getD 132 undef = (.bool (!z5)) := F.done 4 132 (by kernel_rfl) rfl
    have s134 : (z5 = true → aF.tmps.getD 134 undef = (.bool (!z6))) ∧ (z5 = false → aF.tmps.getD 134 undef = undef) := F.done 6 134 (by kernel_rfl) rfl
    rcases bools z5 with hE | hE
    · replace s134 := s134.1 hE
      exact step_val ((wanted_guard rfl rfl sg).trans (by first | rfl | simp [hC])) (by first | (go_simp; done) | (go_simp; simp_all; done) | (simp_all; done)) rfl
    · exact step_val ((wanted_guard rfl rfl sg).trans (by first | rfl | simp [hC])) (by first | (go_simp; done) | (go_simp; simp_all; done) | (simp_all; done)) rfl),
      (fun aF wF F => by
    have s135 : aF.tmps.getD 135 undef = (.bool (!(z5 && z6))) := F.done 7 135 (by kernel_rfl) rfl
    have sg : aF.tmps.getD 129 undef = (.bool true) := F.done 1 129 (by kernel_rfl) rfl
    exact step_val ((wanted_guard rfl rfl sg).trans rfl) (by go_simp) rfl),
      (fun aF wF F => by
    have sg : aF.tmps.getD 136 undef = (.bool (!(z5 && z6))) := F.done 8 136 (by kernel_rfl) rfl
    have s8 : aF.tmps.getD 8 undef = (.pointer (some ⟨bX, 0, none⟩)) := F.old 8 (by kernel_rfl)
    have c0 := cell_at HX.out F.kept 0 _ rfl
    have c1 := cell_at HX.out F.kept 1 _ rfl
    have c2 := cell_at HX.out F.kept 2 _ rfl
    have c3 := cell_at HX.out F.kept 3 _ rfl
    have c4 := cell_at HX.out F.kept 4 _ rfl
    have c5 := cell_at HX.out F.kept 5 _ rfl
    rcases bools (z5 && z6) with hC | hC
    · refine step_imp (V1 := fun _ => (fun v _ => v = (.agg #[.bool o5.v.lo.neg, .slice PM pM qM, .int .i64 o5.v.lo.e, .bool o5.v.hi.neg, .slice RM rM sM, .int .i64 o5.v.hi.e]))) ?_ (fun _ _ h => ⟨fun _ => h, fun hN => absurd (hC.symm.trans hN) (by decide)⟩)
      exact step_val ((wanted_guard rfl rfl sg).trans (by first | rfl | simp [hC])) (by go_simp) rfl
    · exact step_out ((wanted_guard rfl rfl sg).trans (by first | rfl | simp [hC])) ⟨fun h => absurd (hC.symm.trans h) (by decide), fun _ => rfl⟩),
      (fun aF wF F => by
    have sg : aF.tmps.getD 136 undef = (.bool (!(z5 && z6))) := F.done 8 136 (by kernel_rfl) rfl
    have s10 : aF.tmps.getD 10 undef = (.pointer (some ⟨bY, 0, none⟩)) := F.old 10 (by kernel_rfl)
    have c0 := cell_at HY.out F.kept 0 _ rfl
    have c1 := cell_at HY.out F.kept 1 _ rfl
    have c2 := cell_at HY.out F.kept 2 _ rfl
    have c3 := cell_at HY.out F.kept 3 _ rfl
    have c4 := cell_at HY.out F.kept 4 _ rfl
    have c5 := cell_at HY.out F.kept 5 _ rfl
    rcases bools (z5 && z6) with hC | hC
    · refine step_imp (V1 := fun _ => (fun v _ => v = (.agg #[.bool o6.v.lo.neg, .slice PN pN qN, .int .i64 o6.v.lo.e, .bool o6.v.hi.neg, .slice RN rN sN, .int .i64 o6.v.hi.e]))) ?_ (fun _ _ h => ⟨fun _ => h, fun hN => absurd (hC.symm.trans hN) (by decide)⟩)
      exact step_val ((wanted_guard rfl rfl sg).trans (by first | rfl | simp [hC])) (by go_simp) rfl
    · exact step_out ((wanted_guard rfl rfl sg).trans (by first | rfl | simp [hC])) ⟨fun h => absurd (hC.symm.trans h) (by decide), fun _ => rfl⟩),
      (fun aF wF F => by
    have sg : aF.tmps.getD 136 undef = (.bool (!(z5 && z6))) := F.done 8 136 (by kernel_rfl) rfl
    have s137 : ((z5 && z6) = true → aF.tmps.getD 137 undef = (.agg #[.bool o5.v.lo.neg, .slice PM pM qM, .int .i64 o5.v.lo.e, .bool o5.v.hi.neg, .slice RM rM sM, .int .i64 o5.v.hi.e])) ∧ ((z5 && z6) = false → aF.tmps.getD 137 undef = undef) := F.done 9 137 (by kernel_rfl) rfl
    have s138 : ((z5 && z6) = true → aF.tmps.getD 138 undef = (.agg #[.bool o6.v.lo.neg, .slice PN pN qN, .int .i64 o6.v.lo.e, .bool o6.v.hi.neg, .slice RN rN sN, .int .i64 o6.v.hi.e])) ∧ ((z5 && z6) = false → aF.tmps.getD 138 undef = undef) := F.done 10 138 (by kernel_rfl) rfl
    rcases bools (z5 && z6) with hC | hC
    · refine step_imp (V1 := fun _ => (fun v _ => v = (.bool true))) ?_ (fun _ _ h => ⟨fun _ => h, fun hN => absurd (hC.symm.trans hN) (by decide)⟩)
      replace s137 := s137.1 hC
      replace s138 := s138.1 hC
      exact step_good ((wanted_guard rfl rfl sg).trans (by first | rfl | simp [hC])) (by go_simp) (CW.out hC _ _ _ ⟨_, _, _, _, _, _, rfl, ZM.out.1.kept F.kept, ZM.out.2.kept F.kept⟩ ⟨_, _, _, _, _, _, rfl, ZN.out.1.kept F.kept, ZN.out.2.kept F.kept⟩) (fun _ _ h => RetK.good h) (fun _ _ h => h)
    · exact step_out ((wanted_guard rfl rfl sg).trans (by first | rfl | simp [hC])) ⟨fun h => absurd (hC.symm.trans h) (by decide), fun _ => rfl⟩),
      (fun aF wF F => by
    have sg : aF.tmps.getD 136 undef = (.bool (!(z5 && z6))) := F.done 8 136 (by kernel_rfl) rfl
    have s139 : ((z5 && z6) = true → aF.tmps.getD 139 undef = (.bool true)) ∧ ((z5 && z6) = false → aF.tmps.getD 139 undef = undef) := F.done 11 139 (by kernel_rfl) rfl
    rcases bools (z5 && z6) with hC | hC
    · refine step_imp (V1 := fun _ => (fun v _ => v = (.bool true))) ?_ (fun _ _ h => ⟨fun _ => h, fun hN => absurd (hC.symm.trans hN) (by decide)⟩)
      replace s139 := s139.1 hC
      exact step_val ((wanted_guard rfl rfl sg).trans (by first | rfl | simp [hC])) (by go_simp) rfl
    · exact step_out ((wanted_guard rfl rfl sg).trans (by first | rfl | simp [hC])) ⟨fun h => absurd (hC.symm.trans h) (by decide), fun _ => rfl⟩),
      (fun aF wF F => by
    have sg : ((z5 && z6) = true → aF.tmps.getD 140 undef = (.bool true)) ∧ ((z5 && z6) = false → aF.tmps.getD 140 undef = undef) := F.done 12 140 (by kernel_rfl) rfl
    have s8 : aF.tmps.getD 8 undef = (.pointer (some ⟨bX, 0, none⟩)) := F.old 8 (by kernel_rfl)
    rcases bools (z5 && z6) with hC | hC
    · replace sg := sg.1 hC
      refine step_imp (V1 := fun _ => (fun v _ => v = (.pointer (some ⟨bX, 0, none⟩)))) ?_ (fun _ _ h => ⟨fun _ => h, fun hN => absurd (hC.symm.trans hN) (by decide)⟩)
      exact step_val ((wanted_guard rfl rfl sg).trans (by first | rfl | simp [hC])) (by go_simp) rfl
    · rcases bools (z5 && z6) with hE | hE
      · exact step_out ((wanted_guard rfl rfl (sg.1 hE)).trans (by first | rfl | simp_all)) ⟨fun h => absurd (hC.symm.trans h) (by decide), fun _ => rfl⟩
      · exact step_out (wanted_undef rfl rfl (sg.2 hE)) ⟨fun h => absurd (hC.symm.trans h) (by decide), fun _ => rfl⟩),
      (fun aF wF F => by
    have sg : ((z5 && z6) = true → aF.tmps.getD 140 undef = (.bool true)) ∧ ((z5 && z6) = false → aF.tmps.getD 140 undef = undef) := F.done 12 140 (by kernel_rfl) rfl
    have s141 : ((z5 && z6) = true → aF.tmps.getD 141 undef = (.pointer (some ⟨bX, 0, none⟩))) ∧ ((z5 && z6) = false → aF.tmps.getD 141 undef = undef) := F.done 13 141 (by kernel_rfl) rfl
    have c0 := cell_at HX.out F.kept 0 _ rfl
    have c1 := cell_at HX.out F.kept 1 _ rfl
    have c2 := cell_at HX.out F.kept 2 _ rfl
    rcases bools (z5 && z6) with hC | hC
    · replace sg := sg.1 hC
      refine step_imp (V1 := fun _ => (fun v _ => v = (.agg #[.bool o5.v.lo.neg, .slice PM pM qM, .int .i64 o5.v.lo.e]))) ?_ (fun _ _ h => ⟨fun _ => h, fun hN => absurd (hC.symm.trans hN) (by decide)⟩)
      replace s141 := s141.1 hC
      exact step_val ((wanted_guard rfl rfl sg).trans (by first | rfl | simp [hC])) (by go_simp) rfl
    · rcases bools (z5 && z6) with hE | hE
      · exact step_out ((wanted_guard rfl rfl (sg.1 hE)).trans (by first | rfl | simp_all)) ⟨fun h => absurd (hC.symm.trans h) (by decide), fun _ => rfl⟩
      · exact step_out (wanted_undef rfl rfl (sg.2 hE)) ⟨fun h => absurd (hC.symm.trans h) (by decide), fun _ => rfl⟩),
      (fun aF wF F => by
    have sg : ((z5 && z6) = true → aF.tmps.getD 140 undef = (.bool true)) ∧ ((z5 && z6) = false → aF.tmps.getD 140 undef = undef) := F.done 12 140 (by kernel_rfl) rfl
    have s142 : ((z5 && z6) = true → aF.tmps.getD 142 undef = (.agg #[.bool o5.v.lo.neg, .slice PM pM qM, .int .i64 o5.v.lo.e])) ∧ ((z5 && z6) = false → aF.tmps.getD 142 undef = undef) := F.done 14 142 (by kernel_rfl) rfl
    rcases bools (z5 && z6) with hC | hC
    · replace sg := sg.1 hC
      refine step_imp (V1 := fun _ => (fun v _ => v = (.int .i64 g))) ?_ (fun _ _ h => ⟨fun _ => h, fun hN => absurd (hC.symm.trans hN) (by decide)⟩)
      replace s142 := s142.1 hC
      exact step_good ((wanted_guard rfl rfl sg).trans (by first | rfl | simp [hC])) (by go_simp) (CG.out _ _ (ZM.out.1.kept F.kept)) (fun _ _ h => RetK.good h) (fun _ _ h => h)
    · rcases bools (z5 && z6) with hE | hE
      · exact step_out ((wanted_guard rfl rfl (sg.1 hE)).trans (by first | rfl | simp_all)) ⟨fun h => absurd (hC.symm.trans h) (by decide), fun _ => rfl⟩
      · exact step_out (wanted_undef rfl rfl (sg.2 hE)) ⟨fun h => absurd (hC.symm.trans h) (by decide), fun _ => rfl⟩),
      (fun aF wF F => by
    have sg : ((z5 && z6) = true → aF.tmps.getD 140 undef = (.bool true)) ∧ ((z5 && z6) = false → aF.tmps.getD 140 undef = undef) := F.done 12 140 (by kernel_rfl) rfl
    have s143 : ((z5 && z6) = true → aF.tmps.getD 143 undef = (.int .i64 g)) ∧ ((z5 && z6) = false → aF.tmps.getD 143 undef = undef) := F.done 15 143 (by kernel_rfl) rfl
    rcases bools (z5 && z6) with hC | hC
    · replace sg := sg.1 hC
      refine step_imp (V1 := fun _ => (fun v _ => v = (.bool true))) ?_ (fun _ _ h => ⟨fun _ => h, fun hN => absurd (hC.symm.trans hN) (by decide)⟩)
      replace s143 := s143.1 hC
      exact step_val ((wanted_guard rfl rfl sg).trans (by first | rfl | simp [hC])) (by (have hg := GE.out hC; go_simp)) rfl
    · rcases bools (z5 && z6) with hE | hE
      · exact step_out ((wanted_guard rfl rfl (sg.1 hE)).trans (by first | rfl | simp_all)) ⟨fun h => absurd (hC.symm.trans h) (by decide), fun _ => rfl⟩
      · exact step_out (wanted_undef rfl rfl (sg.2 hE)) ⟨fun h => absurd (hC.symm.trans h) (by decide), fun _ => rfl⟩),
      (fun aF wF F => by
    have sg : aF.tmps.getD 136 undef = (.bool (!(z5 && z6))) := F.done 8 136 (by kernel_rfl) rfl
    have s140 : ((z5 && z6) = true → aF.tmps.getD 140 undef = (.bool true)) ∧ ((z5 && z6) = false → aF.tmps.getD 140 undef = undef) := F.done 12 140 (by kernel_rfl) rfl
    have s144 : ((z5 && z6) = true → aF.tmps.getD 144 undef = (.bool true)) ∧ ((z5 && z6) = false → aF.tmps.getD 144 undef = undef) := F.done 16 144 (by kernel_rfl) rfl
    rcases bools (z5 && z6) with hC | hC
    · refine step_imp (V1 := fun _ => (fun v _ => v = (.bool true))) ?_ (fun _ _ h => ⟨fun _ => h, fun hN => absurd (hC.symm.trans hN) (by decide)⟩)
      replace s140 := s140.1 hC
      replace s144 := s144.1 hC
      exact step_val ((wanted_guard rfl rfl sg).trans (by first | rfl | simp [hC])) (by first | (go_simp; done) | (go_simp; simp_all; done) | (simp_all; done)) rfl
    · exact step_out ((wanted_guard rfl rfl sg).trans (by first | rfl | simp [hC])) ⟨fun h => absurd (hC.symm.trans h) (by decide), fun _ => rfl⟩),
      (fun aF wF F => by
    have sg : aF.tmps.getD 129 undef = (.bool true) := F.done 1 129 (by kernel_rfl) rfl
    have s136 : aF.tmps.getD 136 undef = (.bool (!(z5 && z6))) := F.done 8 136 (by kernel_rfl) rfl
    have s145 : ((z5 && z6) = true → aF.tmps.getD 145 undef = (.bool true)) ∧ ((z5 && z6) = false → aF.tmps.getD 145 undef = undef) := F.done 17 145 (by kernel_rfl) rfl
    rcases bools (z5 && z6) with hE | hE
    · replace s145 := s145.1 hE
      exact step_val ((wanted_guard rfl rfl sg).trans (by first | rfl | simp [hC])) (by first | (go_simp; done) | (go_simp; simp_all; done) | (simp_all; done)) rfl
    · exact step_val ((wanted_guard rfl rfl sg).trans (by first | rfl | simp [hC])) (by first | (go_simp; done) | (go_simp; simp_all; done) | (simp_all; done)) rfl),
      (fun aF wF F => by
    have s129 : aF.tmps.getD 129 undef = (.bool true) := F.done 1 129 (by kernel_rfl) rfl
    have s146 : aF.tmps.getD 146 undef = (.bool true) := F.done 18 146 (by kernel_rfl) rfl
    exact step_val (by simp [Region.wanted]) (by go_simp) rfl),
      (fun aF wF F => by
    have s147 : aF.tmps.getD 147 undef = (.bool true) := F.done 19 147 (by kernel_rfl) rfl
    exact step_val (by simp [Region.wanted]) (by go_simp) rfl),
      trivial⟩) ?_
  intro u w1 k1 hu
  have e128 : u 0 = (.bool true) := hu 0 (by decide)
  have e129 : u 1 = (.bool true) := hu 1 (by decide)
  have e130 : u 2 = .int .i64 o5.k := hu 2 (by decide)
  have e131 : u 3 = (.bool (!z5)) := hu 3 (by decide)
  have e132 : u 4 = (.bool (!z5)) := hu 4 (by decide)
  have p133 := hu 5 (by decide)
  have p134 := hu 6 (by decide)
  have e135 : u 7 = (.bool (!(z5 && z6))) := hu 7 (by decide)
  have e136 : u 8 = (.bool (!(z5 && z6))) := hu 8 (by decide)
  have p137 := hu 9 (by decide)
  have p138 := hu 10 (by decide)
  have p139 := hu 11 (by decide)
  have p140 := hu 12 (by decide)
  have p141 := hu 13 (by decide)
  have p142 := hu 14 (by decide)
  have p143 := hu 15 (by decide)
  have p144 := hu 16 (by decide)
  have p145 := hu 17 (by decide)
  have e146 : u 18 = (.bool true) := hu 18 (by decide)
  have e147 : u 19 = (.bool true) := hu 19 (by decide)
  have e6 : u 20 = (.bool true) := hu 20 (by decide)
  clear hu
  simp only [puts, slotOf, if_true, Act.put, List.setIfInBounds_toArray, List.set_cons_zero, List.set_cons_succ, List.getElem?_toArray, List.getElem?_cons_zero, List.getElem?_cons_succ, Option.bind_some, e128, e129, e130, e131, e132, e135, e136, e146, e147, e6]
  clear e128 e129 e130 e131 e132 e135 e136 e146 e147 e6
  generalize u 5 = v133 at *
  try simp only [VL, List.getD_cons_zero, List.getD_cons_succ] at p133
  generalize u 6 = v134 at *
  try simp only [VL, List.getD_cons_zero, List.getD_cons_succ] at p134
  generalize u 9 = v137 at *
  try simp only [VL, List.getD_cons_zero, List.getD_cons_succ] at p137
  generalize u 10 = v138 at *
  try simp only [VL, List.getD_cons_zero, List.getD_cons_succ] at p138
  generalize u 11 = v139 at *
  try simp only [VL, List.getD_cons_zero, List.getD_cons_succ] at p139
  generalize u 12 = v140 at *
  try simp only [VL, List.getD_cons_zero, List.getD_cons_succ] at p140
  generalize u 13 = v141 at *
  try simp only [VL, List.getD_cons_zero, List.getD_cons_succ] at p141
  generalize u 14 = v142 at *
  try simp only [VL, List.getD_cons_zero, List.getD_cons_succ] at p142
  generalize u 15 = v143 at *
  try simp only [VL, List.getD_cons_zero, List.getD_cons_succ] at p143
  generalize u 16 = v144 at *
  try simp only [VL, List.getD_cons_zero, List.getD_cons_succ] at p144
  generalize u 17 = v145 at *
  try simp only [VL, List.getD_cons_zero, List.getD_cons_succ] at p145
  go_wp2_with fail
  go_ret
  exact ⟨rfl, K.out.trans k1⟩





end Go.Proofs.YtjdplcenniogdaaDoor
