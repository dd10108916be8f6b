/- Contracts of package expo: may; what Exp, Over tell of what may not be. -/
import Derived.Test.YtjdplcenniogdaaDoorZExE
import Derived.Test.YtjdplcenniogdaaDoorClaimTurnsp20
namespace Go.Proofs.YtjdplcenniogdaaDoor
open Go.RowKit

def far : Dy := ⟨false, 1, 6⟩
theorem far_ok : far.Ok := one_ok _ _ (by decide) (by decide)
theorem fit_far : fitD false 64 0 = ⟨far, 0⟩ := by
  have ht : tz 64 = 6 := tz_unique 64 6 1 rfl rfl
  unfold fitD
  rw [ht]
  rw [if_neg (by decide), if_neg (by simp [limbs1]), if_neg (by decide), if_neg (by decide)]
  rfl
def mayX (r : Raw) (p : Int) : Int :=
  if (mayD r && !decide (p < 1) && !decide (300 < p)) = true then
    (if (decide (cmpQ r.dy.q far.q ≤ 0) && decide (0 ≤ cmpQ r.dy.q (negD far).q)) = true then (if r.e < -400 then 2 else 0) else 4)
  else 1

set_option maxHeartbeats 4000000 in
set_option maxRecDepth 100000 in
theorem xmay_c {w : World} {v : Value} {r : Raw} {p : Int} (hv : DyR w v r) (hl : r.m.length ≤ 17592186044416) (hT : Tab w) :
    Calls Tryd.prog 40 #[v, .int .i64 p] w (RetK (.int .i64 (mayX r p)) w) := by
  have T := Lib.hid hT
  have M := Lib.hid (fun w1 (k : Kept w w1) => may_c (hv.kept k) hl)
  have hsm := raw_small hv
  obtain ⟨A, l, c, rfl, hs⟩ := rawR_split hv
  have CC : Hid (mayD r = true → (r.dy.raw = r ∧ r.dy.Ok)) := fun h => mayD_clean hsm h
  have CO := Lib.hid (fun w1 (k : Kept w w1) => show Calls Tryd.prog 41 #[.int .i64 64, .int .i64 0] w1 (RetE ⟨far.raw, 0⟩ w1) by
    have h := Of_pos (w := w1) (k := 64) (e := 0) (by decide) (by decide) (by decide) (T.out.kept k)
    rw [fit_far] at h
    exact h)
  have HS := Lib.hid hs
  clear hv hs hl hT hsm
  obtain ⟨res, hres⟩ : ∃ res, mayX r p = res := ⟨_, rfl⟩
  rw [hres]
  unfold mayX at hres
  obtain ⟨bm, hbm⟩ : ∃ b, mayD r = b := ⟨_, rfl⟩
  obtain ⟨b1, hb1⟩ : ∃ b, (!decide (p < 1)) = b := ⟨_, rfl⟩
  obtain ⟨b2, hb2⟩ : ∃ b, (!decide (300 < p)) = b := ⟨_, rfl⟩
  rw [hbm, hb1, hb2] at hres
  rw [hbm] at M CC
  have H1 : Hid (decide (p < 1) = !b1) := by rw [← hb1, Bool.not_not]; exact rfl
  have H2 : Hid (decide (300 < p) = !b2) := by rw [← hb2, Bool.not_not]; exact rfl
  clear hbm hb1 hb2
  obtain ⟨q, hq⟩ : ∃ q, q = r.dy := ⟨_, rfl⟩
  rw [← hq] at CC hres
  obtain ⟨n1, hn1⟩ : ∃ x, r.neg = x := ⟨_, rfl⟩
  obtain ⟨e1, he1⟩ : ∃ x, r.e = x := ⟨_, rfl⟩
  rw [hn1, he1] at HS ⊢
  rw [he1] at hres
  simp only [hn1, he1] at M
  clear hq hn1 he1
  have HM := Lib.hid hres
  clear hres
  obtain ⟨W, hW, kW, BA⟩ : ∃ W, W = w.alloc (.cells #[.bool n1, .slice A l c, .int .i64 e1] 24) ∧ Kept w W ∧ Blk W w.heap.size (.bool n1) (.slice A l c) (.int .i64 e1) := ⟨_, rfl, kept_alloc _ _, blk_new _ _ _ _⟩
  have HW := Lib.hid hW
  have K := Lib.hid kW
  have HA := Lib.hid BA
  clear hW kW BA
  go_enter Tryd.func40, Tryd.ntmps40
  go_upto_region 1 with fail
  rw [← HW.out]
  clear HW
  refine region_seq (m := 11) (V := VL [
      (fun v _ => v = (.agg #[.bool n1, .slice A l c, .int .i64 e1])),
      (fun v _ => v = (.bool bm)),
      (fun v _ => v = (.bool (!bm))),
      (fun v _ => v = (.bool (!bm))),
      (fun v wv => (bm = true → (fun v _ => v = .int .i64 p) v wv) ∧ (bm = false → v = undef)),
      (fun v wv => (bm = true → (fun v _ => v = (.bool (!b1))) v wv) ∧ (bm = false → v = undef)),
      (fun v _ => v = (.bool (!(bm && b1)))),
      (fun v _ => v = (.bool (!(bm && b1)))),
      (fun v wv => ((bm && b1) = true → (fun v _ => v = .int .i64 p) v wv) ∧ ((bm && b1) = false → v = undef)),
      (fun v wv => ((bm && b1) = true → (fun v _ => v = (.bool (!b2))) v wv) ∧ ((bm && b1) = false → v = undef)),
      (fun v _ => v = (.bool (!(bm && b1 && b2))))])
    rfl (by kernel_rfl) (by kernel_rfl) (by kernel_rfl) (mono_of _ ⟨mono_eq _, mono_eq _, mono_eq _, mono_eq _, fun v w w' k h => ⟨fun hC => (fun v w w' k h => by first | exact h | exact h.kept k | exact ⟨h.1, h.2.kept k⟩) v w w' k (h.1 hC), h.2⟩, fun v w w' k h => ⟨fun hC => (fun v w w' k h => by first | exact h | exact h.kept k | exact ⟨h.1, h.2.kept k⟩) v w w' k (h.1 hC), h.2⟩, mono_eq _, mono_eq _, fun v w w' k h => ⟨fun hC => (fun v w w' k h => by first | exact h | exact h.kept k | exact ⟨h.1, h.2.kept k⟩) v w w' k (h.1 hC), h.2⟩, fun v w w' k h => ⟨fun hC => (fun v w w' k h => by first | exact h | exact h.kept k | exact ⟨h.1, h.2.kept k⟩) v w w' k (h.1 hC), h.2⟩, mono_eq _, trivial⟩) (steps_of ⟨
      (fun aF wF F => by
    have s2 : aF.tmps.getD 2 undef = (.pointer (some ⟨w.heap.size, 0, none⟩)) := F.old 2 (by kernel_rfl)
    have c0 := cell_at HA.out F.kept 0 _ rfl
    have c1 := cell_at HA.out F.kept 1 _ rfl
    have c2 := cell_at HA.out F.kept 2 _ rfl
    exact step_val (by simp [Region.wanted]) (by go_simp) rfl),
      (fun aF wF F => by
    have s7 : aF.tmps.getD 7 undef = (.agg #[.bool n1, .slice A l c, .int .i64 e1]) := F.done 0 7 (by kernel_rfl) rfl
    exact step_good (by simp [Region.wanted]) (by go_simp) (M.out _ (K.out.trans F.kept)) (fun _ _ h => RetK.good h) (fun _ _ h => h)),
      (fun aF wF F => by
    have s8 : aF.tmps.getD 8 undef = (.bool bm) := F.done 1 8 (by kernel_rfl) rfl
    exact step_val (by simp [Region.wanted]) (by go_simp) rfl),
      (fun aF wF F => by
    have s9 : aF.tmps.getD 9 undef = (.bool (!bm)) := F.done 2 9 (by kernel_rfl) rfl
    exact step_val (by simp [Region.wanted]) (by go_simp) rfl),
      (fun aF wF F => by
    have sg : aF.tmps.getD 10 undef = (.bool (!bm)) := F.done 3 10 (by kernel_rfl) rfl
    have s1 : aF.tmps.getD 1 undef = .int .i64 p := F.old 1 (by kernel_rfl)
    rcases bools bm with hC | hC
    · refine step_imp (V1 := fun _ => (fun v _ => v = .int .i64 p)) ?_ (fun _ _ h => ⟨fun _ => h, fun hN => absurd (hC.symm.trans hN) (by decide)⟩)
      exact step_val ((wanted_guard rfl rfl sg).trans (by first | rfl | simp [hC])) (by go_simp) rfl
    · exact step_out ((wanted_guard rfl rfl sg).trans (by first | rfl | simp [hC])) ⟨fun h => absurd (hC.symm.trans h) (by decide), fun _ => rfl⟩),
      (fun aF wF F => by
    have sg : aF.tmps.getD 10 undef = (.bool (!bm)) := F.done 3 10 (by kernel_rfl) rfl
    have s11 : (bm = true → aF.tmps.getD 11 undef = .int .i64 p) ∧ (bm = false → aF.tmps.getD 11 undef = undef) := F.done 4 11 (by kernel_rfl) rfl
    rcases bools bm with hC | hC
    · refine step_imp (V1 := fun _ => (fun v _ => v = (.bool (!b1)))) ?_ (fun _ _ h => ⟨fun _ => h, fun hN => absurd (hC.symm.trans hN) (by decide)⟩)
      replace s11 := s11.1 hC
      exact step_val ((wanted_guard rfl rfl sg).trans (by first | rfl | simp [hC])) (by (go_simp; exact H1.out)) rfl
    · exact step_out ((wanted_guard rfl rfl sg).trans (by first | rfl | simp [hC])) ⟨fun h => absurd (hC.symm.trans h) (by decide), fun _ => rfl⟩),
      (fun aF wF F => by
    have s10 : aF.tmps.getD 10 undef = (.bool (!bm)) := F.done 3 10 (by kernel_rfl) rfl
    have s12 : (bm = true → aF.tmps.getD 12 undef = (.bool (!b1))) ∧ (bm = false → aF.tmps.getD 12 undef = undef) := F.done 5 12 (by kernel_rfl) rfl
    rcases bools bm with hE | hE
    · replace s12 := s12.1 hE
      exact step_val (by simp [Region.wanted]) (by first | (go_simp; done) | (go_simp; simp_all; done) | (simp_all; done)) rfl
    · exact step_val (by simp [Region.wanted]) (by first | (go_simp; done) | (go_simp; simp_all; done) | (simp_all; done)) rfl),
      (fun aF wF F => by
    have s13 : aF.tmps.getD 13 undef = (.bool (!(bm && b1))) := F.done 6 13 (by kernel_rfl) rfl
    exact step_val (by simp [Region.wanted]) (by go_simp) rfl),
      (fun aF wF F => by
    have sg : aF.tmps.getD 14 undef = (.bool (!(bm && b1))) := F.done 7 14 (by kernel_rfl) rfl
    have s1 : aF.tmps.getD 1 undef = .int .i64 p := F.old 1 (by kernel_rfl)
    rcases bools (bm && b1) with hC | hC
    · refine step_imp (V1 := fun _ => (fun v _ => v = .int .i64 p)) ?_ (fun _ _ h => ⟨fun _ => h, fun hN => absurd (hC.symm.trans hN) (by decide)⟩)
      exact step_val ((wanted_guard rfl rfl sg).trans (by first | rfl | simp [hC])) (by go_simp) rfl
    · exact step_out ((wanted_guard rfl rfl sg).trans (by first | rfl | simp [hC])) ⟨fun h => absurd (hC.symm.trans h) (by decide), fun _ => rfl⟩),
      (fun aF wF F => by
    have sg : aF.tmps.getD 14 undef = (.bool (!(bm && b1))) := F.done 7 14 (by kernel_rfl) rfl
    have s15 : ((bm && b1) = true → aF.tmps.getD 15 undef = .int .i64 p) ∧ ((bm && b1) = false → aF.tmps.getD 15 undef = undef) := F.done 8 15 (by kernel_rfl) rfl
    rcases bools (bm && b1) with hC | hC
    · refine step_imp (V1 := fun _ => (fun v _ => v = (.bool (!b2)))) ?_ (fun _ _ h => ⟨fun _ => h, fun hN => absurd (hC.symm.trans hN) (by decide)⟩)
      replace s15 := s15.1 hC
      exact step_val ((wanted_guard rfl rfl sg).trans (by first | rfl | simp [hC])) (by (go_simp; exact H2.out)) rfl
    · exact step_out ((wanted_guard rfl rfl sg).trans (by first | rfl | simp [hC])) ⟨fun h => absurd (hC.symm.trans h) (by decide), fun _ => rfl⟩),
      (fun aF wF F => by
    have s14 : aF.tmps.getD 14 undef = (.bool (!(bm && b1))) := F.done 7 14 (by kernel_rfl) rfl
    have s16 : ((bm && b1) = true → aF.tmps.getD 16 undef = (.bool (!b2))) ∧ ((bm && b1) = false → aF.tmps.getD 16 undef = undef) := F.done 9 16 (by kernel_rfl) rfl
    rcases bools (bm && b1) with hE | hE
    · replace s16 := s16.1 hE
      exact step_val (by simp [Region.wanted]) (by first | (go_simp; done) | (go_simp; simp_all; done) | (simp_all; done)) rfl
    · exact step_val (by simp [Region.wanted]) (by first | (go_simp; done) | (go_simp; simp_all; done) | (simp_all; done)) rfl),
      trivial⟩) ?_
  intro u w1 k1 hu
  have e7 : u 0 = (.agg #[.bool n1, .slice A l c, .int .i64 e1]) := hu 0 (by decide)
  have e8 : u 1 = (.bool bm) := hu 1 (by decide)
  have e9 : u 2 = (.bool (!bm)) := hu 2 (by decide)
  have e10 : u 3 = (.bool (!bm)) := hu 3 (by decide)
  have p11 := hu 4 (by decide)
  have p12 := hu 5 (by decide)
  have e13 : u 6 = (.bool (!(bm && b1))) := hu 6 (by decide)
  have e14 : u 7 = (.bool (!(bm && b1))) := hu 7 (by decide)
  have p15 := hu 8 (by decide)
  have p16 := hu 9 (by decide)
  have e17 : u 10 = (.bool (!(bm && b1 && b2))) := hu 10 (by decide)
  clear hu
  simp only [puts, slotOf, if_true, Act.put, List.setIfInBounds_toArray, List.set_cons_zero, List.set_cons_succ, List.getElem?_toArray, List.getElem?_cons_zero, List.getElem?_cons_succ, Option.bind_some, e7, e8, e9, e10, e13, e14, e17]
  clear e7 e8 e9 e10 e13 e14 e17
  generalize u 4 = v11 at *
  try simp only [VL, List.getD_cons_zero, List.getD_cons_succ] at p11
  generalize u 5 = v12 at *
  try simp only [VL, List.getD_cons_zero, List.getD_cons_succ] at p12
  generalize u 8 = v15 at *
  try simp only [VL, List.getD_cons_zero, List.getD_cons_succ] at p15
  generalize u 9 = v16 at *
  try simp only [VL, List.getD_cons_zero, List.getD_cons_succ] at p16
  clear p11 p12 p15 p16 M H1 H2
  replace K := Lib.hid (K.out.trans k1)
  replace HA := Lib.hid (HA.out.kept k1)
  clear k1
  rcases (bools (bm && b1 && b2)).symm with hg | hg
  · rw [hg]
    have hm := HM.out
    rw [hg] at hm
    have HM2 : Hid ((1 : Int) = res) := by rw [← hm]; exact rfl
    clear HM hm hg
    go_wp2_with fail
    go_ret
    exact ⟨ret_int HM2.out, K.out⟩
  rw [hg]
  rw [hg] at HM
  simp only [Bool.and_eq_true] at hg
  obtain ⟨hr, ok⟩ := CC.out hg.1.1
  rw [← hr] at HS
  have C1 := Lib.hid (fun w1 v (k : Kept w w1) (h : DyR w1 v far.raw) => dcmp_c (HS.out.kept k) h ok far_ok)
  have C2 := Lib.hid (fun w1 v (k : Kept w w1) (h : DyR w1 v (negD far).raw) => dcmp_c (HS.out.kept k) h ok (negD_ok far_ok))
  have CN := Lib.hid (fun w1 v (h : DyR w1 v far.raw) => show Calls Tryd.prog 27 #[v] w1 (RetD (negD far).raw w1) by
    have h := dneg_c h (by have := dy_len far_ok; omega)
    rwa [negR_raw _ far_ok] at h)
  obtain ⟨q1, hq1⟩ : ∃ b, decide (cmpQ q.q far.q ≤ 0) = b := ⟨_, rfl⟩
  obtain ⟨q2, hq2⟩ : ∃ b, decide (0 ≤ cmpQ q.q (negD far).q) = b := ⟨_, rfl⟩
  have Q1 : Hid (decide (0 < cmpQ q.q far.q) = !q1) := by
    rw [← hq1]
    by_cases h : cmpQ q.q far.q ≤ 0
    · rw [decide_eq_true h, decide_eq_false (by omega)]; rfl
    · rw [decide_eq_false h, decide_eq_true (by omega)]; rfl
  have Q2 : Hid (decide (cmpQ q.q (negD far).q < 0) = !q2) := by
    rw [← hq2]
    by_cases h : 0 ≤ cmpQ q.q (negD far).q
    · rw [decide_eq_true h, decide_eq_false (by omega)]; rfl
    · rw [decide_eq_false h, decide_eq_true (by omega)]; rfl
  have R1 := Lib.hid hq1
  have R2 := Lib.hid hq2
  clear hq1 hq2 hg hr ok CC HS
  rw [R1.out, R2.out] at HM
  clear R1 R2
  generalize cmpQ q.q far.q = c1 at *
  generalize cmpQ q.q (negD far).q = c2 at *
  go_wp2_with fail
  refine (CO.out _ K.out).mono ?_
  rintro ee w5 ⟨q5, u, rfl, hd⟩
  obtain ⟨A5, j5, c5, rfl, z1⟩ := rawR_split hd
  simp only []
  obtain ⟨V, hV, kV, hb, lV⟩ := boxF w5 (.bool far.raw.neg) (.slice A5 j5 c5) (.int .i64 far.raw.e)
  have HV := Lib.hid hV
  have kk := q5.trans kV
  replace K := Lib.hid (K.out.trans kk)
  replace HA := Lib.hid (HA.out.kept kk)
  have H5 := Lib.hid hb
  have Z5 := Lib.hid (z1.kept kV)
  clear hV kV hb kk q5 hd z1 lV CO
  go_upto_region 4 with fail
  rw [← HV.out]
  clear HV
  generalize w5.heap.size = b5 at *
  generalize far.raw.neg = n5 at *
  generalize far.raw.e = e5 at *
  refine region_lin (m := 11) (V := VL [
      (fun v _ => v = (.agg #[.bool n1, .slice A l c, .int .i64 e1])),
      (fun v _ => v = (.agg #[.bool n5, .slice A5 j5 c5, .int .i64 e5])),
      (fun v _ => v = (.int .i64 c1)),
      (fun v _ => v = (.bool (!q1))),
      (fun v _ => v = (.bool (!q1))),
      (fun v wv => (q1 = true → (fun v _ => v = (.agg #[.bool n1, .slice A l c, .int .i64 e1])) v wv) ∧ (q1 = false → v = undef)),
      (fun v wv => (q1 = true → (fun v _ => v = (.agg #[.bool n5, .slice A5 j5 c5, .int .i64 e5])) v wv) ∧ (q1 = false → v = undef)),
      (fun v wv => (q1 = true → (fun v wv => DyR wv v ((negD far).raw)) v wv) ∧ (q1 = false → v = undef)),
      (fun v wv => (q1 = true → (fun v _ => v = (.int .i64 c2)) v wv) ∧ (q1 = false → v = undef)),
      (fun v wv => (q1 = true → (fun v _ => v = (.bool (!q2))) v wv) ∧ (q1 = false → v = undef)),
      (fun v _ => v = (.bool (!(q1 && q2))))])
    (by kernel_rfl) rfl (by kernel_rfl) (by kernel_rfl) (by kernel_rfl) (mono_of _ ⟨mono_eq _, mono_eq _, mono_eq _, mono_eq _, mono_eq _, fun v w w' k h => ⟨fun hC => (fun v w w' k h => by first | exact h | exact h.kept k | exact ⟨h.1, h.2.kept k⟩) v w w' k (h.1 hC), h.2⟩, fun v w w' k h => ⟨fun hC => (fun v w w' k h => by first | exact h | exact h.kept k | exact ⟨h.1, h.2.kept k⟩) v w w' k (h.1 hC), h.2⟩, fun v w w' k h => ⟨fun hC => (fun v w w' k h => by first | exact h | exact h.kept k | exact ⟨h.1, h.2.kept k⟩) v w w' k (h.1 hC), h.2⟩, fun v w w' k h => ⟨fun hC => (fun v w w' k h => by first | exact h | exact h.kept k | exact ⟨h.1, h.2.kept k⟩) v w w' k (h.1 hC), h.2⟩, fun v w w' k h => ⟨fun hC => (fun v w w' k h => by first | exact h | exact h.kept k | exact ⟨h.1, h.2.kept k⟩) v w w' k (h.1 hC), h.2⟩, mono_eq _, trivial⟩) (steps_of ⟨
      (fun aF wF F => by
    have s2 : aF.tmps.getD 2 undef = (.pointer (some ⟨w.heap.size, 0, none⟩)) := F.old 2 (by kernel_rfl)
    have c0 := cell_at HA.out F.kept 0 _ rfl
    have c1 := cell_at HA.out F.kept 1 _ rfl
    have c2 := cell_at HA.out F.kept 2 _ rfl
    exact step_val (by simp [Region.wanted]) (by go_simp) rfl),
      (fun aF wF F => by
    have s5 : aF.tmps.getD 5 undef = (.pointer (some ⟨b5, 0, none⟩)) := F.old 5 (by kernel_rfl)
    have c0 := cell_at H5.out F.kept 0 _ rfl
    have c1 := cell_at H5.out F.kept 1 _ rfl
    have c2 := cell_at H5.out F.kept 2 _ rfl
    exact step_val (by simp [Region.wanted]) (by go_simp) rfl),
      (fun aF wF F => by
    have s22 : aF.tmps.getD 22 undef = (.agg #[.bool n1, .slice A l c, .int .i64 e1]) := F.done 0 22 (by kernel_rfl) rfl
    have s23 : aF.tmps.getD 23 undef = (.agg #[.bool n5, .slice A5 j5 c5, .int .i64 e5]) := F.done 1 23 (by kernel_rfl) rfl
    exact step_good (by simp [Region.wanted]) (by go_simp) (C1.out _ _ (K.out.trans F.kept) (Z5.out.kept F.kept)) (fun _ _ h => RetK.good h) (fun _ _ h => h)),
      (fun aF wF F => by
    have s24 : aF.tmps.getD 24 undef = (.int .i64 c1) := F.done 2 24 (by kernel_rfl) rfl
    exact step_val (by simp [Region.wanted]) (by (go_simp; exact Q1.out)) rfl),
      (fun aF wF F => by
    have s25 : aF.tmps.getD 25 undef = (.bool (!q1)) := F.done 3 25 (by kernel_rfl) rfl
    exact step_val (by simp [Region.wanted]) (by go_simp) rfl),
      (fun aF wF F => by
    have sg : aF.tmps.getD 26 undef = (.bool (!q1)) := F.done 4 26 (by kernel_rfl) rfl
    have s2 : aF.tmps.getD 2 undef = (.pointer (some ⟨w.heap.size, 0, none⟩)) := F.old 2 (by kernel_rfl)
    have c0 := cell_at HA.out F.kept 0 _ rfl
    have c1 := cell_at HA.out F.kept 1 _ rfl
    have c2 := cell_at HA.out F.kept 2 _ rfl
    rcases bools q1 with hC | hC
    · refine step_imp (V1 := fun _ => (fun v _ => v = (.agg #[.bool n1, .slice A l c, .int .i64 e1]))) ?_ (fun _ _ h => ⟨fun _ => h, fun hN => absurd (hC.symm.trans hN) (by decide)⟩)
      exact step_val ((wanted_guard rfl rfl sg).trans (by first | rfl | simp [hC])) (by go_simp) rfl
    · exact step_out ((wanted_guard rfl rfl sg).trans (by first | rfl | simp [hC])) ⟨fun h => absurd (hC.symm.trans h) (by decide), fun _ => rfl⟩),
      (fun aF wF F => by
    have sg : aF.tmps.getD 26 undef = (.bool (!q1)) := F.done 4 26 (by kernel_rfl) rfl
    have s5 : aF.tmps.getD 5 undef = (.pointer (some ⟨b5, 0, none⟩)) := F.old 5 (by kernel_rfl)
    have c0 := cell_at H5.out F.kept 0 _ rfl
    have c1 := cell_at H5.out F.kept 1 _ rfl
    have c2 := cell_at H5.out F.kept 2 _ rfl
    rcases bools q1 with hC | hC
    · refine step_imp (V1 := fun _ => (fun v _ => v = (.agg #[.bool n5, .slice A5 j5 c5, .int .i64 e5]))) ?_ (fun _ _ h => ⟨fun _ => h, fun hN => absurd (hC.symm.trans hN) (by decide)⟩)
      exact step_val ((wanted_guard rfl rfl sg).trans (by first | rfl | simp [hC])) (by go_simp) rfl
    · exact step_out ((wanted_guard rfl rfl sg).trans (by first | rfl | simp [hC])) ⟨fun h => absurd (hC.symm.trans h) (by decide), fun _ => rfl⟩),
      (fun aF wF F => by
    have sg : aF.tmps.getD 26 undef = (.bool (!q1)) := F.done 4 26 (by kernel_rfl) rfl
    have s28 : (q1 = true → aF.tmps.getD 28 undef = (.agg #[.bool n5, .slice A5 j5 c5, .int .i64 e5])) ∧ (q1 = false → aF.tmps.getD 28 undef = undef) := F.done 6 28 (by kernel_rfl) rfl
    rcases bools q1 with hC | hC
    · refine step_imp (V1 := fun _ => (fun v wv => DyR wv v ((negD far).raw))) ?_ (fun _ _ h => ⟨fun _ => h, fun hN => absurd (hC.symm.trans hN) (by decide)⟩)
      replace s28 := s28.1 hC
      exact step_good ((wanted_guard rfl rfl sg).trans (by first | rfl | simp [hC])) (by go_simp) (CN.out _ _ (Z5.out.kept F.kept)) (fun _ _ h => RetD.good h) (fun _ _ h => h)
    · exact step_out ((wanted_guard rfl rfl sg).trans (by first | rfl | simp [hC])) ⟨fun h => absurd (hC.symm.trans h) (by decide), fun _ => rfl⟩),
      (fun aF wF F => by
    have sg : aF.tmps.getD 26 undef = (.bool (!q1)) := F.done 4 26 (by kernel_rfl) rfl
    have s27 : (q1 = true → aF.tmps.getD 27 undef = (.agg #[.bool n1, .slice A l c, .int .i64 e1])) ∧ (q1 = false → aF.tmps.getD 27 undef = undef) := F.done 5 27 (by kernel_rfl) rfl
    have s29 : (q1 = true → (fun v wv => DyR wv v ((negD far).raw)) (aF.tmps.getD 29 undef) wF) ∧ (q1 = false → aF.tmps.getD 29 undef = undef) := F.done 7 29 (by kernel_rfl) rfl
    rcases bools q1 with hC | hC
    · refine step_imp (V1 := fun _ => (fun v _ => v = (.int .i64 c2))) ?_ (fun _ _ h => ⟨fun _ => h, fun hN => absurd (hC.symm.trans hN) (by decide)⟩)
      replace s27 := s27.1 hC
      replace s29 := s29.1 hC
      exact step_good ((wanted_guard rfl rfl sg).trans (by first | rfl | simp [hC])) (by go_simp) (C2.out _ _ (K.out.trans F.kept) s29) (fun _ _ h => RetK.good h) (fun _ _ h => h)
    · exact step_out ((wanted_guard rfl rfl sg).trans (by first | rfl | simp [hC])) ⟨fun h => absurd (hC.symm.trans h) (by decide), fun _ => rfl⟩),
      (fun aF wF F => by
    have sg : aF.tmps.getD 26 undef = (.bool (!q1)) := F.done 4 26 (by kernel_rfl) rfl
    have s30 : (q1 = true → aF.tmps.getD 30 undef = (.int .i64 c2)) ∧ (q1 = false → aF.tmps.getD 30 undef = undef) := F.done 8 30 (by kernel_rfl) rfl
    rcases bools q1 with hC | hC
    · refine step_imp (V1 := fun _ => (fun v _ => v = (.bool (!q2)))) ?_ (fun _ _ h => ⟨fun _ => h, fun hN => absurd (hC.symm.trans hN) (by decide)⟩)
      replace s30 := s30.1 hC
      exact step_val ((wanted_guard rfl rfl sg).trans (by first | rfl | simp [hC])) (by (go_simp; exact Q2.out)) rfl
    · exact step_out ((wanted_guard rfl rfl sg).trans (by first | rfl | simp [hC])) ⟨fun h => absurd (hC.symm.trans h) (by decide), fun _ => rfl⟩),
      (fun aF wF F => by
    have s26 : aF.tmps.getD 26 undef = (.bool (!q1)) := F.done 4 26 (by kernel_rfl) rfl
    have s31 : (q1 = true → aF.tmps.getD 31 undef = (.bool (!q2))) ∧ (q1 = false → aF.tmps.getD 31 undef = undef) := F.done 9 31 (by kernel_rfl) rfl
    rcases bools q1 with hE | hE
    · replace s31 := s31.1 hE
      exact step_val (by simp [Region.wanted]) (by first | (go_simp; done) | (go_simp; simp_all; done) | (simp_all; done)) rfl
    · exact step_val (by simp [Region.wanted]) (by first | (go_simp; done) | (go_simp; simp_all; done) | (simp_all; done)) rfl),
      trivial⟩) ?_
  intro u w1 k1 hu
  have e22 : u 0 = (.agg #[.bool n1, .slice A l c, .int .i64 e1]) := hu 0 (by decide)
  have e23 : u 1 = (.agg #[.bool n5, .slice A5 j5 c5, .int .i64 e5]) := hu 1 (by decide)
  have e24 : u 2 = (.int .i64 c1) := hu 2 (by decide)
  have e25 : u 3 = (.bool (!q1)) := hu 3 (by decide)
  have e26 : u 4 = (.bool (!q1)) := hu 4 (by decide)
  have p27 := hu 5 (by decide)
  have p28 := hu 6 (by decide)
  have p29 := hu 7 (by decide)
  have p30 := hu 8 (by decide)
  have p31 := hu 9 (by decide)
  have e32 : u 10 = (.bool (!(q1 && q2))) := hu 10 (by decide)
  clear hu
  simp only [puts, slotOf, if_true, Act.put, List.setIfInBounds_toArray, List.set_cons_zero, List.set_cons_succ, List.getElem?_toArray, List.getElem?_cons_zero, List.getElem?_cons_succ, Option.bind_some, e22, e23, e24, e25, e26, e32]
  clear e22 e23 e24 e25 e26 e32
  generalize u 5 = v27 at *
  try simp only [VL, List.getD_cons_zero, List.getD_cons_succ] at p27
  generalize u 6 = v28 at *
  try simp only [VL, List.getD_cons_zero, List.getD_cons_succ] at p28
  generalize u 7 = v29 at *
  try simp only [VL, List.getD_cons_zero, List.getD_cons_succ] at p29
  generalize u 8 = v30 at *
  try simp only [VL, List.getD_cons_zero, List.getD_cons_succ] at p30
  generalize u 9 = v31 at *
  try simp only [VL, List.getD_cons_zero, List.getD_cons_succ] at p31
  clear p27 p28 p29 p30 p31 C1 C2 CN Q1 Q2
  replace K := Lib.hid (K.out.trans k1)
  replace HA := Lib.hid (HA.out.kept k1)
  clear k1
  rcases (bools (q1 && q2)).symm with hg | hg
  · rw [hg]
    have hm := HM.out
    rw [hg] at hm
    have HM2 : Hid ((4 : Int) = res) := by rw [← hm]; exact rfl
    clear HM hm hg
    go_wp2_with fail
    go_ret
    exact ⟨ret_int HM2.out, K.out⟩
  rw [hg]
  have hm := HM.out
  rw [hg] at hm
  have HM2 : Hid ((if e1 < -400 then (2 : Int) else 0) = res) := by rw [← hm]; exact rfl
  clear HM hm hg
  obtain ⟨-, a0, a1, a2, -⟩ := HA.out.facts
  by_cases he : e1 < -400
  · have d1 : decide (e1 < -400) = true := by simp [he]
    rw [if_pos he] at HM2
    clear he
    go_wp2_with fail
    go_ret
    exact ⟨ret_int HM2.out, K.out⟩
  · have d1 : decide (e1 < -400) = false := by simp; omega
    rw [if_neg he] at HM2
    clear he
    go_wp2_with fail
    go_ret
    exact ⟨ret_int HM2.out, K.out⟩

end Go.Proofs.YtjdplcenniogdaaDoor
