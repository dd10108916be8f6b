/- What layer 7 tells of a few: told. -/
import Derived.Test.YtjdplcenniogdaaDoorZExH
import Derived.Test.YtjdplcenniogdaaDoorZExP
import Derived.Test.YtjdplcenniogdaaDoorZExQ
import Derived.Test.YtjdplcenniogdaaDoorClaimTurnsp20
namespace Go.Proofs.YtjdplcenniogdaaDoor
open Go.RowKit

theorem lim_newN {w : World} {b : Nat} {n : Nat} {T : TypeId} (hn : n < 18446744073709551616) (h : w.heap[b]? = some (.cells #[.int .u64 (n : Int)] T (0, 0))) : Lim w (.slice (some ⟨b, 0, none⟩) 1 1) [n] := by
  refine ⟨fun x hx => by simp at hx; omega, some ⟨b, 0, none⟩, 1, rfl, Nat.le_refl _, fun _ => ⟨b, 0, rfl, (Array.getElem?_eq_some_iff.1 h).1, fun i hi => ?_⟩⟩
  have hi : i < 1 := hi
  obtain rfl : i = 0 := by omega
  exact cell_of_block h 0 _ rfl
theorem dy_newN (w : World) {n : Nat} (hn : n < 18446744073709551616) : DyR (w.alloc (.cells #[.int .u64 (n : Int)] 28)) (.agg #[.bool false, .slice (some ⟨w.heap.size, 0, none⟩) 1 1, .int .i64 0]) ⟨false, [n], 0⟩ :=
  ⟨_, rfl, lim_newN hn (heap_alloc_new _ _), by show (-9223372036854775808 : Int) ≤ 0; decide, by show (0 : Int) ≤ 9223372036854775807; decide⟩
theorem e173_raw : e173.raw = ⟨false, [173], -6⟩ := by
  have : limbs 173 = [173] := by rw [limbs_pos 173 (by decide)]; simp [limbs_zero]
  unfold Dy.raw e173; simp only [this]
theorem one_raw : one.raw = ⟨false, [1], 0⟩ := d1_raw

set_option maxHeartbeats 4000000 in
set_option maxRecDepth 100000 in
theorem told7_c {w : World} (hT : Tab w) : Calls Tryd.prog 8 #[] w (RetK (.bool true) w) := by
  obtain ⟨o1, ho1⟩ : ∃ o : Outc Raw, o = ⟨one.raw, 0⟩ := ⟨_, rfl⟩
  obtain ⟨o2, ho2⟩ : ∃ o : Outc Raw, o = ⟨one.raw, 0⟩ := ⟨_, rfl⟩
  obtain ⟨o3, ho3⟩ : ∃ o : Outc Raw, o = ⟨rz, 4⟩ := ⟨_, rfl⟩
  obtain ⟨o4, ho4⟩ : ∃ o : Outc Raw, o = ⟨rz, 1⟩ := ⟨_, rfl⟩
  have C1 := Lib.hid (fun w1 (k : Kept w w1) => show Calls Tryd.prog 11 #[.agg #[.bool false, .slice none 0 0, .int .i64 0], .int .i64 30, .bool false] w1 (RetE o1 w1) by
    rw [ho1]; exact xexp0_c (d := dz) (by rw [dz_raw]; exact dyR_zero _) dz_ok (hT.kept k) may0 rfl)
  have C2 := Lib.hid (fun w1 (k : Kept w w1) => show Calls Tryd.prog 11 #[.agg #[.bool false, .slice none 0 0, .int .i64 0], .int .i64 30, .bool true] w1 (RetE o2 w1) by
    rw [ho2]; exact xexp0_c (d := dz) (by rw [dz_raw]; exact dyR_zero _) dz_ok (hT.kept k) may0 rfl)
  have C3 := Lib.hid (fun w1 v (k : Kept w w1) (h : DyR w1 v ⟨false, [65], 0⟩) => show Calls Tryd.prog 11 #[v, .int .i64 30, .bool true] w1 (RetE o3 w1) by
    have h := xexpE_c (p := 30) (up := true) h (by decide) (hT.kept k) (by rw [may65]; decide)
    rw [may65] at h; rwa [ho3])
  have C4 := Lib.hid (fun w1 (k : Kept w w1) => show Calls Tryd.prog 11 #[.agg #[.bool false, .slice none 0 0, .int .i64 0], .int .i64 0, .bool true] w1 (RetE o4 w1) by
    have h := xexpE_c (w := w1) (v := .agg #[.bool false, .slice none 0 0, .int .i64 0]) (r := dz.raw) (p := 0) (up := true) (by rw [dz_raw]; exact dyR_zero _) (by have := dy_len dz_ok; omega) (hT.kept k) (by rw [may00]; decide)
    rw [may00] at h; rwa [ho4])
  have C5 := Lib.hid (fun w1 v (k : Kept w w1) (h : DyR w1 v ⟨false, [1], 0⟩) => show Calls Tryd.prog 11 #[v, .int .i64 8, .bool false] w1 (RetE ⟨⟨false, [173], -6⟩, 0⟩ w1) by
    rw [← one_raw] at h
    have h := xexp1_c (p := 8) (f := 10) (up := false) h d1_ok (by decide) (by decide) (hT.kept k) may1 (by decide) (by rw [bndR1]; exact hL1) (by rw [bndR1]; exact hH1) (by decide) (lo := bndD 48 false one oL) (hi := bndD 48 true one oH) rfl
      (sqrN_ok _ _ _ _ (nearD_ok (nearG_ok _ _ _ _ hL1 d1_ok d1_ok))) (sqrN_ok _ _ _ _ (nearD_ok (nearG_ok _ _ _ _ hH1 d1_ok d1_ok))) rL rH
    rwa [e173_raw] at h)
  have K1 : Hid (o1.k = 0) := by rw [ho1]; exact rfl
  have K2 : Hid (o2.k = 0) := by rw [ho2]; exact rfl
  have K3 : Hid (o3.k = 4) := by rw [ho3]; exact rfl
  have K4 : Hid (o4.k = 1) := by rw [ho4]; exact rfl
  have CS1 := Lib.hid (fun w1 v u (h : DyR w1 v o1.v) (h2 : DyR w1 u ⟨false, [1], 0⟩) => show Calls Tryd.prog 12 #[v, u] w1 (RetK (.bool true) w1) by
    rw [ho1] at h
    rw [← one_raw] at h2
    have h := dsame_c h h2 (by have := dy_len d1_ok; show one.raw.m.length ≤ _; exact Nat.le_trans this (by decide))
    have e : sameR one.raw one.raw = true := by unfold sameR; simp
    rwa [e] at h)
  have CS2 := Lib.hid (fun w1 v u (h : DyR w1 v o2.v) (h2 : DyR w1 u o1.v) => show Calls Tryd.prog 12 #[v, u] w1 (RetK (.bool true) w1) by
    rw [ho2] at h
    rw [ho1] at h2
    have h := dsame_c h h2 (by have := dy_len d1_ok; show one.raw.m.length ≤ _; exact Nat.le_trans this (by decide))
    have e : sameR one.raw one.raw = true := by unfold sameR; simp
    rwa [e] at h)
  have K : Hid (Kept w w) := Below.refl _ _
  clear ho1 ho2 ho3 ho4 hT
  go_enter Tryd.func8, Tryd.ntmps8
  go_wp2_with fail
  refine (C1.out _ K.out).mono ?_
  rintro e w1 ⟨q, u, rfl, hd⟩
  obtain ⟨P1, p1, q1, rfl, z1⟩ := rawR_split hd
  simp only []
  obtain ⟨V, hV, kV, hb, lV⟩ := boxF w1 (.bool o1.v.neg) (.slice P1 p1 q1) (.int .i64 o1.v.e)
  have HV := Lib.hid hV
  have kk := q.trans kV
  skip
  replace K := Lib.hid (K.out.trans kk)
  skip
  have H1 := Lib.hid hb
  have Z1 := Lib.hid (z1.kept kV)
  clear hV kV hb lV kk q hd z1 C1
  go_upto_region 2 with fail
  rw [← HV.out]
  clear HV
  generalize w1.heap.size = b1 at *
  go_wp2_with fail
  refine (C2.out _ K.out).mono ?_
  rintro e w1 ⟨q, u, rfl, hd⟩
  obtain ⟨P2, p2, q2, rfl, z1⟩ := rawR_split hd
  simp only []
  obtain ⟨V, hV, kV, hb, lV⟩ := boxF w1 (.bool o2.v.neg) (.slice P2 p2 q2) (.int .i64 o2.v.e)
  have HV := Lib.hid hV
  have kk := q.trans kV
  have l1 : b1 < w1.heap.size := Nat.lt_of_lt_of_le H1.out.facts.1 q.size
  replace K := Lib.hid (K.out.trans kk)
  replace H1 := Lib.hid (H1.out.kept kk); replace Z1 := Lib.hid (Z1.out.kept kk)
  have H2 := Lib.hid hb
  have Z2 := Lib.hid (z1.kept kV)
  clear hV kV hb lV kk q hd z1 C2
  go_upto_region 3 with fail
  rw [← HV.out]
  clear HV
  generalize w1.heap.size = b2 at *
  go_wp2_with fail
  refine (C3.out _ _ (K.out.trans (kept_alloc _ _)) (dy_newN V (n := 65) (by decide))).mono ?_
  rintro e w1 ⟨q, u, rfl, hd⟩
  obtain ⟨P3, p3, q3, rfl, z1⟩ := rawR_split hd
  simp only []
  obtain ⟨V, hV, kV, hb, lV⟩ := boxF w1 (.bool o3.v.neg) (.slice P3 p3 q3) (.int .i64 o3.v.e)
  have HV := Lib.hid hV
  have kk := Kept.trans (kept_alloc _ _) (q.trans kV)
  skip
  replace K := Lib.hid (K.out.trans kk)
  replace H1 := Lib.hid (H1.out.kept kk); replace Z1 := Lib.hid (Z1.out.kept kk); replace H2 := Lib.hid (H2.out.kept kk); replace Z2 := Lib.hid (Z2.out.kept kk)
  have H3 := Lib.hid hb
  have Z3 := Lib.hid (z1.kept kV)
  clear hV kV hb lV kk q hd z1 C3 H3 Z3
  go_upto_region 4 with fail
  rw [← HV.out]
  clear HV
  generalize w1.heap.size = b3 at *
  go_wp2_with fail
  refine (C4.out _ K.out).mono ?_
  rintro e w1 ⟨q, u, rfl, hd⟩
  obtain ⟨P4, p4, q4, rfl, z1⟩ := rawR_split hd
  simp only []
  obtain ⟨V, hV, kV, hb, lV⟩ := boxF w1 (.bool o4.v.neg) (.slice P4 p4 q4) (.int .i64 o4.v.e)
  have HV := Lib.hid hV
  have kk := q.trans kV
  skip
  replace K := Lib.hid (K.out.trans kk)
  replace H1 := Lib.hid (H1.out.kept kk); replace Z1 := Lib.hid (Z1.out.kept kk); replace H2 := Lib.hid (H2.out.kept kk); replace Z2 := Lib.hid (Z2.out.kept kk)
  have H4 := Lib.hid hb
  have Z4 := Lib.hid (z1.kept kV)
  clear hV kV hb lV kk q hd z1 C4 H4 Z4
  go_upto_region 5 with fail
  rw [← HV.out]
  clear HV
  generalize w1.heap.size = b4 at *
  go_wp2_with fail
  refine (C5.out _ _ (K.out.trans (kept_alloc _ _)) (dy_newN V (n := 1) (by decide))).mono ?_
  rintro e w1 ⟨q, u, rfl, hd⟩
  have hd2 := hd
  obtain ⟨s, rfl, ⟨-, A5, c5, rfl, hc5, hA⟩, -, -⟩ := hd
  obtain ⟨g5, off5, rfl, hg5, hcell⟩ := hA (by decide)
  have hc0 := hcell 0 (by decide)
  simp only []
  obtain ⟨V5, hV, kV, hb, lV⟩ := boxF w1 (.bool false) (.slice (some ⟨g5, off5, none⟩) 1 c5) (.int .i64 (-6))
  have HV := Lib.hid hV
  have kk := Kept.trans (kept_alloc _ _) (q.trans kV)
  replace K := Lib.hid (K.out.trans kk)
  replace H1 := Lib.hid (H1.out.kept kk)
  replace Z1 := Lib.hid (Z1.out.kept kk)
  replace H2 := Lib.hid (H2.out.kept kk)
  replace Z2 := Lib.hid (Z2.out.kept kk)
  have H5 := Lib.hid hb
  have CC : Hid (∀ w', Kept V5 w' → w'.cell? ⟨g5, off5, none⟩ = some (.int .u64 173)) := fun w' k => (k.cell (p := ⟨g5, off5, none⟩) (Nat.lt_of_lt_of_le hg5 kV.size)).trans ((kV.cell (p := ⟨g5, off5, none⟩) hg5).trans hc0)
  clear hV kV hb lV kk q hd2 hA hcell hc0 hg5 C5
  go_upto_region 6 with fail
  rw [← HV.out]
  clear HV
  generalize w1.heap.size = b5 at *
  rw [K1.out, K2.out, K3.out, K4.out]
  refine region_seq (m := 44) (V := VL [
      (fun v _ => v = .int .i64 0),
      (fun v _ => v = .int .i64 0),
      (fun v _ => v = (.int .i64 0)),
      (fun v _ => v = .int .i64 0),
      (fun v _ => v = (.int .i64 0)),
      (fun v _ => v = (.bool true)),
      (fun v _ => v = (.bool true)),
      (fun v _ => v = (.agg #[.bool o1.v.neg, .slice P1 p1 q1, .int .i64 o1.v.e])),
      (fun v wv => ∃ b, v = .slice (some ⟨b, 0, none⟩) 1 1 ∧ Lim wv (.slice (some ⟨b, 0, none⟩) 1 1) [1]),
      (fun v wv => DyR wv v ⟨false, [1], 0⟩),
      (fun v _ => v = (.bool true)),
      (fun v _ => v = (.bool true)),
      (fun v _ => v = (.bool true)),
      (fun v _ => v = (.agg #[.bool o2.v.neg, .slice P2 p2 q2, .int .i64 o2.v.e])),
      (fun v _ => v = (.agg #[.bool o1.v.neg, .slice P1 p1 q1, .int .i64 o1.v.e])),
      (fun v _ => v = (.bool true)),
      (fun v _ => v = (.bool true)),
      (fun v _ => v = (.bool true)),
      (fun v _ => v = .int .i64 4),
      (fun v _ => v = (.bool true)),
      (fun v _ => v = (.bool true)),
      (fun v _ => v = (.bool true)),
      (fun v _ => v = .int .i64 1),
      (fun v _ => v = (.bool true)),
      (fun v _ => v = (.bool true)),
      (fun v _ => v = (.bool true)),
      (fun v _ => v = (.pointer (some ⟨b5, 1, none⟩))),
      (fun v _ => v = (.slice (some ⟨g5, off5, none⟩) 1 c5)),
      (fun v _ => v = (.int .i64 1)),
      (fun v _ => v = (.bool true)),
      (fun v _ => v = (.bool true)),
      (fun v _ => v = (.bool true)),
      (fun v _ => v = (.pointer (some ⟨b5, 1, none⟩))),
      (fun v _ => v = (.slice (some ⟨g5, off5, none⟩) 1 c5)),
      (fun v _ => v = (.pointer (some ⟨g5, off5, none⟩))),
      (fun v _ => v = (.int .u64 173)),
      (fun v _ => v = (.bool true)),
      (fun v _ => v = (.bool true)),
      (fun v _ => v = (.bool true)),
      (fun v _ => v = (.pointer (some ⟨b5, 2, none⟩))),
      (fun v _ => v = (.int .i64 (-6))),
      (fun v _ => v = (.bool true)),
      (fun v _ => v = (.bool true)),
      (fun v _ => v = (.bool true))])
    rfl (by kernel_rfl) (by kernel_rfl) (by kernel_rfl) (mono_of _ ⟨mono_eq _, mono_eq _, mono_eq _, mono_eq _, mono_eq _, mono_eq _, mono_eq _, mono_eq _, fun v w w' k h => by obtain ⟨b, h1, h2⟩ := h; exact ⟨b, h1, h2.kept k⟩, fun v w w' k h => by first | exact h | exact h.kept k | exact ⟨h.1, h.2.kept k⟩, mono_eq _, mono_eq _, mono_eq _, mono_eq _, mono_eq _, mono_eq _, mono_eq _, mono_eq _, mono_eq _, mono_eq _, mono_eq _, mono_eq _, mono_eq _, mono_eq _, mono_eq _, mono_eq _, mono_eq _, mono_eq _, mono_eq _, mono_eq _, mono_eq _, mono_eq _, mono_eq _, mono_eq _, mono_eq _, mono_eq _, mono_eq _, mono_eq _, mono_eq _, mono_eq _, mono_eq _, mono_eq _, mono_eq _, mono_eq _, trivial⟩) (steps_of ⟨
      (fun aF wF F => by
    have s2 : aF.tmps.getD 2 undef = .int .i64 0 := F.old 2 (by kernel_rfl)
    exact step_val (by simp [Region.wanted]) (by go_simp) rfl),
      (fun aF wF F => by
    have s4 : aF.tmps.getD 4 undef = .int .i64 0 := F.old 4 (by kernel_rfl)
    exact step_val (by simp [Region.wanted]) (by go_simp) rfl),
      (fun aF wF F => by
    have s38 : aF.tmps.getD 38 undef = .int .i64 0 := F.done 0 38 (by kernel_rfl) rfl
    have s39 : aF.tmps.getD 39 undef = .int .i64 0 := F.done 1 39 (by kernel_rfl) rfl
    exact step_val (by simp [Region.wanted]) (by (go_simp; rfl)) rfl),
      (fun aF wF F => by
    have s10 : aF.tmps.getD 10 undef = .int .i64 0 := F.old 10 (by kernel_rfl)
    exact step_val (by simp [Region.wanted]) (by go_simp) rfl),
      (fun aF wF F => by
    have s40 : aF.tmps.getD 40 undef = (.int .i64 0) := F.done 2 40 (by kernel_rfl) rfl
    have s41 : aF.tmps.getD 41 undef = .int .i64 0 := F.done 3 41 (by kernel_rfl) rfl
    exact step_val (by simp [Region.wanted]) (by (go_simp; rfl)) rfl),
      (fun aF wF F => by
    have s42 : aF.tmps.getD 42 undef = (.int .i64 0) := F.done 4 42 (by kernel_rfl) rfl
    exact step_val (by simp [Region.wanted]) (by go_simp) rfl),
      (fun aF wF F => by
    have s43 : aF.tmps.getD 43 undef = (.bool true) := F.done 5 43 (by kernel_rfl) rfl
    exact step_val (by simp [Region.wanted]) (by go_simp) rfl),
      (fun aF wF F => by
    have s1 : aF.tmps.getD 1 undef = (.pointer (some ⟨b1, 0, none⟩)) := F.old 1 (by kernel_rfl)
    have c0 := cell_at H1.out F.kept 0 _ rfl
    have c1 := cell_at H1.out F.kept 1 _ rfl
    have c2 := cell_at H1.out F.kept 2 _ rfl
    have sg : aF.tmps.getD 44 undef = (.bool true) := F.done 6 44 (by kernel_rfl) rfl
    exact step_val ((wanted_guard rfl rfl sg).trans rfl) (by go_simp) rfl),
      (fun aF wF F => by
    have sg : aF.tmps.getD 44 undef = (.bool true) := F.done 6 44 (by kernel_rfl) rfl
    exact step_new ((wanted_guard rfl rfl sg).trans rfl) (by first | (go_simp; done) | (go_simp; rfl)) (kept_alloc _ _) ⟨_, rfl, lim_new1 (T := 28) (heap_alloc_new _ _)⟩),
      (fun aF wF F => by
    have s46 : (fun v wv => ∃ b, v = .slice (some ⟨b, 0, none⟩) 1 1 ∧ Lim wv (.slice (some ⟨b, 0, none⟩) 1 1) [1]) (aF.tmps.getD 46 undef) wF := F.done 8 46 (by kernel_rfl) rfl
    have sg : aF.tmps.getD 44 undef = (.bool true) := F.done 6 44 (by kernel_rfl) rfl
    obtain ⟨b, ee, hh⟩ := s46; simp only [Array.getD_eq_getD_getElem?] at ee; exact step_val ((wanted_guard rfl rfl sg).trans rfl) (by go_simp) ⟨_, rfl, hh, by decide, by decide⟩),
      (fun aF wF F => by
    have s45 : aF.tmps.getD 45 undef = (.agg #[.bool o1.v.neg, .slice P1 p1 q1, .int .i64 o1.v.e]) := F.done 7 45 (by kernel_rfl) rfl
    have s47 : (fun v wv => DyR wv v ⟨false, [1], 0⟩) (aF.tmps.getD 47 undef) wF := F.done 9 47 (by kernel_rfl) rfl
    have sg : aF.tmps.getD 44 undef = (.bool true) := F.done 6 44 (by kernel_rfl) rfl
    exact step_good ((wanted_guard rfl rfl sg).trans rfl) (by go_simp) (CS1.out _ _ _ (Z1.out.kept F.kept) s47) (fun _ _ h => RetK.good h) (fun _ _ h => h)),
      (fun aF wF F => by
    have s44 : aF.tmps.getD 44 undef = (.bool true) := F.done 6 44 (by kernel_rfl) rfl
    have s48 : aF.tmps.getD 48 undef = (.bool true) := F.done 10 48 (by kernel_rfl) rfl
    exact step_val (by simp [Region.wanted]) (by go_simp) rfl),
      (fun aF wF F => by
    have s49 : aF.tmps.getD 49 undef = (.bool true) := F.done 11 49 (by kernel_rfl) rfl
    exact step_val (by simp [Region.wanted]) (by go_simp) rfl),
      (fun aF wF F => by
    have s3 : aF.tmps.getD 3 undef = (.pointer (some ⟨b2, 0, none⟩)) := F.old 3 (by kernel_rfl)
    have c0 := cell_at H2.out F.kept 0 _ rfl
    have c1 := cell_at H2.out F.kept 1 _ rfl
    have c2 := cell_at H2.out F.kept 2 _ rfl
    have sg : aF.tmps.getD 50 undef = (.bool true) := F.done 12 50 (by kernel_rfl) rfl
    exact step_val ((wanted_guard rfl rfl sg).trans rfl) (by go_simp) rfl),
      (fun aF wF F => by
    have s1 : aF.tmps.getD 1 undef = (.pointer (some ⟨b1, 0, none⟩)) := F.old 1 (by kernel_rfl)
    have c0 := cell_at H1.out F.kept 0 _ rfl
    have c1 := cell_at H1.out F.kept 1 _ rfl
    have c2 := cell_at H1.out F.kept 2 _ rfl
    have sg : aF.tmps.getD 50 undef = (.bool true) := F.done 12 50 (by kernel_rfl) rfl
    exact step_val ((wanted_guard rfl rfl sg).trans rfl) (by go_simp) rfl),
      (fun aF wF F => by
    have s51 : aF.tmps.getD 51 undef = (.agg #[.bool o2.v.neg, .slice P2 p2 q2, .int .i64 o2.v.e]) := F.done 13 51 (by kernel_rfl) rfl
    have s52 : aF.tmps.getD 52 undef = (.agg #[.bool o1.v.neg, .slice P1 p1 q1, .int .i64 o1.v.e]) := F.done 14 52 (by kernel_rfl) rfl
    have sg : aF.tmps.getD 50 undef = (.bool true) := F.done 12 50 (by kernel_rfl) rfl
    exact step_good ((wanted_guard rfl rfl sg).trans rfl) (by go_simp) (CS2.out _ _ _ (Z2.out.kept F.kept) (Z1.out.kept F.kept)) (fun _ _ h => RetK.good h) (fun _ _ h => h)),
      (fun aF wF F => by
    have s50 : aF.tmps.getD 50 undef = (.bool true) := F.done 12 50 (by kernel_rfl) rfl
    have s53 : aF.tmps.getD 53 undef = (.bool true) := F.done 15 53 (by kernel_rfl) rfl
    exact step_val (by simp [Region.wanted]) (by go_simp) rfl),
      (fun aF wF F => by
    have s54 : aF.tmps.getD 54 undef = (.bool true) := F.done 16 54 (by kernel_rfl) rfl
    exact step_val (by simp [Region.wanted]) (by go_simp) rfl),
      (fun aF wF F => by
    have s6 : aF.tmps.getD 6 undef = .int .i64 4 := F.old 6 (by kernel_rfl)
    have sg : aF.tmps.getD 55 undef = (.bool true) := F.done 17 55 (by kernel_rfl) rfl
    exact step_val ((wanted_guard rfl rfl sg).trans rfl) (by go_simp) rfl),
      (fun aF wF F => by
    have s56 : aF.tmps.getD 56 undef = .int .i64 4 := F.done 18 56 (by kernel_rfl) rfl
    have sg : aF.tmps.getD 55 undef = (.bool true) := F.done 17 55 (by kernel_rfl) rfl
    exact step_val ((wanted_guard rfl rfl sg).trans rfl) (by go_simp) rfl),
      (fun aF wF F => by
    have s55 : aF.tmps.getD 55 undef = (.bool true) := F.done 17 55 (by kernel_rfl) rfl
    have s57 : aF.tmps.getD 57 undef = (.bool true) := F.done 19 57 (by kernel_rfl) rfl
    exact step_val (by simp [Region.wanted]) (by go_simp) rfl),
      (fun aF wF F => by
    have s58 : aF.tmps.getD 58 undef = (.bool true) := F.done 20 58 (by kernel_rfl) rfl
    exact step_val (by simp [Region.wanted]) (by go_simp) rfl),
      (fun aF wF F => by
    have s8 : aF.tmps.getD 8 undef = .int .i64 1 := F.old 8 (by kernel_rfl)
    have sg : aF.tmps.getD 59 undef = (.bool true) := F.done 21 59 (by kernel_rfl) rfl
    exact step_val ((wanted_guard rfl rfl sg).trans rfl) (by go_simp) rfl),
      (fun aF wF F => by
    have s60 : aF.tmps.getD 60 undef = .int .i64 1 := F.done 22 60 (by kernel_rfl) rfl
    have sg : aF.tmps.getD 59 undef = (.bool true) := F.done 21 59 (by kernel_rfl) rfl
    exact step_val ((wanted_guard rfl rfl sg).trans rfl) (by go_simp) rfl),
      (fun aF wF F => by
    have s59 : aF.tmps.getD 59 undef = (.bool true) := F.done 21 59 (by kernel_rfl) rfl
    have s61 : aF.tmps.getD 61 undef = (.bool true) := F.done 23 61 (by kernel_rfl) rfl
    exact step_val (by simp [Region.wanted]) (by go_simp) rfl),
      (fun aF wF F => by
    have s62 : aF.tmps.getD 62 undef = (.bool true) := F.done 24 62 (by kernel_rfl) rfl
    exact step_val (by simp [Region.wanted]) (by go_simp) rfl),
      (fun aF wF F => by
    have s9 : aF.tmps.getD 9 undef = (.pointer (some ⟨b5, 0, none⟩)) := F.old 9 (by kernel_rfl)
    have sg : aF.tmps.getD 63 undef = (.bool true) := F.done 25 63 (by kernel_rfl) rfl
    exact step_val ((wanted_guard rfl rfl sg).trans rfl) (by go_simp) rfl),
      (fun aF wF F => by
    have s64 : aF.tmps.getD 64 undef = (.pointer (some ⟨b5, 1, none⟩)) := F.done 26 64 (by kernel_rfl) rfl
    have c0 := cell_at H5.out F.kept 1 _ rfl
    have sg : aF.tmps.getD 63 undef = (.bool true) := F.done 25 63 (by kernel_rfl) rfl
    exact step_val ((wanted_guard rfl rfl sg).trans rfl) (by go_simp) rfl),
      (fun aF wF F => by
    have s65 : aF.tmps.getD 65 undef = (.slice (some ⟨g5, off5, none⟩) 1 c5) := F.done 27 65 (by kernel_rfl) rfl
    have sg : aF.tmps.getD 63 undef = (.bool true) := F.done 25 63 (by kernel_rfl) rfl
    exact step_val ((wanted_guard rfl rfl sg).trans rfl) (by go_simp) rfl),
      (fun aF wF F => by
    have s66 : aF.tmps.getD 66 undef = (.int .i64 1) := F.done 28 66 (by kernel_rfl) rfl
    have sg : aF.tmps.getD 63 undef = (.bool true) := F.done 25 63 (by kernel_rfl) rfl
    exact step_val ((wanted_guard rfl rfl sg).trans rfl) (by go_simp) rfl),
      (fun aF wF F => by
    have s63 : aF.tmps.getD 63 undef = (.bool true) := F.done 25 63 (by kernel_rfl) rfl
    have s67 : aF.tmps.getD 67 undef = (.bool true) := F.done 29 67 (by kernel_rfl) rfl
    exact step_val (by simp [Region.wanted]) (by go_simp) rfl),
      (fun aF wF F => by
    have s68 : aF.tmps.getD 68 undef = (.bool true) := F.done 30 68 (by kernel_rfl) rfl
    exact step_val (by simp [Region.wanted]) (by go_simp) rfl),
      (fun aF wF F => by
    have s9 : aF.tmps.getD 9 undef = (.pointer (some ⟨b5, 0, none⟩)) := F.old 9 (by kernel_rfl)
    have sg : aF.tmps.getD 69 undef = (.bool true) := F.done 31 69 (by kernel_rfl) rfl
    exact step_val ((wanted_guard rfl rfl sg).trans rfl) (by go_simp) rfl),
      (fun aF wF F => by
    have s70 : aF.tmps.getD 70 undef = (.pointer (some ⟨b5, 1, none⟩)) := F.done 32 70 (by kernel_rfl) rfl
    have c0 := cell_at H5.out F.kept 1 _ rfl
    have sg : aF.tmps.getD 69 undef = (.bool true) := F.done 31 69 (by kernel_rfl) rfl
    exact step_val ((wanted_guard rfl rfl sg).trans rfl) (by go_simp) rfl),
      (fun aF wF F => by
    have s71 : aF.tmps.getD 71 undef = (.slice (some ⟨g5, off5, none⟩) 1 c5) := F.done 33 71 (by kernel_rfl) rfl
    have sg : aF.tmps.getD 69 undef = (.bool true) := F.done 31 69 (by kernel_rfl) rfl
    exact step_val ((wanted_guard rfl rfl sg).trans rfl) (by go_simp) rfl),
      (fun aF wF F => by
    have s72 : aF.tmps.getD 72 undef = (.pointer (some ⟨g5, off5, none⟩)) := F.done 34 72 (by kernel_rfl) rfl
    have sg : aF.tmps.getD 69 undef = (.bool true) := F.done 31 69 (by kernel_rfl) rfl
    exact step_val ((wanted_guard rfl rfl sg).trans rfl) (by (have hcc := CC.out _ F.kept; go_simp)) rfl),
      (fun aF wF F => by
    have s73 : aF.tmps.getD 73 undef = (.int .u64 173) := F.done 35 73 (by kernel_rfl) rfl
    have sg : aF.tmps.getD 69 undef = (.bool true) := F.done 31 69 (by kernel_rfl) rfl
    exact step_val ((wanted_guard rfl rfl sg).trans rfl) (by go_simp) rfl),
      (fun aF wF F => by
    have s69 : aF.tmps.getD 69 undef = (.bool true) := F.done 31 69 (by kernel_rfl) rfl
    have s74 : aF.tmps.getD 74 undef = (.bool true) := F.done 36 74 (by kernel_rfl) rfl
    exact step_val (by simp [Region.wanted]) (by go_simp) rfl),
      (fun aF wF F => by
    have s75 : aF.tmps.getD 75 undef = (.bool true) := F.done 37 75 (by kernel_rfl) rfl
    exact step_val (by simp [Region.wanted]) (by go_simp) rfl),
      (fun aF wF F => by
    have s9 : aF.tmps.getD 9 undef = (.pointer (some ⟨b5, 0, none⟩)) := F.old 9 (by kernel_rfl)
    have sg : aF.tmps.getD 76 undef = (.bool true) := F.done 38 76 (by kernel_rfl) rfl
    exact step_val ((wanted_guard rfl rfl sg).trans rfl) (by go_simp) rfl),
      (fun aF wF F => by
    have s77 : aF.tmps.getD 77 undef = (.pointer (some ⟨b5, 2, none⟩)) := F.done 39 77 (by kernel_rfl) rfl
    have c0 := cell_at H5.out F.kept 2 _ rfl
    have sg : aF.tmps.getD 76 undef = (.bool true) := F.done 38 76 (by kernel_rfl) rfl
    exact step_val ((wanted_guard rfl rfl sg).trans rfl) (by go_simp) rfl),
      (fun aF wF F => by
    have s78 : aF.tmps.getD 78 undef = (.int .i64 (-6)) := F.done 40 78 (by kernel_rfl) rfl
    have sg : aF.tmps.getD 76 undef = (.bool true) := F.done 38 76 (by kernel_rfl) rfl
    exact step_val ((wanted_guard rfl rfl sg).trans rfl) (by go_simp) rfl),
      (fun aF wF F => by
    have s76 : aF.tmps.getD 76 undef = (.bool true) := F.done 38 76 (by kernel_rfl) rfl
    have s79 : aF.tmps.getD 79 undef = (.bool true) := F.done 41 79 (by kernel_rfl) rfl
    exact step_val (by simp [Region.wanted]) (by go_simp) rfl),
      (fun aF wF F => by
    have s80 : aF.tmps.getD 80 undef = (.bool true) := F.done 42 80 (by kernel_rfl) rfl
    exact step_val (by simp [Region.wanted]) (by go_simp) rfl),
      trivial⟩) ?_
  intro u w1 k1 hu
  have e38 : u 0 = .int .i64 0 := hu 0 (by decide)
  have e39 : u 1 = .int .i64 0 := hu 1 (by decide)
  have e40 : u 2 = (.int .i64 0) := hu 2 (by decide)
  have e41 : u 3 = .int .i64 0 := hu 3 (by decide)
  have e42 : u 4 = (.int .i64 0) := hu 4 (by decide)
  have e43 : u 5 = (.bool true) := hu 5 (by decide)
  have e44 : u 6 = (.bool true) := hu 6 (by decide)
  have e45 : u 7 = (.agg #[.bool o1.v.neg, .slice P1 p1 q1, .int .i64 o1.v.e]) := hu 7 (by decide)
  have p46 := hu 8 (by decide)
  have p47 := hu 9 (by decide)
  have e48 : u 10 = (.bool true) := hu 10 (by decide)
  have e49 : u 11 = (.bool true) := hu 11 (by decide)
  have e50 : u 12 = (.bool true) := hu 12 (by decide)
  have e51 : u 13 = (.agg #[.bool o2.v.neg, .slice P2 p2 q2, .int .i64 o2.v.e]) := hu 13 (by decide)
  have e52 : u 14 = (.agg #[.bool o1.v.neg, .slice P1 p1 q1, .int .i64 o1.v.e]) := hu 14 (by decide)
  have e53 : u 15 = (.bool true) := hu 15 (by decide)
  have e54 : u 16 = (.bool true) := hu 16 (by decide)
  have e55 : u 17 = (.bool true) := hu 17 (by decide)
  have e56 : u 18 = .int .i64 4 := hu 18 (by decide)
  have e57 : u 19 = (.bool true) := hu 19 (by decide)
  have e58 : u 20 = (.bool true) := hu 20 (by decide)
  have e59 : u 21 = (.bool true) := hu 21 (by decide)
  have e60 : u 22 = .int .i64 1 := hu 22 (by decide)
  have e61 : u 23 = (.bool true) := hu 23 (by decide)
  have e62 : u 24 = (.bool true) := hu 24 (by decide)
  have e63 : u 25 = (.bool true) := hu 25 (by decide)
  have e64 : u 26 = (.pointer (some ⟨b5, 1, none⟩)) := hu 26 (by decide)
  have e65 : u 27 = (.slice (some ⟨g5, off5, none⟩) 1 c5) := hu 27 (by decide)
  have e66 : u 28 = (.int .i64 1) := hu 28 (by decide)
  have e67 : u 29 = (.bool true) := hu 29 (by decide)
  have e68 : u 30 = (.bool true) := hu 30 (by decide)
  have e69 : u 31 = (.bool true) := hu 31 (by decide)
  have e70 : u 32 = (.pointer (some ⟨b5, 1, none⟩)) := hu 32 (by decide)
  have e71 : u 33 = (.slice (some ⟨g5, off5, none⟩) 1 c5) := hu 33 (by decide)
  have e72 : u 34 = (.pointer (some ⟨g5, off5, none⟩)) := hu 34 (by decide)
  have e73 : u 35 = (.int .u64 173) := hu 35 (by decide)
  have e74 : u 36 = (.bool true) := hu 36 (by decide)
  have e75 : u 37 = (.bool true) := hu 37 (by decide)
  have e76 : u 38 = (.bool true) := hu 38 (by decide)
  have e77 : u 39 = (.pointer (some ⟨b5, 2, none⟩)) := hu 39 (by decide)
  have e78 : u 40 = (.int .i64 (-6)) := hu 40 (by decide)
  have e79 : u 41 = (.bool true) := hu 41 (by decide)
  have e80 : u 42 = (.bool true) := hu 42 (by decide)
  have e0 : u 43 = (.bool true) := hu 43 (by decide)
  clear hu
  simp only [puts, slotOf, if_true, Act.put, List.setIfInBounds_toArray, List.set_cons_zero, List.set_cons_succ, List.getElem?_toArray, List.getElem?_cons_zero, List.getElem?_cons_succ, Option.bind_some, e38, e39, e40, e41, e42, e43, e44, e45, e48, e49, e50, e51, e52, e53, e54, e55, e56, e57, e58, e59, e60, e61, e62, e63, e64, e65, e66, e67, e68, e69, e70, e71, e72, e73, e74, e75, e76, e77, e78, e79, e80, e0]
  clear e38 e39 e40 e41 e42 e43 e44 e45 e48 e49 e50 e51 e52 e53 e54 e55 e56 e57 e58 e59 e60 e61 e62 e63 e64 e65 e66 e67 e68 e69 e70 e71 e72 e73 e74 e75 e76 e77 e78 e79 e80 e0
  generalize u 8 = v46 at *
  try simp only [VL, List.getD_cons_zero, List.getD_cons_succ] at p46
  generalize u 9 = v47 at *
  try simp only [VL, List.getD_cons_zero, List.getD_cons_succ] at p47
  go_wp2_with fail
  go_ret
  exact ⟨rfl, K.out.trans k1⟩


end Go.Proofs.YtjdplcenniogdaaDoor
