/- Contracts of package arith, sixth part: Neg, Sqrt. -/
import Derived.Test.YtjdplcenniogdaaDoorClaimTurnsp33
import Derived.Deep.CutBlock
namespace Go.Proofs.YtjdplcenniogdaaDoor
open Go.RowKit

theorem ends_chain2 (o2 o4 : Outc Dy) : ends o2 o4 = chainL ⟨o2.v, o4.v⟩ [o2.k, o4.k] := by
  unfold ends Outc.bind
  simp only [chainL]
  by_cases h1 : o2.k = 0
  · simp only [h1, if_true, ne_eq, not_true_eq_false, if_false]
    by_cases h2 : o4.k = 0
    · simp only [h2, if_true, not_true_eq_false, if_false]
    · simp only [h2, if_false, not_false_eq_true, if_true]
  · simp only [h1, if_false, ne_eq, not_false_eq_true, if_true]

set_option maxHeartbeats 4000000 in
set_option maxRecDepth 100000 in
theorem neg1_c {w : World} {a : Iv} {p ba bp : Nat} (ha : a.Ok) (hT : Tab w) (p1 : 1 ≤ p) (p2 : p ≤ 2000) (ca : BlkIv w ba a) (cp : w.cell? ⟨bp, 0, none⟩ = some (.int .i64 p)) :
    Calls Tryd.prog 67 #[.pointer (some ⟨ba, 0, none⟩), .pointer (some ⟨bp, 0, none⟩)] w (Goes2 87 (rawO (negI a p)) w) := by
  obtain ⟨A, l, c, A', l', c', hba, x1, x2⟩ := ca
  obtain ⟨o2, ho2⟩ : ∃ o, o = dirD (negD a.hi) p false := ⟨_, rfl⟩
  obtain ⟨o4, ho4⟩ : ∃ o, o = dirD (negD a.lo) p true := ⟨_, rfl⟩
  have hres : negI a p = chainL ⟨o2.v, o4.v⟩ [o2.k, o4.k] := by unfold negI; rw [ends_chain2, ← ho2, ← ho4]
  rw [hres]
  have n1' := fun w1 (k : Kept w w1) => dneg_c (x2.kept k) (by have := dy_len ha.hi; omega)
  rw [negR_raw _ ha.hi] at n1'
  have n2' := fun w1 (k : Kept w w1) => dneg_c (x1.kept k) (by have := dy_len ha.lo; omega)
  rw [negR_raw _ ha.lo] at n2'
  have C1 := Lib.hid n1'
  have C3 := Lib.hid n2'
  have C2 := Lib.hid (fun w1 (k : Kept w w1) v (hv : DyR w1 v (negD a.hi).raw) => Down_c hv (negD_ok ha.hi) (hT.kept k) p1 p2)
  have C4 := Lib.hid (fun w1 (k : Kept w w1) v (hv : DyR w1 v (negD a.lo).raw) => Up_c hv (negD_ok ha.lo) (hT.kept k) p1 p2)
  rw [← ho2] at C2
  rw [← ho4] at C4
  clear n1' n2'
  obtain ⟨W, hW, kW, B3, B4⟩ := box2r w
  have HW := Lib.hid hW
  have K := Lib.hid kW
  have R3 := Lib.hid B3
  have R4 := Lib.hid B4
  have HA := Lib.hid hba
  have CP := Lib.hid cp
  have lp := lt_of_cell cp
  obtain ⟨la, -⟩ := hba.facts
  simp only at lp
  have hst := steps_chain ⟨o2.v, o4.v⟩ [o2.raw.k, o4.raw.k]
  obtain ⟨res, hres'⟩ : ∃ r, r = rawO (chainL ⟨o2.v, o4.v⟩ [o2.k, o4.k]) := ⟨_, rfl⟩
  have ST := Lib.hid (show StepsR res ⟨o2.raw.v, o4.raw.v⟩ [o2.raw.k, o4.raw.k] by rw [hres']; exact hst)
  rw [← hres']
  have BAD : Hid (∀ (k : Int) (w1 : World), Kept w w1 → k ≠ 0 → res = ⟨rzI, k⟩ → Goes2 87 res w (.panicked (failV 87 k)) w1) := fun k w1 kk hk he => by subst he; exact ⟨kk, .inr ⟨hk, rfl⟩⟩
  clear hW kW B3 B4 hba cp x1 x2 ha hT p1 p2 ho2 ho4 hres hres' hst
  generalize (negD a.hi).raw = m1 at *
  generalize (negD a.lo).raw = m2 at *
  generalize a.lo.neg = n1 at *
  generalize a.lo.e = e1 at *
  generalize a.hi.neg = n2 at *
  generalize a.hi.e = e2 at *
  go_enter Tryd.func67, Tryd.ntmps67
  go_wp2_with fail
  rw [← HW.out]
  refine region_lin1 (m := 9) (V := VL [
      (fun v _ => v = (.pointer (some ⟨ba, 3, none⟩))),
      (fun v _ => v = (.agg #[.bool n2, .slice A' l' c', .int .i64 e2])),
      (fun v wv => DyR wv v m1),
      (fun v _ => v = (.int .i64 p)),
      (fun v wv => (∃ d, v = .tuple #[d, .int .i64 o2.raw.k] ∧ DyR wv d o2.raw.v) ∧ (True)),
      (fun v wv => DyR wv v o2.raw.v ∧ (True)),
      (fun v _ => v = (.int .i64 o2.raw.k)),
      (fun v wv => (o2.raw.k = 0 ∧ (True)) ∧ DyR wv v o2.raw.v),
      (fun v wv => ∃ b, v = .pointer (some ⟨b, 0, none⟩) ∧ W.heap.size ≤ b ∧ Blk wv b (.bool false) (.slice none 0 0) (.int .i64 0))])
    (by kernel_rfl) rfl rfl rfl (by kernel_rfl) (by kernel_rfl) (by kernel_rfl) (by kernel_rfl) (mono_of _ ⟨mono_eq _, mono_eq _, fun v w w' k h => by first | exact h | exact h.kept k | exact ⟨h.1, h.2.kept k⟩, mono_eq _, fun v w w' k h => by obtain ⟨⟨d, h1, h2⟩, h3⟩ := h; exact ⟨⟨d, h1, h2.kept k⟩, h3⟩, fun v w w' k h => ⟨h.1.kept k, h.2⟩, mono_eq _, fun v w w' k h => by first | exact h | exact h.kept k | exact ⟨h.1, h.2.kept k⟩, fun v w w' k h => by obtain ⟨b, h1, h2, h3⟩ := h; exact ⟨b, h1, h2, h3.kept k⟩, trivial⟩) (steps_of ⟨
      (fun aF wF F => by
    have s0 : aF.tmps.getD 0 undef = (.pointer (some ⟨ba, 0, none⟩)) := F.old 0 (by kernel_rfl)
    exact step_val (by simp [Region.wanted]) (by go_simp) rfl),
      (fun aF wF F => by
    have s5 : aF.tmps.getD 5 undef = (.pointer (some ⟨ba, 3, none⟩)) := F.done 0 5 (by kernel_rfl) rfl
    have c0 := cell_at (HA.out.kept K.out) F.kept 3 _ rfl
    have c1 := cell_at (HA.out.kept K.out) F.kept 4 _ rfl
    have c2 := cell_at (HA.out.kept K.out) F.kept 5 _ rfl
    exact step_val (by simp [Region.wanted]) (by go_simp) rfl),
      (fun aF wF F => by
    have s6 : aF.tmps.getD 6 undef = (.agg #[.bool n2, .slice A' l' c', .int .i64 e2]) := F.done 1 6 (by kernel_rfl) rfl
    exact step_good (by simp [Region.wanted]) (by go_simp) (C1.out _ (K.out.trans F.kept)) (fun _ _ h => RetD.good h) (fun _ _ h => h)),
      (fun aF wF F => by
    have s1 : aF.tmps.getD 1 undef = (.pointer (some ⟨bp, 0, none⟩)) := F.old 1 (by kernel_rfl)
    exact step_val (by simp [Region.wanted]) (by have cq := cell_kept (K.out.trans F.kept) CP.out; go_simp) rfl),
      (fun aF wF F => by
    have s7 : (fun v wv => DyR wv v m1) (aF.tmps.getD 7 undef) wF := F.done 2 7 (by kernel_rfl) rfl
    have s8 : aF.tmps.getD 8 undef = (.int .i64 p) := F.done 3 8 (by kernel_rfl) rfl
    have hC : True := trivial; exact step_good (by simp [Region.wanted]) (by go_simp) (C2.out _ (K.out.trans F.kept) _ s7) (fun _ _ h => RetE.good h) (fun _ _ h => ⟨h, hC⟩)),
      (fun aF wF F => by
    have s9 : (fun v wv => (∃ d, v = .tuple #[d, .int .i64 o2.raw.k] ∧ DyR wv d o2.raw.v) ∧ (True)) (aF.tmps.getD 9 undef) wF := F.done 4 9 (by kernel_rfl) rfl
    obtain ⟨⟨dd, ee, hh⟩, hC⟩ := s9; exact step_val (by simp [Region.wanted]) (by go_simp) ⟨hh, hC⟩),
      (fun aF wF F => by
    have s9 : (fun v wv => (∃ d, v = .tuple #[d, .int .i64 o2.raw.k] ∧ DyR wv d o2.raw.v) ∧ (True)) (aF.tmps.getD 9 undef) wF := F.done 4 9 (by kernel_rfl) rfl
    exact step_val (by simp [Region.wanted]) (by obtain ⟨⟨dd, ee, hh⟩, -⟩ := s9; go_simp) rfl),
      (fun aF wF F => by
    have s10 : (fun v wv => DyR wv v o2.raw.v ∧ (True)) (aF.tmps.getD 10 undef) wF := F.done 5 10 (by kernel_rfl) rfl
    have s11 : aF.tmps.getD 11 undef = (.int .i64 o2.raw.k) := F.done 6 11 (by kernel_rfl) rfl
    have hC := s10.2; exact step_goes (by simp [Region.wanted]) (by go_simp) (sure_c (d := o2.v) (k := o2.raw.k) s10.1) (fun _ _ _ h0 h => ⟨⟨h0, hC⟩, h⟩) (fun w2 k2 h0 => ⟨F.defers, BAD.out _ _ (K.out.trans (F.kept.trans k2)) h0 (ST.out.1 h0)⟩)),
      (fun aF wF F => by
    exact step_new (by simp [Region.wanted]) (by go_simp) (kept_alloc _ _) ⟨_, rfl, F.kept.size, blk_new0 _⟩),
      trivial⟩) ?_
  intro u w1 k1 hu
  have e5 : u 0 = (.pointer (some ⟨ba, 3, none⟩)) := hu 0 (by decide)
  have e6 : u 1 = (.agg #[.bool n2, .slice A' l' c', .int .i64 e2]) := hu 1 (by decide)
  have p7 := hu 2 (by decide)
  have e8 : u 3 = (.int .i64 p) := hu 3 (by decide)
  have p9 := hu 4 (by decide)
  have p10 := hu 5 (by decide)
  have e11 : u 6 = (.int .i64 o2.raw.k) := hu 6 (by decide)
  have p12 := hu 7 (by decide)
  have p4 := hu 8 (by decide)
  clear hu
  simp only [puts, slotOf, if_true, Act.put, List.setIfInBounds_toArray, List.set_cons_zero, List.set_cons_succ, List.getElem?_toArray, List.getElem?_cons_zero, List.getElem?_cons_succ, Option.bind_some, e5, e6, e8, e11]
  clear e5 e6 e8 e11
  generalize u 2 = v7 at *
  try simp only [VL, List.getD_cons_zero, List.getD_cons_succ] at p7
  generalize u 4 = v9 at *
  try simp only [VL, List.getD_cons_zero, List.getD_cons_succ] at p9
  generalize u 5 = v10 at *
  try simp only [VL, List.getD_cons_zero, List.getD_cons_succ] at p10
  generalize u 7 = v12 at *
  try simp only [VL, List.getD_cons_zero, List.getD_cons_succ] at p12
  generalize u 8 = v4 at *
  try simp only [VL, List.getD_cons_zero, List.getD_cons_succ] at p4
  obtain ⟨bl, rfl, hbl, hB5⟩ := p4
  obtain ⟨⟨z1, -⟩, hd2⟩ := p12
  obtain ⟨A5, l5, c5, rfl, hd2⟩ := rawR_split hd2
  obtain ⟨lb5, c0, c1, c2, f0, f1, f2⟩ := hB5.facts
  have hsW := (Array.getElem?_eq_some_iff.1 R4.out).1
  have Z := Lib.hid z1
  have KX := Lib.hid (dyW_kept (x := .bool o2.raw.v.neg) (y := .slice A5 l5 c5) (z := .int .i64 o2.raw.v.e) (K.out.trans k1) (show w.heap.size ≤ bl by omega))
  have R3X := Lib.hid ((R3.out.kept k1).laid_other (b' := bl) (by omega) (.bool o2.raw.v.neg) (.slice A5 l5 c5) (.int .i64 o2.raw.v.e))
  have R4X := Lib.hid ((R4.out.kept k1).laid_other (b' := bl) (by omega) (.bool o2.raw.v.neg) (.slice A5 l5 c5) (.int .i64 o2.raw.v.e))
  have B5X := Lib.hid (hB5.laid (.bool o2.raw.v.neg) (.slice A5 l5 c5) (.int .i64 o2.raw.v.e))
  have D5X := Lib.hid (hd2.dyW hB5 (noLimb_bool _) (noLimb_slice _ _ _) (noLimb_i64 _) (.bool o2.raw.v.neg) (.slice A5 l5 c5) (.int .i64 o2.raw.v.e))
  clear z1 hd2 hB5 hsW p7 p9 p10 k1
  go_simp
  go_wp2_with fail
  change Code.wp _ _ _ _ (dyW w1 bl _ _ _)
  generalize dyW w1 bl (.bool o2.raw.v.neg) (.slice A5 l5 c5) (.int .i64 o2.raw.v.e) = X at *
  clear c0 c1 c2 f0 f1 f2 lb5
  refine region_lin2 (m := 9) (V := VL [
      (fun v _ => v = (.agg #[.bool o2.raw.v.neg, .slice A5 l5 c5, .int .i64 o2.raw.v.e])),
      (fun v _ => v = (.pointer (some ⟨ba, 0, none⟩))),
      (fun v _ => v = (.agg #[.bool n1, .slice A l c, .int .i64 e1])),
      (fun v wv => DyR wv v m2),
      (fun v _ => v = (.int .i64 p)),
      (fun v wv => (∃ d, v = .tuple #[d, .int .i64 o4.raw.k] ∧ DyR wv d o4.raw.v) ∧ (True)),
      (fun v wv => DyR wv v o4.raw.v ∧ (True)),
      (fun v _ => v = (.int .i64 o4.raw.k)),
      (fun v wv => (o4.raw.k = 0 ∧ (True)) ∧ DyR wv v o4.raw.v)])
    (by kernel_rfl) rfl rfl rfl rfl rfl (by kernel_rfl) (by kernel_rfl) (by kernel_rfl) (by kernel_rfl) (mono_of _ ⟨mono_eq _, mono_eq _, mono_eq _, fun v w w' k h => by first | exact h | exact h.kept k | exact ⟨h.1, h.2.kept k⟩, mono_eq _, fun v w w' k h => by obtain ⟨⟨d, h1, h2⟩, h3⟩ := h; exact ⟨⟨d, h1, h2.kept k⟩, h3⟩, fun v w w' k h => ⟨h.1.kept k, h.2⟩, mono_eq _, fun v w w' k h => by first | exact h | exact h.kept k | exact ⟨h.1, h.2.kept k⟩, trivial⟩) (steps_of ⟨
      (fun aF wF F => by
    have s4 : aF.tmps.getD 4 undef = (.pointer (some ⟨bl, 0, none⟩)) := F.old 4 (by kernel_rfl)
    have c0 := cell_at B5X.out F.kept 0 _ rfl
    have c1 := cell_at B5X.out F.kept 1 _ rfl
    have c2 := cell_at B5X.out F.kept 2 _ rfl
    exact step_val (by simp [Region.wanted]) (by go_simp) rfl),
      (fun aF wF F => by
    have s0 : aF.tmps.getD 0 undef = (.pointer (some ⟨ba, 0, none⟩)) := F.old 0 (by kernel_rfl)
    exact step_val (by simp [Region.wanted]) (by go_simp) rfl),
      (fun aF wF F => by
    have s14 : aF.tmps.getD 14 undef = (.pointer (some ⟨ba, 0, none⟩)) := F.done 1 14 (by kernel_rfl) rfl
    have c0 := cell_at (HA.out.kept KX.out) F.kept 0 _ rfl
    have c1 := cell_at (HA.out.kept KX.out) F.kept 1 _ rfl
    have c2 := cell_at (HA.out.kept KX.out) F.kept 2 _ rfl
    exact step_val (by simp [Region.wanted]) (by go_simp) rfl),
      (fun aF wF F => by
    have s15 : aF.tmps.getD 15 undef = (.agg #[.bool n1, .slice A l c, .int .i64 e1]) := F.done 2 15 (by kernel_rfl) rfl
    exact step_good (by simp [Region.wanted]) (by go_simp) (C3.out _ (KX.out.trans F.kept)) (fun _ _ h => RetD.good h) (fun _ _ h => h)),
      (fun aF wF F => by
    have s1 : aF.tmps.getD 1 undef = (.pointer (some ⟨bp, 0, none⟩)) := F.old 1 (by kernel_rfl)
    exact step_val (by simp [Region.wanted]) (by have cq := cell_kept (KX.out.trans F.kept) CP.out; go_simp) rfl),
      (fun aF wF F => by
    have s16 : (fun v wv => DyR wv v m2) (aF.tmps.getD 16 undef) wF := F.done 3 16 (by kernel_rfl) rfl
    have s17 : aF.tmps.getD 17 undef = (.int .i64 p) := F.done 4 17 (by kernel_rfl) rfl
    have hC : True := trivial; exact step_good (by simp [Region.wanted]) (by go_simp) (C4.out _ (KX.out.trans F.kept) _ s16) (fun _ _ h => RetE.good h) (fun _ _ h => ⟨h, hC⟩)),
      (fun aF wF F => by
    have s18 : (fun v wv => (∃ d, v = .tuple #[d, .int .i64 o4.raw.k] ∧ DyR wv d o4.raw.v) ∧ (True)) (aF.tmps.getD 18 undef) wF := F.done 5 18 (by kernel_rfl) rfl
    obtain ⟨⟨dd, ee, hh⟩, hC⟩ := s18; exact step_val (by simp [Region.wanted]) (by go_simp) ⟨hh, hC⟩),
      (fun aF wF F => by
    have s18 : (fun v wv => (∃ d, v = .tuple #[d, .int .i64 o4.raw.k] ∧ DyR wv d o4.raw.v) ∧ (True)) (aF.tmps.getD 18 undef) wF := F.done 5 18 (by kernel_rfl) rfl
    exact step_val (by simp [Region.wanted]) (by obtain ⟨⟨dd, ee, hh⟩, -⟩ := s18; go_simp) rfl),
      (fun aF wF F => by
    have s19 : (fun v wv => DyR wv v o4.raw.v ∧ (True)) (aF.tmps.getD 19 undef) wF := F.done 6 19 (by kernel_rfl) rfl
    have s20 : aF.tmps.getD 20 undef = (.int .i64 o4.raw.k) := F.done 7 20 (by kernel_rfl) rfl
    have hC := s19.2; exact step_goes (by simp [Region.wanted]) (by go_simp) (sure_c (d := o4.v) (k := o4.raw.k) s19.1) (fun _ _ _ h0 h => ⟨⟨h0, hC⟩, h⟩) (fun w2 k2 h0 => ⟨F.defers, BAD.out _ _ (KX.out.trans (F.kept.trans k2)) h0 ((ST.out.2 Z.out).1 h0)⟩)),
      trivial⟩) ?_
  intro u w1 k1 hu
  have e13 : u 0 = (.agg #[.bool o2.raw.v.neg, .slice A5 l5 c5, .int .i64 o2.raw.v.e]) := hu 0 (by decide)
  have e14 : u 1 = (.pointer (some ⟨ba, 0, none⟩)) := hu 1 (by decide)
  have e15 : u 2 = (.agg #[.bool n1, .slice A l c, .int .i64 e1]) := hu 2 (by decide)
  have p16 := hu 3 (by decide)
  have e17 : u 4 = (.int .i64 p) := hu 4 (by decide)
  have p18 := hu 5 (by decide)
  have p19 := hu 6 (by decide)
  have e20 : u 7 = (.int .i64 o4.raw.k) := hu 7 (by decide)
  have p21 := hu 8 (by decide)
  clear hu
  simp only [puts, slotOf, if_true, Act.put, List.setIfInBounds_toArray, List.set_cons_zero, List.set_cons_succ, List.getElem?_toArray, List.getElem?_cons_zero, List.getElem?_cons_succ, Option.bind_some, e13, e14, e15, e17, e20]
  clear e13 e14 e15 e17 e20
  generalize u 3 = v16 at *
  try simp only [VL, List.getD_cons_zero, List.getD_cons_succ] at p16
  generalize u 5 = v18 at *
  try simp only [VL, List.getD_cons_zero, List.getD_cons_succ] at p18
  generalize u 6 = v19 at *
  try simp only [VL, List.getD_cons_zero, List.getD_cons_succ] at p19
  generalize u 8 = v21 at *
  try simp only [VL, List.getD_cons_zero, List.getD_cons_succ] at p21
  obtain ⟨⟨z4, -⟩, hd4⟩ := p21
  obtain ⟨A6, l6, c6, rfl, hd4⟩ := rawR_split hd4
  have hres := (ST.out.2 Z.out).2 z4
  have r3 := R3X.out.kept k1
  have r4 := R4X.out.kept k1
  have hk := KX.out.trans k1
  have hd5 := D5X.out.kept k1
  obtain ⟨-, c0, c1, c2, f0, f1, f2⟩ := r3.facts
  obtain ⟨-, d0, d1, d2, g0, g1, g2⟩ := r4.facts
  obtain ⟨t1, t2, t3⟩ := two_laid (T := 87) hk (Nat.le_refl _) (Nat.le_succ _) (by omega) r3 r4 hd5 hd4 hres
  have T1 := Lib.hid t1
  have T2 := Lib.hid t2
  have T3 := Lib.hid t3
  clear t1 t2 t3 r3 r4 hk hd5 hd4 hres z4 p16 p18 p19 k1
  refine ⟨?_, ?_⟩
  · go_simp
    go_wp2_with fail
    exact ret_dydy T1.out T2.out rfl rfl rfl rfl T3.out
  · first
      | exact .inl (by kernel_rfl)
      | (right
         rw [dyW_swap _ (by omega)] at T1 T2 T3
         go_simp
         go_wp2_with fail
         exact ret_dydy T1.out T2.out rfl rfl rfl rfl T3.out)

theorem not_neg {d : Dy} (hd : d.Ok) (h : 0 ≤ d.q) : d.neg = false := by
  cases hn : d.neg
  · rfl
  · exfalso
    by_cases h0 : d.m = 0
    · have := (hd.zero h0).1; rw [hn] at this; cases this
    · have hs : sg d = -1 := by unfold sg; rw [if_neg h0, hn]; rfl
      have := (sg_neg hs).1
      grind

set_option maxHeartbeats 4000000 in
set_option maxRecDepth 100000 in
theorem sqrt1_c {w : World} {a : Iv} {p ba bp : Nat} (ha : a.Ok) (hT : Tab w) (p1 : 1 ≤ p) (p2 : p ≤ 2000) (ca : BlkIv w ba a) (cp : w.cell? ⟨bp, 0, none⟩ = some (.int .i64 p)) :
    Calls Tryd.prog 59 #[.pointer (some ⟨ba, 0, none⟩), .pointer (some ⟨bp, 0, none⟩)] w (Goes2 87 (rawO (sqrtI a p)) w) := by
  obtain ⟨A, l, c, A', l', c', hba, x1, x2⟩ := ca
  have sg1 := fun w1 (k : Kept w w1) => dsign_c (x1.kept k) (by have := dy_len ha.lo; omega)
  rw [sgnR_raw _ ha.lo] at sg1
  by_cases hneg : sg a.lo < 0
  · have hres : rawO (sqrtI a p) = ⟨rzI, 4⟩ := by unfold sqrtI; rw [if_pos hneg]; unfold rawO; rw [iz_raw]
    rw [hres]
    have hd : decide (0 ≤ sg a.lo) = false := by simp; omega
    obtain ⟨W, hW, kW, -, -⟩ := box2r w
    have HW := Lib.hid hW
    have K := Lib.hid kW
    have SG := Lib.hid sg1
    obtain ⟨la, c0, c1, c2, c3, c4, c5⟩ := hba.facts
    clear hW kW sg1 hba x1 x2 ha hT p1 p2 cp hneg hres
    generalize sg a.lo = g at *
    generalize a.lo.neg = n1 at *
    generalize a.lo.e = e1 at *
    generalize a.hi.neg = n2 at *
    generalize a.hi.e = e2 at *
    go_enter Tryd.func59, Tryd.ntmps59
    go_wp2_with (first
      | (go_at_call 22; rw [← HW.out]; refine (SG.out _ K.out).mono ?_; rintro e w1 ⟨rfl, q⟩; replace K := Lib.hid (K.out.trans q))
      | (go_at_call 48; refine (must_cA _ _ _).mono ?_; rintro e w3 ⟨he, rfl⟩; obtain rfl : e = .panicked (failV 87 _) := he))
    exact ⟨rfl, K.out, .inr ⟨by decide, rfl⟩⟩
  · have hlo : 0 ≤ a.lo.q := by rw [sg_q] at hneg; exact cmpQ_ge.1 (by omega)
    have hn1 := not_neg ha.lo hlo
    have hn2 := not_neg ha.hi (by have := ha.le; grind)
    have hd : decide (0 ≤ sg a.lo) = true := by simp; omega
    obtain ⟨o2, ho2⟩ : ∃ o, o = rootD a.lo p false := ⟨_, rfl⟩
    obtain ⟨o4, ho4⟩ : ∃ o, o = rootD a.hi p true := ⟨_, rfl⟩
    have hres : sqrtI a p = chainL ⟨o2.v, o4.v⟩ [o2.k, o4.k] := by unfold sqrtI; rw [if_neg hneg, ends_chain2, ← ho2, ← ho4]
    rw [hres]
    have r1 : rootZ a.lo p false = o2 := by unfold rootZ; rw [hn1, ho2]; rfl
    have r2 : rootZ a.hi p true = o4 := by unfold rootZ; rw [hn2, ho4]; rfl
    have C2 := Lib.hid (fun w1 (k : Kept w w1) => root_c (p := p) (up := false) (x1.kept k) ha.lo (hT.kept k) p1 p2)
    have C4 := Lib.hid (fun w1 (k : Kept w w1) => root_c (p := p) (up := true) (x2.kept k) ha.hi (hT.kept k) p1 p2)
    rw [r1] at C2
    rw [r2] at C4
    have SG := Lib.hid sg1
    clear r1 r2 sg1 hn1 hn2 hlo hneg
    obtain ⟨W, hW, kW, B3, B4⟩ := box2r w
    have HW := Lib.hid hW
    have K := Lib.hid kW
    have R3 := Lib.hid B3
    have R4 := Lib.hid B4
    have HA := Lib.hid hba
    have CP := Lib.hid cp
    have lp := lt_of_cell cp
    obtain ⟨la, -⟩ := hba.facts
    simp only at lp
    have hst := steps_chain ⟨o2.v, o4.v⟩ [o2.raw.k, o4.raw.k]
    obtain ⟨res, hres'⟩ : ∃ r, r = rawO (chainL ⟨o2.v, o4.v⟩ [o2.k, o4.k]) := ⟨_, rfl⟩
    have ST := Lib.hid (show StepsR res ⟨o2.raw.v, o4.raw.v⟩ [o2.raw.k, o4.raw.k] by rw [hres']; exact hst)
    rw [← hres']
    have BAD : Hid (∀ (k : Int) (w1 : World), Kept w w1 → k ≠ 0 → res = ⟨rzI, k⟩ → Goes2 87 res w (.panicked (failV 87 k)) w1) := fun k w1 kk hk he => by subst he; exact ⟨kk, .inr ⟨hk, rfl⟩⟩
    clear hW kW B3 B4 hba cp x1 x2 ha hT p1 p2 ho2 ho4 hres hres' hst
    generalize sg a.lo = g at *
    generalize a.lo.neg = n1 at *
    generalize a.lo.e = e1 at *
    generalize a.hi.neg = n2 at *
    generalize a.hi.e = e2 at *
    obtain ⟨-, c0, c1, c2, c3, c4, c5⟩ := HA.out.facts
    go_enter Tryd.func59, Tryd.ntmps59
    go_wp2_with fail
    rw [← HW.out]
    refine (SG.out _ K.out).mono ?_
    rintro e w5 ⟨rfl, q⟩
    simp only []
    go_wp2_with fail
    refine (must_trueA 4 _).mono ?_
    rintro e w6 ⟨rfl, q6⟩
    have kk := q.trans q6
    replace K := Lib.hid (K.out.trans kk)
    have hsW0 : w.heap.size + 1 < w6.heap.size := Nat.lt_of_lt_of_le (Array.getElem?_eq_some_iff.1 R4.out).1 kk.size
    replace R3 := Lib.hid (R3.out.kept kk)
    replace R4 := Lib.hid (R4.out.kept kk)
    clear kk q q6 c0 c1 c2 c3 c4 c5 HW hd
    simp only []
    go_upto_region 2 with fail
    refine region_seq1 (m := 8) (V := VL [
        (fun v _ => v = (.pointer (some ⟨ba, 0, none⟩))),
        (fun v _ => v = (.agg #[.bool n1, .slice A l c, .int .i64 e1])),
        (fun v _ => v = (.int .i64 p)),
        (fun v wv => (∃ d, v = .tuple #[d, .int .i64 o2.raw.k] ∧ DyR wv d o2.raw.v) ∧ (True)),
        (fun v wv => DyR wv v o2.raw.v ∧ (True)),
        (fun v _ => v = (.int .i64 o2.raw.k)),
        (fun v wv => (o2.raw.k = 0 ∧ (True)) ∧ DyR wv v o2.raw.v),
        (fun v wv => ∃ b, v = .pointer (some ⟨b, 0, none⟩) ∧ w6.heap.size ≤ b ∧ Blk wv b (.bool false) (.slice none 0 0) (.int .i64 0))])
      rfl rfl rfl (by kernel_rfl) (by kernel_rfl) (by kernel_rfl) (mono_of _ ⟨mono_eq _, mono_eq _, mono_eq _, fun v w w' k h => by obtain ⟨⟨d, h1, h2⟩, h3⟩ := h; exact ⟨⟨d, h1, h2.kept k⟩, h3⟩, fun v w w' k h => ⟨h.1.kept k, h.2⟩, mono_eq _, fun v w w' k h => by first | exact h | exact h.kept k | exact ⟨h.1, h.2.kept k⟩, fun v w w' k h => by obtain ⟨b, h1, h2, h3⟩ := h; exact ⟨b, h1, h2, h3.kept k⟩, trivial⟩) (steps_of ⟨
        (fun aF wF F => by
      have s0 : aF.tmps.getD 0 undef = (.pointer (some ⟨ba, 0, none⟩)) := F.old 0 (by kernel_rfl)
      exact step_val (by simp [Region.wanted]) (by go_simp) rfl),
        (fun aF wF F => by
      have s10 : aF.tmps.getD 10 undef = (.pointer (some ⟨ba, 0, none⟩)) := F.done 0 10 (by kernel_rfl) rfl
      have c0 := cell_at (HA.out.kept K.out) F.kept 0 _ rfl
      have c1 := cell_at (HA.out.kept K.out) F.kept 1 _ rfl
      have c2 := cell_at (HA.out.kept K.out) F.kept 2 _ rfl
      exact step_val (by simp [Region.wanted]) (by go_simp) rfl),
        (fun aF wF F => by
      have s1 : aF.tmps.getD 1 undef = (.pointer (some ⟨bp, 0, none⟩)) := F.old 1 (by kernel_rfl)
      exact step_val (by simp [Region.wanted]) (by have cq := cell_kept (K.out.trans F.kept) CP.out; go_simp) rfl),
        (fun aF wF F => by
      have s11 : aF.tmps.getD 11 undef = (.agg #[.bool n1, .slice A l c, .int .i64 e1]) := F.done 1 11 (by kernel_rfl) rfl
      have s12 : aF.tmps.getD 12 undef = (.int .i64 p) := F.done 2 12 (by kernel_rfl) rfl
      have hC : True := trivial; exact step_good (by simp [Region.wanted]) (by go_simp) (C2.out _ (K.out.trans F.kept)) (fun _ _ h => RetE.good h) (fun _ _ h => ⟨h, hC⟩)),
        (fun aF wF F => by
      have s13 : (fun v wv => (∃ d, v = .tuple #[d, .int .i64 o2.raw.k] ∧ DyR wv d o2.raw.v) ∧ (True)) (aF.tmps.getD 13 undef) wF := F.done 3 13 (by kernel_rfl) rfl
      obtain ⟨⟨dd, ee, hh⟩, hC⟩ := s13; exact step_val (by simp [Region.wanted]) (by go_simp) ⟨hh, hC⟩),
        (fun aF wF F => by
      have s13 : (fun v wv => (∃ d, v = .tuple #[d, .int .i64 o2.raw.k] ∧ DyR wv d o2.raw.v) ∧ (True)) (aF.tmps.getD 13 undef) wF := F.done 3 13 (by kernel_rfl) rfl
      exact step_val (by simp [Region.wanted]) (by obtain ⟨⟨dd, ee, hh⟩, -⟩ := s13; go_simp) rfl),
        (fun aF wF F => by
      have s14 : (fun v wv => DyR wv v o2.raw.v ∧ (True)) (aF.tmps.getD 14 undef) wF := F.done 4 14 (by kernel_rfl) rfl
      have s15 : aF.tmps.getD 15 undef = (.int .i64 o2.raw.k) := F.done 5 15 (by kernel_rfl) rfl
      have hC := s14.2; exact step_goes (by simp [Region.wanted]) (by go_simp) (sure_c (d := o2.v) (k := o2.raw.k) s14.1) (fun _ _ _ h0 h => ⟨⟨h0, hC⟩, h⟩) (fun w2 k2 h0 => ⟨F.defers, BAD.out _ _ (K.out.trans (F.kept.trans k2)) h0 (ST.out.1 h0)⟩)),
        (fun aF wF F => by
      exact step_new (by simp [Region.wanted]) (by go_simp) (kept_alloc _ _) ⟨_, rfl, F.kept.size, blk_new0 _⟩),
        trivial⟩) ?_
    intro u w1 k1 hu
    have e10 : u 0 = (.pointer (some ⟨ba, 0, none⟩)) := hu 0 (by decide)
    have e11 : u 1 = (.agg #[.bool n1, .slice A l c, .int .i64 e1]) := hu 1 (by decide)
    have e12 : u 2 = (.int .i64 p) := hu 2 (by decide)
    have p13 := hu 3 (by decide)
    have p14 := hu 4 (by decide)
    have e15 : u 5 = (.int .i64 o2.raw.k) := hu 5 (by decide)
    have p16 := hu 6 (by decide)
    have p4 := hu 7 (by decide)
    clear hu
    simp only [puts, slotOf, if_true, Act.put, List.setIfInBounds_toArray, List.set_cons_zero, List.set_cons_succ, List.getElem?_toArray, List.getElem?_cons_zero, List.getElem?_cons_succ, Option.bind_some, e10, e11, e12, e15]
    clear e10 e11 e12 e15
    generalize u 3 = v13 at *
    try simp only [VL, List.getD_cons_zero, List.getD_cons_succ] at p13
    generalize u 4 = v14 at *
    try simp only [VL, List.getD_cons_zero, List.getD_cons_succ] at p14
    generalize u 6 = v16 at *
    try simp only [VL, List.getD_cons_zero, List.getD_cons_succ] at p16
    generalize u 7 = v4 at *
    try simp only [VL, List.getD_cons_zero, List.getD_cons_succ] at p4
    obtain ⟨bl, rfl, hbl, hB5⟩ := p4
    obtain ⟨⟨z1, -⟩, hd2⟩ := p16
    obtain ⟨A5, l5, c5, rfl, hd2⟩ := rawR_split hd2
    obtain ⟨lb5, c0, c1, c2, f0, f1, f2⟩ := hB5.facts
    have hsW := (Array.getElem?_eq_some_iff.1 R4.out).1
    have Z := Lib.hid z1
    have KX := Lib.hid (dyW_kept (x := .bool o2.raw.v.neg) (y := .slice A5 l5 c5) (z := .int .i64 o2.raw.v.e) (K.out.trans k1) (show w.heap.size ≤ bl by omega))
    have R3X := Lib.hid ((R3.out.kept k1).laid_other (b' := bl) (by omega) (.bool o2.raw.v.neg) (.slice A5 l5 c5) (.int .i64 o2.raw.v.e))
    have R4X := Lib.hid ((R4.out.kept k1).laid_other (b' := bl) (by omega) (.bool o2.raw.v.neg) (.slice A5 l5 c5) (.int .i64 o2.raw.v.e))
    have B5X := Lib.hid (hB5.laid (.bool o2.raw.v.neg) (.slice A5 l5 c5) (.int .i64 o2.raw.v.e))
    have D5X := Lib.hid (hd2.dyW hB5 (noLimb_bool _) (noLimb_slice _ _ _) (noLimb_i64 _) (.bool o2.raw.v.neg) (.slice A5 l5 c5) (.int .i64 o2.raw.v.e))
    clear z1 hd2 hB5 hsW p13 p14 k1
    go_simp
    go_wp2_with fail
    change Code.wp _ _ _ _ (dyW w1 bl _ _ _)
    generalize dyW w1 bl (.bool o2.raw.v.neg) (.slice A5 l5 c5) (.int .i64 o2.raw.v.e) = X at *
    clear c0 c1 c2 f0 f1 f2 lb5
    refine region_lin2 (m := 8) (V := VL [
        (fun v _ => v = (.agg #[.bool o2.raw.v.neg, .slice A5 l5 c5, .int .i64 o2.raw.v.e])),
        (fun v _ => v = (.pointer (some ⟨ba, 3, none⟩))),
        (fun v _ => v = (.agg #[.bool n2, .slice A' l' c', .int .i64 e2])),
        (fun v _ => v = (.int .i64 p)),
        (fun v wv => (∃ d, v = .tuple #[d, .int .i64 o4.raw.k] ∧ DyR wv d o4.raw.v) ∧ (True)),
        (fun v wv => DyR wv v o4.raw.v ∧ (True)),
        (fun v _ => v = (.int .i64 o4.raw.k)),
        (fun v wv => (o4.raw.k = 0 ∧ (True)) ∧ DyR wv v o4.raw.v)])
      (by kernel_rfl) rfl rfl rfl rfl rfl (by kernel_rfl) (by kernel_rfl) (by kernel_rfl) (by kernel_rfl) (mono_of _ ⟨mono_eq _, mono_eq _, mono_eq _, mono_eq _, fun v w w' k h => by obtain ⟨⟨d, h1, h2⟩, h3⟩ := h; exact ⟨⟨d, h1, h2.kept k⟩, h3⟩, fun v w w' k h => ⟨h.1.kept k, h.2⟩, mono_eq _, fun v w w' k h => by first | exact h | exact h.kept k | exact ⟨h.1, h.2.kept k⟩, trivial⟩) (steps_of ⟨
        (fun aF wF F => by
      have s4 : aF.tmps.getD 4 undef = (.pointer (some ⟨bl, 0, none⟩)) := F.old 4 (by kernel_rfl)
      have c0 := cell_at B5X.out F.kept 0 _ rfl
      have c1 := cell_at B5X.out F.kept 1 _ rfl
      have c2 := cell_at B5X.out F.kept 2 _ rfl
      exact step_val (by simp [Region.wanted]) (by go_simp) rfl),
        (fun aF wF F => by
      have s0 : aF.tmps.getD 0 undef = (.pointer (some ⟨ba, 0, none⟩)) := F.old 0 (by kernel_rfl)
      exact step_val (by simp [Region.wanted]) (by go_simp) rfl),
        (fun aF wF F => by
      have s18 : aF.tmps.getD 18 undef = (.pointer (some ⟨ba, 3, none⟩)) := F.done 1 18 (by kernel_rfl) rfl
      have c0 := cell_at (HA.out.kept KX.out) F.kept 3 _ rfl
      have c1 := cell_at (HA.out.kept KX.out) F.kept 4 _ rfl
      have c2 := cell_at (HA.out.kept KX.out) F.kept 5 _ rfl
      exact step_val (by simp [Region.wanted]) (by go_simp) rfl),
        (fun aF wF F => by
      have s1 : aF.tmps.getD 1 undef = (.pointer (some ⟨bp, 0, none⟩)) := F.old 1 (by kernel_rfl)
      exact step_val (by simp [Region.wanted]) (by have cq := cell_kept (KX.out.trans F.kept) CP.out; go_simp) rfl),
        (fun aF wF F => by
      have s19 : aF.tmps.getD 19 undef = (.agg #[.bool n2, .slice A' l' c', .int .i64 e2]) := F.done 2 19 (by kernel_rfl) rfl
      have s20 : aF.tmps.getD 20 undef = (.int .i64 p) := F.done 3 20 (by kernel_rfl) rfl
      have hC : True := trivial; exact step_good (by simp [Region.wanted]) (by go_simp) (C4.out _ (KX.out.trans F.kept)) (fun _ _ h => RetE.good h) (fun _ _ h => ⟨h, hC⟩)),
        (fun aF wF F => by
      have s21 : (fun v wv => (∃ d, v = .tuple #[d, .int .i64 o4.raw.k] ∧ DyR wv d o4.raw.v) ∧ (True)) (aF.tmps.getD 21 undef) wF := F.done 4 21 (by kernel_rfl) rfl
      obtain ⟨⟨dd, ee, hh⟩, hC⟩ := s21; exact step_val (by simp [Region.wanted]) (by go_simp) ⟨hh, hC⟩),
        (fun aF wF F => by
      have s21 : (fun v wv => (∃ d, v = .tuple #[d, .int .i64 o4.raw.k] ∧ DyR wv d o4.raw.v) ∧ (True)) (aF.tmps.getD 21 undef) wF := F.done 4 21 (by kernel_rfl) rfl
      exact step_val (by simp [Region.wanted]) (by obtain ⟨⟨dd, ee, hh⟩, -⟩ := s21; go_simp) rfl),
        (fun aF wF F => by
      have s22 : (fun v wv => DyR wv v o4.raw.v ∧ (True)) (aF.tmps.getD 22 undef) wF := F.done 5 22 (by kernel_rfl) rfl
      have s23 : aF.tmps.getD 23 undef = (.int .i64 o4.raw.k) := F.done 6 23 (by kernel_rfl) rfl
      have hC := s22.2; exact step_goes (by simp [Region.wanted]) (by go_simp) (sure_c (d := o4.v) (k := o4.raw.k) s22.1) (fun _ _ _ h0 h => ⟨⟨h0, hC⟩, h⟩) (fun w2 k2 h0 => ⟨F.defers, BAD.out _ _ (KX.out.trans (F.kept.trans k2)) h0 ((ST.out.2 Z.out).1 h0)⟩)),
        trivial⟩) ?_
    intro u w1 k1 hu
    have e17 : u 0 = (.agg #[.bool o2.raw.v.neg, .slice A5 l5 c5, .int .i64 o2.raw.v.e]) := hu 0 (by decide)
    have e18 : u 1 = (.pointer (some ⟨ba, 3, none⟩)) := hu 1 (by decide)
    have e19 : u 2 = (.agg #[.bool n2, .slice A' l' c', .int .i64 e2]) := hu 2 (by decide)
    have e20 : u 3 = (.int .i64 p) := hu 3 (by decide)
    have p21 := hu 4 (by decide)
    have p22 := hu 5 (by decide)
    have e23 : u 6 = (.int .i64 o4.raw.k) := hu 6 (by decide)
    have p24 := hu 7 (by decide)
    clear hu
    simp only [puts, slotOf, if_true, Act.put, List.setIfInBounds_toArray, List.set_cons_zero, List.set_cons_succ, List.getElem?_toArray, List.getElem?_cons_zero, List.getElem?_cons_succ, Option.bind_some, e17, e18, e19, e20, e23]
    clear e17 e18 e19 e20 e23
    generalize u 4 = v21 at *
    try simp only [VL, List.getD_cons_zero, List.getD_cons_succ] at p21
    generalize u 5 = v22 at *
    try simp only [VL, List.getD_cons_zero, List.getD_cons_succ] at p22
    generalize u 7 = v24 at *
    try simp only [VL, List.getD_cons_zero, List.getD_cons_succ] at p24
    obtain ⟨⟨z4, -⟩, hd4⟩ := p24
    obtain ⟨A6, l6, c6, rfl, hd4⟩ := rawR_split hd4
    have hres := (ST.out.2 Z.out).2 z4
    have r3 := R3X.out.kept k1
    have r4 := R4X.out.kept k1
    have hk := KX.out.trans k1
    have hd5 := D5X.out.kept k1
    obtain ⟨-, c0, c1, c2, f0, f1, f2⟩ := r3.facts
    obtain ⟨-, d0, d1, d2, g0, g1, g2⟩ := r4.facts
    obtain ⟨t1, t2, t3⟩ := two_laid (T := 87) hk (Nat.le_refl _) (Nat.le_succ _) (by omega) r3 r4 hd5 hd4 hres
    have T1 := Lib.hid t1
    have T2 := Lib.hid t2
    have T3 := Lib.hid t3
    clear t1 t2 t3 r3 r4 hk hd5 hd4 hres z4 p21 p22 k1
    refine ⟨?_, ?_⟩
    · go_simp
      go_wp2_with fail
      exact ret_dydy T1.out T2.out rfl rfl rfl rfl T3.out
    · first
        | exact .inl (by kernel_rfl)
        | (right
           rw [dyW_swap _ (by omega)] at T1 T2 T3
           go_simp
           go_wp2_with fail
           exact ret_dydy T1.out T2.out rfl rfl rfl rfl T3.out)




end Go.Proofs.YtjdplcenniogdaaDoor
