/- Contracts of package dyad, ninth part: sum at noughts; Add, Sub, Mul. -/
import Derived.Test.YtjdplcenniogdaaDoorClaimTurnsp21
namespace Go.Proofs.YtjdplcenniogdaaDoor
open Go.RowKit

theorem dy_len {x : Dy} (h : x.Ok) : x.raw.m.length ≤ 64 := h.len

set_option maxHeartbeats 2000000 in
set_option maxRecDepth 100000 in
theorem sum_c {w : World} {va vb : Value} {x y : Dy} (ha : DyR w va x.raw) (hb : DyR w vb y.raw) (hx : x.Ok) (hy : y.Ok) (hT : Tab w) :
    Calls Tryd.prog 69 #[va, vb] w (Goes 111 (sumD x y).raw w) := by
  by_cases hx0 : x.m = 0
  · unfold sumD
    rw [if_pos hx0, show (good y).raw = ⟨y.raw, 0⟩ from rfl]
    have hc := fun w1 (k : Kept w w1) => copied_c (hb.kept k) (by have := dy_len hy; omega)
    obtain ⟨A, l, c, rfl, hl, -, -, -⟩ := ha.shape
    obtain ⟨A2, l2, c2, rfl, -, -, g1, g2⟩ := hb.shape
    have hl0 : l = 0 := by rw [hl]; simp only [Dy.raw]; rw [hx0, limbs_zero]; rfl
    subst hl0
    have HC := Lib.hid hc
    clear hc hl ha hb hx hx0 hT hy
    generalize hn : x.raw.neg = n1 at *
    generalize x.raw.e = e1 at *
    clear hn
    generalize y.raw = r at *
    obtain ⟨W, hW, kW, B0, B1, B2⟩ := boxes3 w (.bool n1) (.slice A 0 c) (.int .i64 e1) (.bool r.neg) (.slice A2 l2 c2) (.int .i64 r.e)
    have HW := Lib.hid hW
    have HK := Lib.hid kW
    have HB := Lib.hid B2
    clear hW kW B0 B1 B2
    go_enter Tryd.func69, Tryd.ntmps69
    go_wp2_with (go_at_call 64; rw [← HW.out]; refine (HC.out _ HK.out).mono ?_; rintro e w1 ⟨q, u, rfl, hd⟩; obtain ⟨A', l', c', rfl, -, hd, g3, g4⟩ := hd.shape; have HD := Lib.hid hd; have hb2 := HB.out.kept q; obtain ⟨_, c0, c1, c2, f0, f1, f2⟩ := hb2.facts; have HB2 := Lib.hid hb2; clear hd hb2)
    exact ret_dy (HB2.out.laid _ _ _) rfl rfl rfl ⟨dyW_kept (HK.out.trans q) (by omega), .inl ⟨rfl, _, rfl, (HD.out.dyW HB2.out (noLimb_bool _) (noLimb_slice _ _ _) (noLimb_i64 _)).dyR g3 g4⟩⟩
  · by_cases hy0 : y.m = 0
    · unfold sumD
      rw [if_neg hx0, if_pos hy0, show (good x).raw = ⟨x.raw, 0⟩ from rfl]
      have hc := fun w1 (k : Kept w w1) => copied_c (ha.kept k) (by have := dy_len hx; omega)
      obtain ⟨A, l, c, rfl, hl1, -, -, -⟩ := ha.shape
      obtain ⟨A2, l2, c2, rfl, hl, -, g1, g2⟩ := hb.shape
      have hl0 : l2 = 0 := by rw [hl]; simp only [Dy.raw]; rw [hy0, limbs_zero]; rfl
      subst hl0
      have l0 : ((l : Int) == 0) = false := by have := length_limbs_pos x.m hx0; rw [beq_eq_false_iff_ne, hl1]; simp only [Dy.raw]; omega
      have HC := Lib.hid hc
      clear hc hl hl1 ha hb hx hx0 hT hy hy0
      generalize hn : y.raw.neg = n2 at *
      generalize y.raw.e = e2 at *
      clear hn
      generalize x.raw = r at *
      obtain ⟨W, hW, kW, B0, B1, B2⟩ := boxes3 w (.bool r.neg) (.slice A l c) (.int .i64 r.e) (.bool n2) (.slice A2 0 c2) (.int .i64 e2)
      have HW := Lib.hid hW
      have HK := Lib.hid kW
      have HB := Lib.hid B2
      clear hW kW B0 B1 B2
      go_enter Tryd.func69, Tryd.ntmps69
      go_wp2_with (go_at_call 64; rw [← HW.out]; refine (HC.out _ HK.out).mono ?_; rintro e w1 ⟨q, u, rfl, hd⟩; obtain ⟨A', l', c', rfl, -, hd, g3, g4⟩ := hd.shape; have HD := Lib.hid hd; have hb2 := HB.out.kept q; obtain ⟨_, c0, c1, c2, f0, f1, f2⟩ := hb2.facts; have HB2 := Lib.hid hb2; clear hd hb2)
      exact ret_dy (HB2.out.laid _ _ _) rfl rfl rfl ⟨dyW_kept (HK.out.trans q) (by omega), .inl ⟨rfl, _, rfl, (HD.out.dyW HB2.out (noLimb_bool _) (noLimb_slice _ _ _) (noLimb_i64 _)).dyR g3 g4⟩⟩
    · exact sum_core ha hb hx hy hT hx0 hy0

theorem negR_raw (d : Dy) (h : d.Ok) : negR d.raw = (negD d).raw := by
  unfold negR negD
  by_cases h0 : d.m = 0
  · rw [if_pos h0, if_neg]
    rintro ⟨_, h1⟩
    simp only [Dy.raw] at h1
    rw [h0, limbs_zero] at h1
    exact absurd h1 (Nat.lt_irrefl 0)
  · rw [if_neg h0, if_pos ⟨h.may, length_limbs_pos d.m h0⟩]
    rfl

set_option maxHeartbeats 2000000 in
set_option maxRecDepth 100000 in
theorem sub1_c {w : World} {va vb : Value} {x y : Dy} (ha : DyR w va x.raw) (hb : DyR w vb y.raw) (hx : x.Ok) (hy : y.Ok) (hT : Tab w) :
    Calls Tryd.prog 70 #[va, vb] w (Goes 111 (sumD x (negD y)).raw w) := by
  have hn := fun w1 (k : Kept w w1) => dneg_c (hb.kept k) (by have := dy_len hy; omega)
  rw [negR_raw y hy] at hn
  have hs := fun w1 u (k : Kept w w1) (hu : DyR w1 u (negD y).raw) => sum_c (ha.kept k) hu hx (negD_ok hy) (hT.kept k)
  obtain ⟨A, l, c, rfl, -, -, -, -⟩ := ha.shape
  obtain ⟨A2, l2, c2, rfl, -, -, -, -⟩ := hb.shape
  have HN := Lib.hid hn
  have HS := Lib.hid hs
  clear hn hs ha hb hx hy hT
  generalize x.raw.neg = n1 at *
  generalize x.raw.e = e1 at *
  generalize y.raw.neg = n2 at *
  generalize y.raw.e = e2 at *
  generalize (negD y).raw = r at *
  generalize sumD x (negD y) = o at *
  obtain ⟨W, hW, kW, B0, B1, B2⟩ := boxes3 w (.bool n1) (.slice A l c) (.int .i64 e1) (.bool n2) (.slice A2 l2 c2) (.int .i64 e2)
  have HW := Lib.hid hW
  have HK := Lib.hid kW
  have HB0 := Lib.hid B0
  have HB1 := Lib.hid B1
  have HB2 := Lib.hid B2
  clear hW kW B0 B1 B2
  go_enter Tryd.func70, Tryd.ntmps70
  go_wp2_with fail
  rw [← HW.out]
  refine region_lin1 (m := 4) (V := VL [
      (fun v _ => v = (.agg #[.bool n1, .slice A l c, .int .i64 e1])),
      (fun v _ => v = (.agg #[.bool n2, .slice A2 l2 c2, .int .i64 e2])),
      (fun v wv => DyR wv v r),
      (fun v wv => o.raw.k = 0 ∧ DyR wv v o.raw.v)])
    (by kernel_rfl) rfl rfl rfl (by kernel_rfl) (by kernel_rfl) (by kernel_rfl) (by kernel_rfl) (mono_of _ ⟨mono_eq _, mono_eq _, fun v w w' k h => by first | exact h | exact h.kept k | exact ⟨h.1, h.2.kept k⟩, fun v w w' k h => by first | exact h | exact h.kept k | exact ⟨h.1, h.2.kept k⟩, trivial⟩) (steps_of ⟨
      (fun aF wF F => by
    have s2 : aF.tmps.getD 2 undef = (.pointer (some ⟨w.heap.size, 0, none⟩)) := F.old 2 (by kernel_rfl)
    have c0 := cell_at HB0.out F.kept 0 _ rfl
    have c1 := cell_at HB0.out F.kept 1 _ rfl
    have c2 := cell_at HB0.out F.kept 2 _ rfl
    exact step_val (by simp [Region.wanted]) (by go_simp) rfl),
      (fun aF wF F => by
    have s3 : aF.tmps.getD 3 undef = (.pointer (some ⟨w.heap.size + 1, 0, none⟩)) := F.old 3 (by kernel_rfl)
    have c0 := cell_at HB1.out F.kept 0 _ rfl
    have c1 := cell_at HB1.out F.kept 1 _ rfl
    have c2 := cell_at HB1.out F.kept 2 _ rfl
    exact step_val (by simp [Region.wanted]) (by go_simp) rfl),
      (fun aF wF F => by
    have s6 : aF.tmps.getD 6 undef = (.agg #[.bool n2, .slice A2 l2 c2, .int .i64 e2]) := F.done 1 6 (by kernel_rfl) rfl
    exact step_good (by simp [Region.wanted]) (by go_simp) (HN.out _ (HK.out.trans F.kept)) (fun _ _ h => RetD.good h) (fun _ _ h => h)),
      (fun aF wF F => by
    have s5 : aF.tmps.getD 5 undef = (.agg #[.bool n1, .slice A l c, .int .i64 e1]) := F.done 0 5 (by kernel_rfl) rfl
    have s7 : (fun v wv => DyR wv v r) (aF.tmps.getD 7 undef) wF := F.done 2 7 (by kernel_rfl) rfl
    exact step_goes (by simp [Region.wanted]) (by go_simp) (HS.out _ _ (HK.out.trans F.kept) s7) (fun _ _ _ h0 h => ⟨h0, h⟩) (fun w2 k2 h0 => ⟨F.defers, ⟨HK.out.trans (F.kept.trans k2), .inr ⟨h0, rfl⟩⟩⟩)),
      trivial⟩) ?_
  intro u w1 k1 hu
  have e5 : u 0 = (.agg #[.bool n1, .slice A l c, .int .i64 e1]) := hu 0 (by decide)
  have e6 : u 1 = (.agg #[.bool n2, .slice A2 l2 c2, .int .i64 e2]) := hu 1 (by decide)
  have p7 := hu 2 (by decide)
  have p8 := hu 3 (by decide)
  clear hu
  simp only [puts, slotOf, if_true, Act.put, List.setIfInBounds_toArray, List.set_cons_zero, List.set_cons_succ, List.getElem?_toArray, List.getElem?_cons_zero, List.getElem?_cons_succ, Option.bind_some, e5, e6]
  clear e5 e6
  generalize u 2 = v7 at *
  try simp only [VL, List.getD_cons_zero, List.getD_cons_succ] at p7
  generalize u 3 = v8 at *
  try simp only [VL, List.getD_cons_zero, List.getD_cons_succ] at p8
  obtain ⟨h0, hd⟩ := p8
  obtain ⟨A', l', c', rfl, hd, g1, g2⟩ := dyR_parts hd
  have hb := HB2.out.kept k1
  obtain ⟨_, c0, c1, c2, f0, f1, f2⟩ := hb.facts
  have HD := Lib.hid hd
  have H0 := Lib.hid h0
  have HB := Lib.hid hb
  have K1 := Lib.hid k1
  clear hd h0 hb k1 p7
  go_simp
  go_wp2_with fail
  exact ret_dy (HB.out.laid _ _ _) rfl rfl rfl ⟨dyW_kept (HK.out.trans K1.out) (by omega), .inl ⟨H0.out, _, rfl, (HD.out.dyW HB.out (noLimb_bool _) (noLimb_slice _ _ _) (noLimb_i64 _)).dyR g1 g2⟩⟩


set_option maxHeartbeats 2000000 in
set_option maxRecDepth 100000 in
theorem Add_c {w : World} {va vb : Value} {x y : Dy} (ha : DyR w va x.raw) (hb : DyR w vb y.raw) (hx : x.Ok) (hy : y.Ok) (hT : Tab w) :
    Calls Tryd.prog 32 #[va, vb] w (RetE (sumD x y).raw w) := by
  have hf := fun w1 (k : Kept w w1) => two_c (K := 69) (o := (sumD x y).raw) (ha.kept k) (hb.kept k) (by have := dy_len hx; omega) (by have := dy_len hy; omega)
    (fun W k1 _ _ => sum_c (ha.kept (k.trans k1)) (hb.kept (k.trans k1)) hx hy (hT.kept (k.trans k1)))
    (fun h => by have := sumD_ok hx hy; show ((sumD x y).v).raw = rz; rw [this.2 h, dz_raw]) (fun _ => rfl)
  have e : twoO x.raw y.raw (sumD x y).raw = (sumD x y).raw := by unfold twoO; rw [hx.may, hy.may]; rfl
  rw [e] at hf
  obtain ⟨A, l, c, rfl, -, -, -, -⟩ := ha.shape
  obtain ⟨A2, l2, c2, rfl, -, -, -, -⟩ := hb.shape
  have HF := Lib.hid hf
  clear hf ha hb hx hy hT e
  generalize (sumD x y).raw = o at *
  generalize x.raw.neg = n1 at *
  generalize x.raw.e = e1 at *
  generalize y.raw.neg = n2 at *
  generalize y.raw.e = e2 at *
  obtain ⟨W, hW, kW, B0, B1, B2⟩ := boxes3 w (.bool n1) (.slice A l c) (.int .i64 e1) (.bool n2) (.slice A2 l2 c2) (.int .i64 e2)
  have HW := Lib.hid hW
  have HK := Lib.hid kW
  have HB := Lib.hid B2
  clear hW kW B0 B1 B2
  go_enter Tryd.func32, Tryd.ntmps32
  go_wp2_with (go_at_call 68; rw [← HW.out]; refine (HF.out _ HK.out).mono ?_; rintro e w1 ⟨q, u, rfl, hd⟩; obtain ⟨A', l', c', rfl, -, hd, g3, g4⟩ := hd.shape; have HD := Lib.hid hd; have hb2 := HB.out.kept q; obtain ⟨_, c0, c1, c2, f0, f1, f2⟩ := hb2.facts; have HB2 := Lib.hid hb2; clear hd hb2)
  exact ret_dy2 (HB2.out.laid _ _ _) rfl rfl rfl ⟨dyW_kept (HK.out.trans q) (by omega), _, rfl, (HD.out.dyW HB2.out (noLimb_bool _) (noLimb_slice _ _ _) (noLimb_i64 _)).dyR g3 g4⟩
set_option maxHeartbeats 2000000 in
set_option maxRecDepth 100000 in
theorem Sub_c {w : World} {va vb : Value} {x y : Dy} (ha : DyR w va x.raw) (hb : DyR w vb y.raw) (hx : x.Ok) (hy : y.Ok) (hT : Tab w) :
    Calls Tryd.prog 33 #[va, vb] w (RetE (sumD x (negD y)).raw w) := by
  have hf := fun w1 (k : Kept w w1) => two_c (K := 70) (o := (sumD x (negD y)).raw) (ha.kept k) (hb.kept k) (by have := dy_len hx; omega) (by have := dy_len hy; omega)
    (fun W k1 _ _ => sub1_c (ha.kept (k.trans k1)) (hb.kept (k.trans k1)) hx hy (hT.kept (k.trans k1)))
    (fun h => by have := sumD_ok hx (negD_ok hy); show ((sumD x (negD y)).v).raw = rz; rw [this.2 h, dz_raw]) (fun _ => rfl)
  have e : twoO x.raw y.raw (sumD x (negD y)).raw = (sumD x (negD y)).raw := by unfold twoO; rw [hx.may, hy.may]; rfl
  rw [e] at hf
  obtain ⟨A, l, c, rfl, -, -, -, -⟩ := ha.shape
  obtain ⟨A2, l2, c2, rfl, -, -, -, -⟩ := hb.shape
  have HF := Lib.hid hf
  clear hf ha hb hx hy hT e
  generalize (sumD x (negD y)).raw = o at *
  generalize x.raw.neg = n1 at *
  generalize x.raw.e = e1 at *
  generalize y.raw.neg = n2 at *
  generalize y.raw.e = e2 at *
  obtain ⟨W, hW, kW, B0, B1, B2⟩ := boxes3 w (.bool n1) (.slice A l c) (.int .i64 e1) (.bool n2) (.slice A2 l2 c2) (.int .i64 e2)
  have HW := Lib.hid hW
  have HK := Lib.hid kW
  have HB := Lib.hid B2
  clear hW kW B0 B1 B2
  go_enter Tryd.func33, Tryd.ntmps33
  go_wp2_with (go_at_call 68; rw [← HW.out]; refine (HF.out _ HK.out).mono ?_; rintro e w1 ⟨q, u, rfl, hd⟩; obtain ⟨A', l', c', rfl, -, hd, g3, g4⟩ := hd.shape; have HD := Lib.hid hd; have hb2 := HB.out.kept q; obtain ⟨_, c0, c1, c2, f0, f1, f2⟩ := hb2.facts; have HB2 := Lib.hid hb2; clear hd hb2)
  exact ret_dy2 (HB2.out.laid _ _ _) rfl rfl rfl ⟨dyW_kept (HK.out.trans q) (by omega), _, rfl, (HD.out.dyW HB2.out (noLimb_bool _) (noLimb_slice _ _ _) (noLimb_i64 _)).dyR g3 g4⟩
set_option maxHeartbeats 2000000 in
set_option maxRecDepth 100000 in
theorem Mul_c {w : World} {va vb : Value} {x y : Dy} (ha : DyR w va x.raw) (hb : DyR w vb y.raw) (hx : x.Ok) (hy : y.Ok) (hT : Tab w) :
    Calls Tryd.prog 34 #[va, vb] w (RetE (mulD x y).raw w) := by
  have hf := fun w1 (k : Kept w w1) => two_c (K := 71) (o := (mulD x y).raw) (ha.kept k) (hb.kept k) (by have := dy_len hx; omega) (by have := dy_len hy; omega)
    (fun W k1 _ _ => mul1_c (ha.kept (k.trans k1)) (hb.kept (k.trans k1)) hx hy (hT.kept (k.trans k1)))
    (fun h => by have := mulD_ok x y; show ((mulD x y).v).raw = rz; rw [this.2 h, dz_raw]) (fun _ => rfl)
  have e : twoO x.raw y.raw (mulD x y).raw = (mulD x y).raw := by unfold twoO; rw [hx.may, hy.may]; rfl
  rw [e] at hf
  obtain ⟨A, l, c, rfl, -, -, -, -⟩ := ha.shape
  obtain ⟨A2, l2, c2, rfl, -, -, -, -⟩ := hb.shape
  have HF := Lib.hid hf
  clear hf ha hb hx hy hT e
  generalize (mulD x y).raw = o at *
  generalize x.raw.neg = n1 at *
  generalize x.raw.e = e1 at *
  generalize y.raw.neg = n2 at *
  generalize y.raw.e = e2 at *
  obtain ⟨W, hW, kW, B0, B1, B2⟩ := boxes3 w (.bool n1) (.slice A l c) (.int .i64 e1) (.bool n2) (.slice A2 l2 c2) (.int .i64 e2)
  have HW := Lib.hid hW
  have HK := Lib.hid kW
  have HB := Lib.hid B2
  clear hW kW B0 B1 B2
  go_enter Tryd.func34, Tryd.ntmps34
  go_wp2_with (go_at_call 68; rw [← HW.out]; refine (HF.out _ HK.out).mono ?_; rintro e w1 ⟨q, u, rfl, hd⟩; obtain ⟨A', l', c', rfl, -, hd, g3, g4⟩ := hd.shape; have HD := Lib.hid hd; have hb2 := HB.out.kept q; obtain ⟨_, c0, c1, c2, f0, f1, f2⟩ := hb2.facts; have HB2 := Lib.hid hb2; clear hd hb2)
  exact ret_dy2 (HB2.out.laid _ _ _) rfl rfl rfl ⟨dyW_kept (HK.out.trans q) (by omega), _, rfl, (HD.out.dyW HB2.out (noLimb_bool _) (noLimb_slice _ _ _) (noLimb_i64 _)).dyR g3 g4⟩

end Go.Proofs.YtjdplcenniogdaaDoor
