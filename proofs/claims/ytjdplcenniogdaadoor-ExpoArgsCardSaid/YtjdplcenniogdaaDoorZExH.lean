/- Contracts of package expo: Exp where the first round is enough. -/
import Derived.Test.YtjdplcenniogdaaDoorZExG
import Derived.Test.YtjdplcenniogdaaDoorClaimTurnsp31
namespace Go.Proofs.YtjdplcenniogdaaDoor
open Go.RowKit

theorem RetDD.good {lo hi : Raw} {w w' : World} {e : Ending} (h : RetDD lo hi w e w') : GoodEnd (fun u w => ∃ x y, u = .tuple #[x, y] ∧ DyR w x lo ∧ DyR w y hi) w e w' := by
  obtain ⟨k, x, y, he, h1, h2⟩ := h
  exact ⟨_, he, k, x, y, rfl, h1, h2⟩

set_option maxHeartbeats 4000000 in
set_option maxRecDepth 100000 in
theorem xexp1_c {w : World} {v : Value} {d : Dy} {p f : Nat} {up : Bool} {oL oH : Dy × Dy} {lo hi x : Dy} (hv : DyR w v d.raw) (ok : d.Ok) (p1 : 1 ≤ p) (p2 : p ≤ 300) (hT : Tab w) (h0 : mayX d.raw p = 0) (hz : d.m ≠ 0)
    (hL : nearG (p + 40) false (bndR (absD d)) f 1 one one = some oL) (hH : nearG (p + 40) true (bndR (absD d)) f 1 one one = some oH) (hf : f ≤ 1000000)
    (hb : bndsD (p + 40) d (bndD (p + 40) false d oL) (bndD (p + 40) true d oH) = (lo, hi)) (okl : lo.Ok) (okh : hi.Ok) (hx : rndS p up lo = x) (hy : rndS p up hi = x) :
    Calls Tryd.prog 11 #[v, .int .i64 (p : Int), .bool up] w (RetE ⟨x.raw, 0⟩ w) := by
  have C := Lib.hid (fun w1 (k : Kept w w1) => xmay_c (p := (p : Int)) (hv.kept k) (by have := dy_len ok; omega) (hT.kept k))
  rw [h0] at C
  have CB := Lib.hid (fun w1 (k : Kept w w1) => show Calls Tryd.prog 42 #[v, .int .i64 ((p : Int) + 40)] w1 (RetDD lo.raw hi.raw w1) by
    have e : (p : Int) + 40 = ((p + 40 : Nat) : Int) := by omega
    rw [e]
    have h := xbounds_c (p := p + 40) (hv.kept k) ok (by omega) (by omega) (hT.kept k) hL hH hf
    rwa [hb] at h)
  have C1 := Lib.hid (fun w1 v (k : Kept w w1) (h : DyR w1 v lo.raw) => show Calls Tryd.prog 43 #[.agg #[.int .i64 (p : Int), .bool up], v] w1 (RetD x.raw w1) by rw [← hx]; exact xround_c h okl p1 (by omega) (hT.kept k))
  have C2 := Lib.hid (fun w1 v (k : Kept w w1) (h : DyR w1 v hi.raw) => show Calls Tryd.prog 43 #[.agg #[.int .i64 (p : Int), .bool up], v] w1 (RetD x.raw w1) by rw [← hy]; exact xround_c h okh p1 (by omega) (hT.kept k))
  have okx : x.Ok := by rw [← hx]; exact rndS_ok _ _ _
  have CS := Lib.hid (fun w1 v u (h : DyR w1 v x.raw) (h2 : DyR w1 u x.raw) => show Calls Tryd.prog 12 #[v, u] w1 (RetK (.bool true) w1) by
    have h := dsame_c h h2 (by have := dy_len okx; omega)
    have e : sameR x.raw x.raw = true := by unfold sameR; simp
    rwa [e] at h)
  obtain ⟨A, l, c, rfl, hl, -, -, -⟩ := hv.shape
  have hl0 : ((l : Int) == 0) = false := by
    have := length_limbs_pos d.m hz
    rw [beq_eq_false_iff_ne, hl]
    show ((limbs d.m).length : Int) ≠ 0
    omega
  clear hv hl hT ok hz h0 hL hH hf hb okl okh hx hy okx
  generalize d.raw.neg = n1 at *
  generalize d.raw.e = e1 at *
  obtain ⟨W, hW, kW, BA, BR⟩ := boxes1r w (.bool n1) (.slice A l c) (.int .i64 e1)
  have HW := Lib.hid hW
  have K := Lib.hid kW
  have HA := Lib.hid BA
  have HB := Lib.hid BR
  obtain ⟨-, a0, a1, a2, -⟩ := BA.facts
  clear hW kW BA BR
  go_enter Tryd.func11, Tryd.ntmps11
  go_upto_region 1 with fail
  rw [← HW.out]
  go_step3
  go_wp2_with fail
  refine (C.out _ K.out).mono ?_
  rintro ee w1 ⟨rfl, q⟩
  simp only []
  replace K := Lib.hid (K.out.trans q)
  replace HA := Lib.hid (HA.out.kept q)
  replace HB := Lib.hid (HB.out.kept q)
  clear q a0 a1 a2 HW C
  obtain ⟨-, a0, a1, a2, -⟩ := HA.out.facts
  go_wp2_with fail
  go_step3
  go_wp2_with fail
  refine wp_loop_rounds 1 ?_
  rw [rounds_succ]
  go_wp2_with fail
  refine (CB.out _ K.out).mono ?_
  rintro ee w2 ⟨q, va, vb, rfl, h1, h2⟩
  obtain ⟨A1, j1, c1, rfl, h1⟩ := dyR_split h1
  obtain ⟨A2, j2, c2, rfl, h2⟩ := dyR_split h2
  simp only []
  obtain ⟨W2, hW2, kW2, BL, BH⟩ := boxes2 w2 (.bool lo.neg) (.slice A1 j1 c1) (.int .i64 lo.e) (.bool hi.neg) (.slice A2 j2 c2) (.int .i64 hi.e)
  have HW2 := Lib.hid hW2
  have kk := q.trans kW2
  have lR : w.heap.size + 1 < w2.heap.size := Nat.lt_of_lt_of_le HB.out.facts.1 q.size
  replace K := Lib.hid (K.out.trans kk)
  replace HB := Lib.hid (HB.out.kept kk)
  have HL := Lib.hid BL
  have HH := Lib.hid BH
  have ZL := Lib.hid (h1.kept kW2)
  have ZH := Lib.hid (h2.kept kW2)
  clear hW2 kW2 BL BH q h1 h2 kk CB a0 a1 a2 HA
  go_upto_region 10 with fail
  rw [← HW2.out]
  clear HW2
  generalize w2.heap.size = b10 at *
  refine region_lin2 (m := 12) (V := VL [
      (fun v _ => v = .int .i64 (p : Int)),
      (fun v _ => v = .bool up),
      (fun v _ => v = (.agg #[.int .i64 (p : Int), .bool up])),
      (fun v _ => v = (.agg #[.bool lo.neg, .slice A1 j1 c1, .int .i64 lo.e])),
      (fun v wv => DyR wv v x.raw),
      (fun v _ => v = .int .i64 (p : Int)),
      (fun v _ => v = .bool up),
      (fun v _ => v = (.agg #[.int .i64 (p : Int), .bool up])),
      (fun v _ => v = (.agg #[.bool hi.neg, .slice A2 j2 c2, .int .i64 hi.e])),
      (fun v wv => DyR wv v x.raw),
      (fun v wv => ∃ b, v = .pointer (some ⟨b, 0, none⟩) ∧ W2.heap.size ≤ b ∧ Blk wv b (.bool false) (.slice none 0 0) (.int .i64 0)),
      (fun v wv => ∃ b, v = .pointer (some ⟨b, 0, none⟩) ∧ W2.heap.size ≤ b ∧ Blk wv b (.bool false) (.slice none 0 0) (.int .i64 0))])
    (by kernel_rfl) rfl rfl rfl rfl rfl (by kernel_rfl) (by kernel_rfl) (by kernel_rfl) (by kernel_rfl) (mono_of _ ⟨mono_eq _, mono_eq _, mono_eq _, mono_eq _, fun v w w' k h => by first | exact h | exact h.kept k | exact ⟨h.1, h.2.kept k⟩, mono_eq _, mono_eq _, mono_eq _, mono_eq _, fun v w w' k h => by first | exact h | exact h.kept k | exact ⟨h.1, h.2.kept k⟩, fun v w w' k h => by obtain ⟨b, h1, h2, h3⟩ := h; exact ⟨b, h1, h2, h3.kept k⟩, fun v w w' k h => by obtain ⟨b, h1, h2, h3⟩ := h; exact ⟨b, h1, h2, h3.kept k⟩, trivial⟩) (steps_of ⟨
      (fun aF wF F => by
    have s1 : aF.tmps.getD 1 undef = .int .i64 (p : Int) := F.old 1 (by kernel_rfl)
    exact step_val (by simp [Region.wanted]) (by go_simp) rfl),
      (fun aF wF F => by
    have s2 : aF.tmps.getD 2 undef = .bool up := F.old 2 (by kernel_rfl)
    exact step_val (by simp [Region.wanted]) (by go_simp) rfl),
      (fun aF wF F => by
    have s42 : aF.tmps.getD 42 undef = .int .i64 (p : Int) := F.done 0 42 (by kernel_rfl) rfl
    have s43 : aF.tmps.getD 43 undef = .bool up := F.done 1 43 (by kernel_rfl) rfl
    simp only [Array.getD_eq_getD_getElem?] at s42
    simp only [Array.getD_eq_getD_getElem?] at s43
    exact step_val (by simp [Region.wanted]) (by go_simp) rfl),
      (fun aF wF F => by
    have s10 : aF.tmps.getD 10 undef = (.pointer (some ⟨b10, 0, none⟩)) := F.old 10 (by kernel_rfl)
    have c0 := cell_at HL.out F.kept 0 _ rfl
    have c1 := cell_at HL.out F.kept 1 _ rfl
    have c2 := cell_at HL.out F.kept 2 _ rfl
    exact step_val (by simp [Region.wanted]) (by go_simp) rfl),
      (fun aF wF F => by
    have s44 : aF.tmps.getD 44 undef = (.agg #[.int .i64 (p : Int), .bool up]) := F.done 2 44 (by kernel_rfl) rfl
    have s45 : aF.tmps.getD 45 undef = (.agg #[.bool lo.neg, .slice A1 j1 c1, .int .i64 lo.e]) := F.done 3 45 (by kernel_rfl) rfl
    exact step_good (by simp [Region.wanted]) (by go_simp) (C1.out _ _ (K.out.trans F.kept) (ZL.out.kept F.kept)) (fun _ _ h => RetD.good h) (fun _ _ h => h)),
      (fun aF wF F => by
    have s1 : aF.tmps.getD 1 undef = .int .i64 (p : Int) := F.old 1 (by kernel_rfl)
    exact step_val (by simp [Region.wanted]) (by go_simp) rfl),
      (fun aF wF F => by
    have s2 : aF.tmps.getD 2 undef = .bool up := F.old 2 (by kernel_rfl)
    exact step_val (by simp [Region.wanted]) (by go_simp) rfl),
      (fun aF wF F => by
    have s47 : aF.tmps.getD 47 undef = .int .i64 (p : Int) := F.done 5 47 (by kernel_rfl) rfl
    have s48 : aF.tmps.getD 48 undef = .bool up := F.done 6 48 (by kernel_rfl) rfl
    simp only [Array.getD_eq_getD_getElem?] at s47
    simp only [Array.getD_eq_getD_getElem?] at s48
    exact step_val (by simp [Region.wanted]) (by go_simp) rfl),
      (fun aF wF F => by
    have s11 : aF.tmps.getD 11 undef = (.pointer (some ⟨b10 + 1, 0, none⟩)) := F.old 11 (by kernel_rfl)
    have c0 := cell_at HH.out F.kept 0 _ rfl
    have c1 := cell_at HH.out F.kept 1 _ rfl
    have c2 := cell_at HH.out F.kept 2 _ rfl
    exact step_val (by simp [Region.wanted]) (by go_simp) rfl),
      (fun aF wF F => by
    have s49 : aF.tmps.getD 49 undef = (.agg #[.int .i64 (p : Int), .bool up]) := F.done 7 49 (by kernel_rfl) rfl
    have s50 : aF.tmps.getD 50 undef = (.agg #[.bool hi.neg, .slice A2 j2 c2, .int .i64 hi.e]) := F.done 8 50 (by kernel_rfl) rfl
    exact step_good (by simp [Region.wanted]) (by go_simp) (C2.out _ _ (K.out.trans F.kept) (ZH.out.kept F.kept)) (fun _ _ h => RetD.good h) (fun _ _ h => h)),
      (fun aF wF F => by
    exact step_new (by simp [Region.wanted]) (by go_simp) (kept_alloc _ _) ⟨_, rfl, F.kept.size, blk_new0 _⟩),
      (fun aF wF F => by
    exact step_new (by simp [Region.wanted]) (by go_simp) (kept_alloc _ _) ⟨_, rfl, F.kept.size, blk_new0 _⟩),
      trivial⟩) ?_
  intro u w1 k1 hu
  have e42 : u 0 = .int .i64 (p : Int) := hu 0 (by decide)
  have e43 : u 1 = .bool up := hu 1 (by decide)
  have e44 : u 2 = (.agg #[.int .i64 (p : Int), .bool up]) := hu 2 (by decide)
  have e45 : u 3 = (.agg #[.bool lo.neg, .slice A1 j1 c1, .int .i64 lo.e]) := hu 3 (by decide)
  have p46 := hu 4 (by decide)
  have e47 : u 5 = .int .i64 (p : Int) := hu 5 (by decide)
  have e48 : u 6 = .bool up := hu 6 (by decide)
  have e49 : u 7 = (.agg #[.int .i64 (p : Int), .bool up]) := hu 7 (by decide)
  have e50 : u 8 = (.agg #[.bool hi.neg, .slice A2 j2 c2, .int .i64 hi.e]) := hu 8 (by decide)
  have p51 := hu 9 (by decide)
  have p12 := hu 10 (by decide)
  have p13 := hu 11 (by decide)
  clear hu
  simp only [puts, slotOf, if_true, Act.put, List.setIfInBounds_toArray, List.set_cons_zero, List.set_cons_succ, List.getElem?_toArray, List.getElem?_cons_zero, List.getElem?_cons_succ, Option.bind_some, e42, e43, e44, e45, e47, e48, e49, e50]
  clear e42 e43 e44 e45 e47 e48 e49 e50
  generalize u 4 = v46 at *
  try simp only [VL, List.getD_cons_zero, List.getD_cons_succ] at p46
  generalize u 9 = v51 at *
  try simp only [VL, List.getD_cons_zero, List.getD_cons_succ] at p51
  generalize u 10 = v12 at *
  try simp only [VL, List.getD_cons_zero, List.getD_cons_succ] at p12
  generalize u 11 = v13 at *
  try simp only [VL, List.getD_cons_zero, List.getD_cons_succ] at p13
  refine ⟨?_, .inl (by kernel_rfl)⟩
  obtain ⟨b12, rfl, hb12, hx⟩ := p12
  obtain ⟨b13, rfl, hb13, hy⟩ := p13
  obtain ⟨A3, j3, c3, rfl, z1⟩ := dyR_split p46
  obtain ⟨A4, j4, c4, rfl, z2⟩ := dyR_split p51
  clear p46 p51 C1 C2 HL HH ZL ZH
  have l12 : w.heap.size + 1 < b12 := Nat.lt_of_lt_of_le HB.out.facts.1 hb12
  have l13 : w.heap.size + 1 < b13 := Nat.lt_of_lt_of_le HB.out.facts.1 hb13
  obtain ⟨-, y0, y1, y2, f0, f1, f2⟩ := hx.facts
  obtain ⟨-, v0, v1, v2, g0, g1, g2⟩ := hy.facts
  by_cases hne : b12 = b13
  · subst hne
    go_simp
    go_upto_region 11 with fail
    change Code.wp _ _ _ _ (dyW (dyW w1 b12 (.bool x.neg) (.slice A3 j3 c3) (.int .i64 x.e)) b12 (.bool x.neg) (.slice A4 j4 c4) (.int .i64 x.e))
    obtain ⟨X, hX⟩ : ∃ X, X = dyW (dyW w1 b12 (.bool x.neg) (.slice A3 j3 c3) (.int .i64 x.e)) b12 (.bool x.neg) (.slice A4 j4 c4) (.int .i64 x.e) := ⟨_, rfl⟩
    rw [← hX]
    have h2 := hx.laid (.bool x.neg) (.slice A3 j3 c3) (.int .i64 x.e)
    have BX : Hid (Blk X b12 (.bool x.neg) (.slice A4 j4 c4) (.int .i64 x.e)) := by rw [hX]; exact h2.laid _ _ _
    replace HB : Hid (Blk X (w.heap.size + 1) (.bool false) (.slice none 0 0) (.int .i64 0)) := by rw [hX]; exact ((HB.out.kept k1).laid_other (by omega) _ _ _).laid_other (by omega) _ _ _
    have Z4 : Hid (DyR X (.agg #[.bool x.neg, .slice A4 j4 c4, .int .i64 x.e]) x.raw) := by rw [hX]; exact (z2.dyW hx (noLimb_bool _) (noLimb_slice _ _ _) (noLimb_i64 _) _ _ _).dyW h2 (noLimb_bool _) (noLimb_slice _ _ _) (noLimb_i64 _) _ _ _
    replace K : Hid (Kept w X) := by rw [hX]; exact dyW_kept (dyW_kept (K.out.trans k1) (by omega)) (by omega)
    clear hX h2 hx hy y0 y1 y2 f0 f1 f2 v0 v1 v2 g0 g1 g2 k1 z1 z2
    obtain ⟨-, y0, y1, y2, -⟩ := BX.out.facts
    obtain ⟨-, v0, v1, v2, -⟩ := BX.out.facts
    go_wp2_with fail
    refine (CS.out _ _ _ Z4.out Z4.out).mono ?_
    rintro ee w5 ⟨rfl, q⟩
    simp only []
    replace K := Lib.hid (K.out.trans q)
    replace HB := Lib.hid (HB.out.kept q)
    replace BX := Lib.hid (BX.out.kept q)
    have ZZ := Lib.hid (Z4.out.kept q)
    clear q y0 y1 y2 v0 v1 v2
    obtain ⟨-, y0, y1, y2, -⟩ := BX.out.facts
    obtain ⟨-, v0, v1, v2, f0, f1, f2⟩ := HB.out.facts
    go_wp2_with fail
    rw [Exit.noGoto_ret]
    exact ret_dy2 (HB.out.laid _ _ _) rfl rfl rfl ⟨dyW_kept K.out (by omega), _, rfl, ZZ.out.dyW HB.out (noLimb_bool _) (noLimb_slice _ _ _) (noLimb_i64 _) _ _ _⟩
  · go_simp
    go_upto_region 11 with fail
    change Code.wp _ _ _ _ (dyW (dyW w1 b12 (.bool x.neg) (.slice A3 j3 c3) (.int .i64 x.e)) b13 (.bool x.neg) (.slice A4 j4 c4) (.int .i64 x.e))
    obtain ⟨X, hX⟩ : ∃ X, X = dyW (dyW w1 b12 (.bool x.neg) (.slice A3 j3 c3) (.int .i64 x.e)) b13 (.bool x.neg) (.slice A4 j4 c4) (.int .i64 x.e) := ⟨_, rfl⟩
    rw [← hX]
    have h2 := hy.laid_other (fun e => hne e.symm) (.bool x.neg) (.slice A3 j3 c3) (.int .i64 x.e)
    have BX : Hid (Blk X b12 (.bool x.neg) (.slice A3 j3 c3) (.int .i64 x.e)) := by rw [hX]; exact (hx.laid _ _ _).laid_other hne _ _ _
    have BY : Hid (Blk X b13 (.bool x.neg) (.slice A4 j4 c4) (.int .i64 x.e)) := by rw [hX]; exact h2.laid _ _ _
    replace HB : Hid (Blk X (w.heap.size + 1) (.bool false) (.slice none 0 0) (.int .i64 0)) := by rw [hX]; exact ((HB.out.kept k1).laid_other (by omega) _ _ _).laid_other (by omega) _ _ _
    have Z3 : Hid (DyR X (.agg #[.bool x.neg, .slice A3 j3 c3, .int .i64 x.e]) x.raw) := by rw [hX]; exact (z1.dyW hx (noLimb_bool _) (noLimb_slice _ _ _) (noLimb_i64 _) _ _ _).dyW h2 (noLimb_bool _) (noLimb_slice _ _ _) (noLimb_i64 _) _ _ _
    have Z4 : Hid (DyR X (.agg #[.bool x.neg, .slice A4 j4 c4, .int .i64 x.e]) x.raw) := by rw [hX]; exact (z2.dyW hx (noLimb_bool _) (noLimb_slice _ _ _) (noLimb_i64 _) _ _ _).dyW h2 (noLimb_bool _) (noLimb_slice _ _ _) (noLimb_i64 _) _ _ _
    replace K : Hid (Kept w X) := by rw [hX]; exact dyW_kept (dyW_kept (K.out.trans k1) (by omega)) (by omega)
    clear hX h2 hx hy y0 y1 y2 f0 f1 f2 v0 v1 v2 g0 g1 g2 k1 z1 z2
    obtain ⟨-, y0, y1, y2, -⟩ := BX.out.facts
    obtain ⟨-, v0, v1, v2, -⟩ := BY.out.facts
    go_wp2_with fail
    refine (CS.out _ _ _ Z3.out Z4.out).mono ?_
    rintro ee w5 ⟨rfl, q⟩
    simp only []
    replace K := Lib.hid (K.out.trans q)
    replace HB := Lib.hid (HB.out.kept q)
    replace BX := Lib.hid (BX.out.kept q)
    have ZZ := Lib.hid (Z3.out.kept q)
    clear q y0 y1 y2 v0 v1 v2
    obtain ⟨-, y0, y1, y2, -⟩ := BX.out.facts
    obtain ⟨-, v0, v1, v2, f0, f1, f2⟩ := HB.out.facts
    go_wp2_with fail
    rw [Exit.noGoto_ret]
    exact ret_dy2 (HB.out.laid _ _ _) rfl rfl rfl ⟨dyW_kept K.out (by omega), _, rfl, ZZ.out.dyW HB.out (noLimb_bool _) (noLimb_slice _ _ _) (noLimb_i64 _) _ _ _⟩


end Go.Proofs.YtjdplcenniogdaaDoor
