/- What layer 6 tells of a few: told. -/
import Derived.Test.YtjdplcenniogdaaDoorClaimTurnsp41
import Derived.Test.YtjdplcenniogdaaDoorClaimTurnsp42
namespace Go.Proofs.YtjdplcenniogdaaDoor
open Go.RowKit

theorem RetIE.good {o : Outc RawI} {w w' : World} {e : Ending} (h : RetIE o w e w') : GoodEnd (fun u w => ∃ d, u = .tuple #[d, .int .i64 o.k] ∧ IvR w d o.v) w e w' := by
  obtain ⟨k, v, he, hl⟩ := h
  exact ⟨_, he, k, v, rfl, hl⟩
theorem RetI.good {a : RawI} {w w' : World} {e : Ending} (h : RetI a w e w') : GoodEnd (fun u w => IvR w u a) w e w' := by
  obtain ⟨k, v, he, hl⟩ := h
  exact ⟨v, he, k, hl⟩
/-- A new box of an interval, filled. -/
theorem boxG (w : World) (x y z x' y' z' : Value) : ∃ V, V = w.alloc (.cells #[x, y, z, x', y', z'] 26) ∧ Kept w V ∧ BlkI V w.heap.size x y z x' y' z' ∧ w.heap.size < V.heap.size :=
  ⟨_, rfl, kept_alloc _ _, blkI_new _ _ _ _ _ _ _, by simp⟩

/-- Two orders, one end. -/
theorem dup {A B G : Prop} (a : G → A) (b : G → B) (g : G) : A ∧ B := ⟨a g, b g⟩
theorem dupO {A B C G : Prop} (a : G → A) (b : G → C) (g : G) : A ∧ (B ∨ C) := ⟨a g, .inr (b g)⟩
theorem blk_ivW {w : World} {b c : Nat} {x y z : Value} (h : Blk w b x y z) (hne : b ≠ c) (p q r p' q' r' : Value) : Blk (ivW w c p q r p' q' r') b x y z := (ivW_other _ _ _ _ _ _ _ _ _ hne).trans h
theorem blkI_ivW {w : World} {b c : Nat} {x y z x' y' z' : Value} (h : BlkI w b x y z x' y' z') (hne : b ≠ c) (p q r p' q' r' : Value) : BlkI (ivW w c p q r p' q' r') b x y z x' y' z' := (ivW_other _ _ _ _ _ _ _ _ _ hne).trans h

set_option maxHeartbeats 4000000 in
set_option maxRecDepth 100000 in
theorem told_c {w : World} (hT : Tab w) : Calls Tryd.prog 16 #[] w (RetK (.bool true) w) := by
  have T := Lib.hid hT
  clear hT
  go_enter Tryd.func16, Tryd.ntmps16
  go_wp2_with fail
  refine (t_of1 T.out).mono ?_
  rintro e w1 ⟨q, u, rfl, hd⟩
  obtain ⟨A1, l1, c1, rfl, hd⟩ := dy_lit hd
  simp only []
  obtain ⟨V1, hV1, kV1, hb1, lV1⟩ := boxF w1 (.bool true) (.slice A1 l1 c1) (.int .i64 0)
  have HV := Lib.hid hV1
  have K := Lib.hid (q.trans kV1)
  have B1 := Lib.hid hb1
  have D1 := Lib.hid (hd.kept kV1)
  have lA := Nat.le_refl w1.heap.size
  clear hV1 hb1 hd q kV1
  go_wp2_with fail
  rw [← HV.out]
  clear HV
  refine (t_of2 (T.out.kept K.out)).mono ?_
  rintro e w2 ⟨q, u, rfl, hd⟩
  obtain ⟨A2, l2, c2, rfl, hd⟩ := dy_lit hd
  simp only []
  obtain ⟨V2, hV2, kV2, hb2, lV2⟩ := boxF w2 (.bool false) (.slice A2 l2 c2) (.int .i64 1)
  have HV := Lib.hid hV2
  replace K := Lib.hid (K.out.trans (q.trans kV2))
  replace B1 := Lib.hid (B1.out.kept (q.trans kV2))
  replace D1 := Lib.hid (D1.out.kept (q.trans kV2))
  have B2 := Lib.hid hb2
  have D2 := Lib.hid (hd.kept kV2)
  clear hV2 hb2 hd q kV2
  obtain ⟨-, a0, a1, a2, -⟩ := B1.out.facts
  obtain ⟨-, b0, b1, b2, -⟩ := B2.out.facts
  generalize w1.heap.size = n1 at *
  go_upto_region 3 with fail
  rw [← HV.out]
  clear HV
  generalize w2.heap.size = n2 at *
  go_wp2_with fail
  refine (t_sqr ⟨_, _, _, _, _, _, rfl, D1.out, D2.out⟩ (T.out.kept K.out)).mono ?_
  rintro e w3 ⟨q, u, rfl, hd⟩
  obtain ⟨A3, l3, c3, A4, l4, c4, rfl, h3, h4⟩ := iv_lit hd
  simp only []
  obtain ⟨V3, hV3, kV3, hb3, lV3⟩ := boxG w3 (.bool false) (.slice A3 l3 c3) (.int .i64 0) (.bool false) (.slice A4 l4 c4) (.int .i64 2)
  have HV := Lib.hid hV3
  replace K := Lib.hid (K.out.trans (q.trans kV3))
  replace B1 := Lib.hid (B1.out.kept (q.trans kV3))
  replace D1 := Lib.hid (D1.out.kept (q.trans kV3))
  replace B2 := Lib.hid (B2.out.kept (q.trans kV3))
  replace D2 := Lib.hid (D2.out.kept (q.trans kV3))
  have B3 := Lib.hid hb3
  have D3 := Lib.hid (h3.kept kV3)
  clear hV3 hb3 h3 h4 hd q kV3 a0 a1 a2 b0 b1 b2
  go_upto_region 4 with fail
  rw [← HV.out]
  clear HV
  generalize w3.heap.size = n3 at *
  refine region_lin2e (e := 7) (m := 9) (V := VL [
      (fun v _ => v = (.agg #[.bool true, .slice A1 l1 c1, .int .i64 0])),
      (fun v wv => IvR wv v (⟨⟨true, [1], 0⟩, ⟨true, [1], 0⟩⟩ : RawI)),
      (fun v _ => v = (.agg #[.bool false, .slice A2 l2 c2, .int .i64 1])),
      (fun v wv => IvR wv v (⟨⟨false, [1], 1⟩, ⟨false, [1], 1⟩⟩ : RawI)),
      (fun v wv => ∃ d, v = .tuple #[d, .int .i64 (⟨⟨⟨false, [1], 0⟩, ⟨false, [1], 0⟩⟩, 0⟩ : Outc RawI).k] ∧ IvR wv d (⟨⟨⟨false, [1], 0⟩, ⟨false, [1], 0⟩⟩, 0⟩ : Outc RawI).v),
      (fun v wv => ∃ d, v = .tuple #[d, .int .i64 (⟨⟨⟨false, [1], 0⟩, ⟨false, [1], 0⟩⟩, 0⟩ : Outc RawI).k] ∧ IvR wv d (⟨⟨⟨false, [1], 0⟩, ⟨false, [1], 0⟩⟩, 0⟩ : Outc RawI).v),
      (fun v wv => IvR wv v (⟨⟨⟨false, [1], 0⟩, ⟨false, [1], 0⟩⟩, 0⟩ : Outc RawI).v),
      (fun v _ => v = (.int .i64 (⟨⟨⟨false, [1], 0⟩, ⟨false, [1], 0⟩⟩, 0⟩ : Outc RawI).k)),
      (fun v wv => ∃ b, v = .pointer (some ⟨b, 0, none⟩) ∧ V3.heap.size ≤ b ∧ BlkI wv b (.bool false) (.slice none 0 0) (.int .i64 0) (.bool false) (.slice none 0 0) (.int .i64 0))])
    (by kernel_rfl) rfl rfl rfl rfl rfl rfl rfl (by decide) (by kernel_rfl) (by kernel_rfl) (by kernel_rfl) (by kernel_rfl) (by kernel_rfl) (by kernel_rfl) (mono_of _ ⟨mono_eq _, fun v w w' k h => by first | exact h | exact h.kept k | exact ⟨h.1, h.2.kept k⟩, mono_eq _, fun v w w' k h => by first | exact h | exact h.kept k | exact ⟨h.1, h.2.kept k⟩, fun v w w' k h => by obtain ⟨d, h1, h2⟩ := h; exact ⟨d, h1, h2.kept k⟩, fun v w w' k h => by obtain ⟨d, h1, h2⟩ := h; exact ⟨d, h1, h2.kept k⟩, fun v w w' k h => by first | exact h | exact h.kept k | exact ⟨h.1, h.2.kept k⟩, mono_eq _, fun v w w' k h => by obtain ⟨b, h1, h2, h3⟩ := h; exact ⟨b, h1, h2, h3.kept k⟩, trivial⟩) (steps_of ⟨
      (fun aF wF F => by
    have s1 : aF.tmps.getD 1 undef = (.pointer (some ⟨n1, 0, none⟩)) := F.old 1 (by kernel_rfl)
    have c0 := cell_at B1.out F.kept 0 _ rfl
    have c1 := cell_at B1.out F.kept 1 _ rfl
    have c2 := cell_at B1.out F.kept 2 _ rfl
    exact step_val (by simp [Region.wanted]) (by go_simp) rfl),
      (fun aF wF F => by
    have s29 : aF.tmps.getD 29 undef = (.agg #[.bool true, .slice A1 l1 c1, .int .i64 0]) := F.done 0 29 (by kernel_rfl) rfl
    exact step_good (by simp [Region.wanted]) (by go_simp) (iof_c (D1.out.kept F.kept)) (fun _ _ h => RetI.good h) (fun _ _ h => h)),
      (fun aF wF F => by
    have s3 : aF.tmps.getD 3 undef = (.pointer (some ⟨n2, 0, none⟩)) := F.old 3 (by kernel_rfl)
    have c0 := cell_at B2.out F.kept 0 _ rfl
    have c1 := cell_at B2.out F.kept 1 _ rfl
    have c2 := cell_at B2.out F.kept 2 _ rfl
    exact step_val (by simp [Region.wanted]) (by go_simp) rfl),
      (fun aF wF F => by
    have s31 : aF.tmps.getD 31 undef = (.agg #[.bool false, .slice A2 l2 c2, .int .i64 1]) := F.done 2 31 (by kernel_rfl) rfl
    exact step_good (by simp [Region.wanted]) (by go_simp) (iof_c (D2.out.kept F.kept)) (fun _ _ h => RetI.good h) (fun _ _ h => h)),
      (fun aF wF F => by
    have s30 : (fun v wv => IvR wv v (⟨⟨true, [1], 0⟩, ⟨true, [1], 0⟩⟩ : RawI)) (aF.tmps.getD 30 undef) wF := F.done 1 30 (by kernel_rfl) rfl
    have s32 : (fun v wv => IvR wv v (⟨⟨false, [1], 1⟩, ⟨false, [1], 1⟩⟩ : RawI)) (aF.tmps.getD 32 undef) wF := F.done 3 32 (by kernel_rfl) rfl
    exact step_good (by simp [Region.wanted]) (by go_simp) (t_add s30 s32 (T.out.kept (K.out.trans F.kept))) (fun _ _ h => RetIE.good h) (fun _ _ h => h)),
      (fun aF wF F => by
    have s33 : (fun v wv => ∃ d, v = .tuple #[d, .int .i64 (⟨⟨⟨false, [1], 0⟩, ⟨false, [1], 0⟩⟩, 0⟩ : Outc RawI).k] ∧ IvR wv d (⟨⟨⟨false, [1], 0⟩, ⟨false, [1], 0⟩⟩, 0⟩ : Outc RawI).v) (aF.tmps.getD 33 undef) wF := F.done 4 33 (by kernel_rfl) rfl
    exact step_val (by simp [Region.wanted]) rfl s33),
      (fun aF wF F => by
    have s28 : (fun v wv => ∃ d, v = .tuple #[d, .int .i64 (⟨⟨⟨false, [1], 0⟩, ⟨false, [1], 0⟩⟩, 0⟩ : Outc RawI).k] ∧ IvR wv d (⟨⟨⟨false, [1], 0⟩, ⟨false, [1], 0⟩⟩, 0⟩ : Outc RawI).v) (aF.tmps.getD 28 undef) wF := F.done 5 28 (by kernel_rfl) rfl
    obtain ⟨dd, ee, hh⟩ := s28; exact step_val (by simp [Region.wanted]) (by go_simp) hh),
      (fun aF wF F => by
    have s28 : (fun v wv => ∃ d, v = .tuple #[d, .int .i64 (⟨⟨⟨false, [1], 0⟩, ⟨false, [1], 0⟩⟩, 0⟩ : Outc RawI).k] ∧ IvR wv d (⟨⟨⟨false, [1], 0⟩, ⟨false, [1], 0⟩⟩, 0⟩ : Outc RawI).v) (aF.tmps.getD 28 undef) wF := F.done 5 28 (by kernel_rfl) rfl
    exact step_val (by simp [Region.wanted]) (by obtain ⟨dd, ee, hh⟩ := s28; go_simp) rfl),
      (fun aF wF F => by
    exact step_new (by simp [Region.wanted]) (by go_simp) (kept_alloc _ _) ⟨_, rfl, F.kept.size, blkI_zero _⟩),
      trivial⟩) ?_
  intro u w1 k1 hu
  have e29 : u 0 = (.agg #[.bool true, .slice A1 l1 c1, .int .i64 0]) := hu 0 (by decide) (by decide)
  have p30 := hu 1 (by decide) (by decide)
  obtain ⟨v30, e30⟩ : ∃ v, u 1 = v := ⟨_, rfl⟩
  rw [e30] at p30
  try simp only [VL, List.getD_cons_zero, List.getD_cons_succ] at p30
  have e31 : u 2 = (.agg #[.bool false, .slice A2 l2 c2, .int .i64 1]) := hu 2 (by decide) (by decide)
  have p32 := hu 3 (by decide) (by decide)
  obtain ⟨v32, e32⟩ : ∃ v, u 3 = v := ⟨_, rfl⟩
  rw [e32] at p32
  try simp only [VL, List.getD_cons_zero, List.getD_cons_succ] at p32
  have p33 := hu 4 (by decide) (by decide)
  obtain ⟨v33, e33⟩ : ∃ v, u 4 = v := ⟨_, rfl⟩
  rw [e33] at p33
  try simp only [VL, List.getD_cons_zero, List.getD_cons_succ] at p33
  have p28 := hu 5 (by decide) (by decide)
  obtain ⟨v28, e28⟩ : ∃ v, u 5 = v := ⟨_, rfl⟩
  rw [e28] at p28
  try simp only [VL, List.getD_cons_zero, List.getD_cons_succ] at p28
  have p34 := hu 6 (by decide) (by decide)
  obtain ⟨v34, e34⟩ : ∃ v, u 6 = v := ⟨_, rfl⟩
  rw [e34] at p34
  try simp only [VL, List.getD_cons_zero, List.getD_cons_succ] at p34
  have p7 := hu 8 (by decide) (by decide)
  obtain ⟨v7, e7⟩ : ∃ v, u 8 = v := ⟨_, rfl⟩
  rw [e7] at p7
  try simp only [VL, List.getD_cons_zero, List.getD_cons_succ] at p7
  clear hu
  obtain ⟨b7, rfl, hb7, hB7⟩ := p7
  obtain ⟨A5, l5, c5, A6, l6, c6, rfl, h5, h6⟩ := iv_lit p34
  obtain ⟨-, r0, r1, r2, r3, r4, r5⟩ := hB7.facts
  obtain ⟨f0, f1, f2, f3, f4, f5⟩ := hB7.free
  clear p30 p32 p34
  obtain ⟨d28, rfl, -⟩ := p28
  apply dup
  · intro G he
    simp only [VL, List.getD_cons_zero, List.getD_cons_succ] at he
    simp only [if_true, puts, slotOf, Act.put, List.setIfInBounds_toArray, List.set_cons_zero, List.set_cons_succ, List.getElem?_toArray, List.getElem?_cons_zero, List.getElem?_cons_succ, Option.bind_some, e29, e30, e31, e32, e33, e28, e34, e7, he]
    go_simp
    exact G
  · intro G
    simp only [puts, slotOf, Act.put, List.setIfInBounds_toArray, List.set_cons_zero, List.set_cons_succ, List.getElem?_toArray, List.getElem?_cons_zero, List.getElem?_cons_succ, Option.bind_some, e29, e30, e31, e32, e33, e28, e34, e7]
    go_simp
    exact G
  clear e29 e30 e31 e32 e33 e28 e34 e7
  go_upto_region 5 with fail
  change Code.wp _ _ _ _ (ivW w1 b7 _ _ _ _ _ _)
  have l1 := B1.out.facts.1
  have l2 := B2.out.facts.1
  have KX := Lib.hid (ivW_kept (x := .bool false) (y := .slice A5 l5 c5) (z := .int .i64 0) (x' := .bool false) (y' := .slice A6 l6 c6) (z' := .int .i64 0) (K.out.trans k1) (show w.heap.size ≤ b7 by have := K.out.size; omega))
  have X1 := Lib.hid (blk_ivW (B1.out.kept k1) (show n1 ≠ b7 by omega) (.bool false) (.slice A5 l5 c5) (.int .i64 0) (.bool false) (.slice A6 l6 c6) (.int .i64 0))
  have X2 := Lib.hid (blk_ivW (B2.out.kept k1) (show n2 ≠ b7 by omega) (.bool false) (.slice A5 l5 c5) (.int .i64 0) (.bool false) (.slice A6 l6 c6) (.int .i64 0))
  have l3 := B3.out.facts.1
  have X3 := Lib.hid (blkI_ivW (B3.out.kept k1) (show n3 ≠ b7 by omega) (.bool false) (.slice A5 l5 c5) (.int .i64 0) (.bool false) (.slice A6 l6 c6) (.int .i64 0))
  have E1 := Lib.hid ((D1.out.kept k1).ivW hB7 (.bool false) (.slice A5 l5 c5) (.int .i64 0) (.bool false) (.slice A6 l6 c6) (.int .i64 0))
  have E2 := Lib.hid ((D2.out.kept k1).ivW hB7 (.bool false) (.slice A5 l5 c5) (.int .i64 0) (.bool false) (.slice A6 l6 c6) (.int .i64 0))
  have E3 := Lib.hid ((D3.out.kept k1).ivW hB7 (.bool false) (.slice A5 l5 c5) (.int .i64 0) (.bool false) (.slice A6 l6 c6) (.int .i64 0))
  have E5 := Lib.hid (h5.ivW hB7 (.bool false) (.slice A5 l5 c5) (.int .i64 0) (.bool false) (.slice A6 l6 c6) (.int .i64 0))
  have E6 := Lib.hid (h6.ivW hB7 (.bool false) (.slice A5 l5 c5) (.int .i64 0) (.bool false) (.slice A6 l6 c6) (.int .i64 0))
  have X7 := Lib.hid (hB7.laid (.bool false) (.slice A5 l5 c5) (.int .i64 0) (.bool false) (.slice A6 l6 c6) (.int .i64 0))
  clear h5 h6 hB7 hb7 k1 r0 r1 r2 r3 r4 r5 f0 f1 f2 f3 f4 f5 K B1 B2 B3 D1 D2 D3 l1 l2 l3
  generalize ivW w1 b7 (.bool false) (.slice A5 l5 c5) (.int .i64 0) (.bool false) (.slice A6 l6 c6) (.int .i64 0) = X at *
  refine region_lin2e (e := 8) (m := 10) (V := VL [
      (fun v _ => v = (.agg #[.bool false, .slice A2 l2 c2, .int .i64 1])),
      (fun v wv => IvR wv v (⟨⟨false, [1], 1⟩, ⟨false, [1], 1⟩⟩ : RawI)),
      (fun v _ => v = (.agg #[.bool true, .slice A1 l1 c1, .int .i64 0])),
      (fun v _ => v = (.agg #[.bool false, .slice A2 l2 c2, .int .i64 1])),
      (fun v wv => IvR wv v ⟨⟨true, [1], 0⟩, ⟨false, [1], 1⟩⟩),
      (fun v wv => ∃ d, v = .tuple #[d, .int .i64 (⟨⟨⟨false, [], 0⟩, ⟨false, [], 0⟩⟩, 4⟩ : Outc RawI).k] ∧ IvR wv d (⟨⟨⟨false, [], 0⟩, ⟨false, [], 0⟩⟩, 4⟩ : Outc RawI).v),
      (fun v wv => ∃ d, v = .tuple #[d, .int .i64 (⟨⟨⟨false, [], 0⟩, ⟨false, [], 0⟩⟩, 4⟩ : Outc RawI).k] ∧ IvR wv d (⟨⟨⟨false, [], 0⟩, ⟨false, [], 0⟩⟩, 4⟩ : Outc RawI).v),
      (fun v wv => IvR wv v (⟨⟨⟨false, [], 0⟩, ⟨false, [], 0⟩⟩, 4⟩ : Outc RawI).v),
      (fun v _ => v = (.int .i64 (⟨⟨⟨false, [], 0⟩, ⟨false, [], 0⟩⟩, 4⟩ : Outc RawI).k)),
      (fun v wv => ∃ b, v = .pointer (some ⟨b, 0, none⟩) ∧ X.heap.size ≤ b ∧ BlkI wv b (.bool false) (.slice none 0 0) (.int .i64 0) (.bool false) (.slice none 0 0) (.int .i64 0))])
    (by kernel_rfl) rfl rfl rfl rfl rfl rfl rfl (by decide) (by kernel_rfl) (by kernel_rfl) (by kernel_rfl) (by kernel_rfl) (by kernel_rfl) (by kernel_rfl) (mono_of _ ⟨mono_eq _, fun v w w' k h => by first | exact h | exact h.kept k | exact ⟨h.1, h.2.kept k⟩, mono_eq _, mono_eq _, fun v w w' k h => by first | exact h | exact h.kept k | exact ⟨h.1, h.2.kept k⟩, fun v w w' k h => by obtain ⟨d, h1, h2⟩ := h; exact ⟨d, h1, h2.kept k⟩, fun v w w' k h => by obtain ⟨d, h1, h2⟩ := h; exact ⟨d, h1, h2.kept k⟩, fun v w w' k h => by first | exact h | exact h.kept k | exact ⟨h.1, h.2.kept k⟩, mono_eq _, fun v w w' k h => by obtain ⟨b, h1, h2, h3⟩ := h; exact ⟨b, h1, h2, h3.kept k⟩, trivial⟩) (steps_of ⟨
      (fun aF wF F => by
    have s3 : aF.tmps.getD 3 undef = (.pointer (some ⟨n2, 0, none⟩)) := F.old 3 (by kernel_rfl)
    have c0 := cell_at X2.out F.kept 0 _ rfl
    have c1 := cell_at X2.out F.kept 1 _ rfl
    have c2 := cell_at X2.out F.kept 2 _ rfl
    exact step_val (by simp [Region.wanted]) (by go_simp) rfl),
      (fun aF wF F => by
    have s37 : aF.tmps.getD 37 undef = (.agg #[.bool false, .slice A2 l2 c2, .int .i64 1]) := F.done 0 37 (by kernel_rfl) rfl
    exact step_good (by simp [Region.wanted]) (by go_simp) (iof_c (E2.out.kept F.kept)) (fun _ _ h => RetI.good h) (fun _ _ h => h)),
      (fun aF wF F => by
    have s1 : aF.tmps.getD 1 undef = (.pointer (some ⟨n1, 0, none⟩)) := F.old 1 (by kernel_rfl)
    have c0 := cell_at X1.out F.kept 0 _ rfl
    have c1 := cell_at X1.out F.kept 1 _ rfl
    have c2 := cell_at X1.out F.kept 2 _ rfl
    exact step_val (by simp [Region.wanted]) (by go_simp) rfl),
      (fun aF wF F => by
    have s3 : aF.tmps.getD 3 undef = (.pointer (some ⟨n2, 0, none⟩)) := F.old 3 (by kernel_rfl)
    have c0 := cell_at X2.out F.kept 0 _ rfl
    have c1 := cell_at X2.out F.kept 1 _ rfl
    have c2 := cell_at X2.out F.kept 2 _ rfl
    exact step_val (by simp [Region.wanted]) (by go_simp) rfl),
      (fun aF wF F => by
    have s39 : aF.tmps.getD 39 undef = (.agg #[.bool true, .slice A1 l1 c1, .int .i64 0]) := F.done 2 39 (by kernel_rfl) rfl
    have s40 : aF.tmps.getD 40 undef = (.agg #[.bool false, .slice A2 l2 c2, .int .i64 1]) := F.done 3 40 (by kernel_rfl) rfl
    simp only [Array.getD_eq_getD_getElem?] at s39
    simp only [Array.getD_eq_getD_getElem?] at s40
    exact step_val (by simp [Region.wanted]) (by go_simp) ⟨_, _, _, _, _, _, rfl, E1.out.kept F.kept, E2.out.kept F.kept⟩),
      (fun aF wF F => by
    have s38 : (fun v wv => IvR wv v (⟨⟨false, [1], 1⟩, ⟨false, [1], 1⟩⟩ : RawI)) (aF.tmps.getD 38 undef) wF := F.done 1 38 (by kernel_rfl) rfl
    have s41 : (fun v wv => IvR wv v ⟨⟨true, [1], 0⟩, ⟨false, [1], 1⟩⟩) (aF.tmps.getD 41 undef) wF := F.done 4 41 (by kernel_rfl) rfl
    exact step_good (by simp [Region.wanted]) (by go_simp) (t_div s38 s41 (T.out.kept (KX.out.trans F.kept))) (fun _ _ h => RetIE.good h) (fun _ _ h => h)),
      (fun aF wF F => by
    have s42 : (fun v wv => ∃ d, v = .tuple #[d, .int .i64 (⟨⟨⟨false, [], 0⟩, ⟨false, [], 0⟩⟩, 4⟩ : Outc RawI).k] ∧ IvR wv d (⟨⟨⟨false, [], 0⟩, ⟨false, [], 0⟩⟩, 4⟩ : Outc RawI).v) (aF.tmps.getD 42 undef) wF := F.done 5 42 (by kernel_rfl) rfl
    exact step_val (by simp [Region.wanted]) rfl s42),
      (fun aF wF F => by
    have s36 : (fun v wv => ∃ d, v = .tuple #[d, .int .i64 (⟨⟨⟨false, [], 0⟩, ⟨false, [], 0⟩⟩, 4⟩ : Outc RawI).k] ∧ IvR wv d (⟨⟨⟨false, [], 0⟩, ⟨false, [], 0⟩⟩, 4⟩ : Outc RawI).v) (aF.tmps.getD 36 undef) wF := F.done 6 36 (by kernel_rfl) rfl
    obtain ⟨dd, ee, hh⟩ := s36; exact step_val (by simp [Region.wanted]) (by go_simp) hh),
      (fun aF wF F => by
    have s36 : (fun v wv => ∃ d, v = .tuple #[d, .int .i64 (⟨⟨⟨false, [], 0⟩, ⟨false, [], 0⟩⟩, 4⟩ : Outc RawI).k] ∧ IvR wv d (⟨⟨⟨false, [], 0⟩, ⟨false, [], 0⟩⟩, 4⟩ : Outc RawI).v) (aF.tmps.getD 36 undef) wF := F.done 6 36 (by kernel_rfl) rfl
    exact step_val (by simp [Region.wanted]) (by obtain ⟨dd, ee, hh⟩ := s36; go_simp) rfl),
      (fun aF wF F => by
    exact step_new (by simp [Region.wanted]) (by go_simp) (kept_alloc _ _) ⟨_, rfl, F.kept.size, blkI_zero _⟩),
      trivial⟩) ?_
  intro u w1 k1 hu
  have e37 : u 0 = (.agg #[.bool false, .slice A2 l2 c2, .int .i64 1]) := hu 0 (by decide) (by decide)
  have p38 := hu 1 (by decide) (by decide)
  obtain ⟨v38, e38⟩ : ∃ v, u 1 = v := ⟨_, rfl⟩
  rw [e38] at p38
  try simp only [VL, List.getD_cons_zero, List.getD_cons_succ] at p38
  have e39 : u 2 = (.agg #[.bool true, .slice A1 l1 c1, .int .i64 0]) := hu 2 (by decide) (by decide)
  have e40 : u 3 = (.agg #[.bool false, .slice A2 l2 c2, .int .i64 1]) := hu 3 (by decide) (by decide)
  have p41 := hu 4 (by decide) (by decide)
  obtain ⟨v41, e41⟩ : ∃ v, u 4 = v := ⟨_, rfl⟩
  rw [e41] at p41
  try simp only [VL, List.getD_cons_zero, List.getD_cons_succ] at p41
  have p42 := hu 5 (by decide) (by decide)
  obtain ⟨v42, e42⟩ : ∃ v, u 5 = v := ⟨_, rfl⟩
  rw [e42] at p42
  try simp only [VL, List.getD_cons_zero, List.getD_cons_succ] at p42
  have p36 := hu 6 (by decide) (by decide)
  obtain ⟨v36, e36⟩ : ∃ v, u 6 = v := ⟨_, rfl⟩
  rw [e36] at p36
  try simp only [VL, List.getD_cons_zero, List.getD_cons_succ] at p36
  have p43 := hu 7 (by decide) (by decide)
  obtain ⟨v43, e43⟩ : ∃ v, u 7 = v := ⟨_, rfl⟩
  rw [e43] at p43
  try simp only [VL, List.getD_cons_zero, List.getD_cons_succ] at p43
  have p9 := hu 9 (by decide) (by decide)
  obtain ⟨v9, e9⟩ : ∃ v, u 9 = v := ⟨_, rfl⟩
  rw [e9] at p9
  try simp only [VL, List.getD_cons_zero, List.getD_cons_succ] at p9
  clear hu
  obtain ⟨b9, rfl, hb9, hB9⟩ := p9
  obtain ⟨Ap, lp, cp, Aq, lq, cq, rfl, h7, h8⟩ := iv_lit p43
  obtain ⟨-, r0, r1, r2, r3, r4, r5⟩ := hB9.facts
  obtain ⟨f0, f1, f2, f3, f4, f5⟩ := hB9.free
  clear p38 p41 p43
  obtain ⟨d36, rfl, -⟩ := p36
  apply dup
  · intro G he
    simp only [VL, List.getD_cons_zero, List.getD_cons_succ] at he
    simp only [if_true, puts, slotOf, Act.put, List.setIfInBounds_toArray, List.set_cons_zero, List.set_cons_succ, List.getElem?_toArray, List.getElem?_cons_zero, List.getElem?_cons_succ, Option.bind_some, e37, e38, e39, e40, e41, e42, e36, e43, e9, he]
    go_simp
    exact G
  · intro G
    simp only [puts, slotOf, Act.put, List.setIfInBounds_toArray, List.set_cons_zero, List.set_cons_succ, List.getElem?_toArray, List.getElem?_cons_zero, List.getElem?_cons_succ, Option.bind_some, e37, e38, e39, e40, e41, e42, e36, e43, e9]
    go_simp
    exact G
  clear e37 e38 e39 e40 e41 e42 e36 e43 e9
  go_upto_region 6 with fail
  change Code.wp _ _ _ _ (ivW w1 b9 _ _ _ _ _ _)
  have l1 := X1.out.facts.1
  have l3 := X3.out.facts.1
  have l7 := X7.out.facts.1
  have K := Lib.hid (ivW_kept (x := .bool false) (y := .slice Ap lp cp) (z := .int .i64 0) (x' := .bool false) (y' := .slice Aq lq cq) (z' := .int .i64 0) (KX.out.trans k1) (show w.heap.size ≤ b9 by have := KX.out.size; omega))
  have B1 := Lib.hid (blk_ivW (X1.out.kept k1) (show n1 ≠ b9 by omega) (.bool false) (.slice Ap lp cp) (.int .i64 0) (.bool false) (.slice Aq lq cq) (.int .i64 0))
  have B3 := Lib.hid (blkI_ivW (X3.out.kept k1) (show n3 ≠ b9 by omega) (.bool false) (.slice Ap lp cp) (.int .i64 0) (.bool false) (.slice Aq lq cq) (.int .i64 0))
  have B7 := Lib.hid (blkI_ivW (X7.out.kept k1) (show b7 ≠ b9 by omega) (.bool false) (.slice Ap lp cp) (.int .i64 0) (.bool false) (.slice Aq lq cq) (.int .i64 0))
  have D1 := Lib.hid ((E1.out.kept k1).ivW hB9 (.bool false) (.slice Ap lp cp) (.int .i64 0) (.bool false) (.slice Aq lq cq) (.int .i64 0))
  have D3 := Lib.hid ((E3.out.kept k1).ivW hB9 (.bool false) (.slice Ap lp cp) (.int .i64 0) (.bool false) (.slice Aq lq cq) (.int .i64 0))
  have D5 := Lib.hid ((E5.out.kept k1).ivW hB9 (.bool false) (.slice Ap lp cp) (.int .i64 0) (.bool false) (.slice Aq lq cq) (.int .i64 0))
  have D6 := Lib.hid ((E6.out.kept k1).ivW hB9 (.bool false) (.slice Ap lp cp) (.int .i64 0) (.bool false) (.slice Aq lq cq) (.int .i64 0))
  clear h7 h8 hB9 hb9 k1 r0 r1 r2 r3 r4 r5 f0 f1 f2 f3 f4 f5 KX X1 X2 X3 X7 E1 E2 E3 E5 E6 l1 l3
  generalize ivW w1 b9 (.bool false) (.slice Ap lp cp) (.int .i64 0) (.bool false) (.slice Aq lq cq) (.int .i64 0) = Y at *
  obtain ⟨-, a0, a1, a2, -⟩ := B1.out.facts
  go_wp2_with fail
  refine (iof_c D1.out).mono ?_
  rintro e w5 ⟨q, u, rfl, hd⟩
  simp only []
  go_wp2_with fail
  refine (t_sqrt hd (T.out.kept (K.out.trans q))).mono ?_
  rintro e w6 ⟨q6, u6, rfl, hd6⟩
  obtain ⟨A9, l9, c9, Aa, la, ca, rfl, -, -⟩ := iv_lit hd6
  obtain ⟨V, hV, kV, -, -⟩ := boxG w6 (.bool false) (.slice A9 l9 c9) (.int .i64 0) (.bool false) (.slice Aa la ca) (.int .i64 0)
  have HV := Lib.hid hV
  have kk := q.trans (q6.trans kV)
  replace K := Lib.hid (K.out.trans kk)
  replace B3 := Lib.hid (B3.out.kept kk)
  replace B7 := Lib.hid (B7.out.kept kk)
  replace D3 := Lib.hid (D3.out.kept kk)
  replace D5 := Lib.hid (D5.out.kept kk)
  replace D6 := Lib.hid (D6.out.kept kk)
  clear kk q q6 hd hd6 a0 a1 a2 B1 D1 hV kV
  simp only []
  go_upto_region 7 with fail
  rw [← HV.out]
  clear HV
  refine region_seq (m := 44) (V := VL [
      (fun v _ => v = .int .i64 0),
      (fun v _ => v = .int .i64 0),
      (fun v _ => v = (.int .i64 0)),
      (fun v _ => v = .int .i64 0),
      (fun v _ => v = (.int .i64 0)),
      (fun v _ => v = .int .i64 0),
      (fun v _ => v = (.int .i64 0)),
      (fun v _ => v = (.bool true)),
      (fun v _ => v = (.bool true)),
      (fun v _ => v = (.pointer (some ⟨n3, 0, none⟩))),
      (fun v _ => v = (.agg #[.bool false, .slice A3 l3 c3, .int .i64 0])),
      (fun v _ => v = (.int .i64 0)),
      (fun v _ => v = (.bool true)),
      (fun v _ => v = (.bool true)),
      (fun v _ => v = (.bool true)),
      (fun v _ => v = (.pointer (some ⟨n3, 3, none⟩))),
      (fun v _ => v = (.pointer (some ⟨n3, 5, none⟩))),
      (fun v _ => v = (.int .i64 2)),
      (fun v _ => v = (.bool true)),
      (fun v _ => v = (.bool true)),
      (fun v _ => v = (.bool true)),
      (fun v _ => v = (.pointer (some ⟨b7, 0, none⟩))),
      (fun v _ => v = (.agg #[.bool false, .slice A5 l5 c5, .int .i64 0])),
      (fun v _ => v = (.pointer (some ⟨b7, 3, none⟩))),
      (fun v _ => v = (.agg #[.bool false, .slice A6 l6 c6, .int .i64 0])),
      (fun v _ => v = (.int .i64 0)),
      (fun v _ => v = (.bool true)),
      (fun v _ => v = (.bool true)),
      (fun v _ => v = (.bool true)),
      (fun v _ => v = (.pointer (some ⟨b7, 0, none⟩))),
      (fun v _ => v = (.agg #[.bool false, .slice A5 l5 c5, .int .i64 0])),
      (fun v wv => ∃ b, v = .slice (some ⟨b, 0, none⟩) 1 1 ∧ Lim wv (.slice (some ⟨b, 0, none⟩) 1 1) [1]),
      (fun v wv => DyR wv v ⟨false, [1], 0⟩),
      (fun v _ => v = (.bool true)),
      (fun v _ => v = (.bool true)),
      (fun v _ => v = (.bool true)),
      (fun v _ => v = .int .i64 4),
      (fun v _ => v = (.bool true)),
      (fun v _ => v = (.bool true)),
      (fun v _ => v = (.bool true)),
      (fun v _ => v = .int .i64 4),
      (fun v _ => v = (.bool true)),
      (fun v _ => v = (.bool true)),
      (fun v _ => v = (.bool true))])
    rfl (by kernel_rfl) (by kernel_rfl) (by kernel_rfl) (mono_of _ ⟨mono_eq _, mono_eq _, mono_eq _, mono_eq _, mono_eq _, mono_eq _, mono_eq _, mono_eq _, mono_eq _, mono_eq _, mono_eq _, mono_eq _, mono_eq _, mono_eq _, mono_eq _, mono_eq _, mono_eq _, mono_eq _, mono_eq _, mono_eq _, mono_eq _, mono_eq _, mono_eq _, mono_eq _, mono_eq _, mono_eq _, mono_eq _, mono_eq _, mono_eq _, mono_eq _, mono_eq _, fun v w w' k h => by obtain ⟨b, h1, h2⟩ := h; exact ⟨b, h1, h2.kept k⟩, fun v w w' k h => by first | exact h | exact h.kept k | exact ⟨h.1, h.2.kept k⟩, mono_eq _, mono_eq _, mono_eq _, mono_eq _, mono_eq _, mono_eq _, mono_eq _, mono_eq _, mono_eq _, mono_eq _, mono_eq _, trivial⟩) (steps_of ⟨
      (fun aF wF F => by
    have s2 : aF.tmps.getD 2 undef = .int .i64 0 := F.old 2 (by kernel_rfl)
    exact step_val (by simp [Region.wanted]) (by go_simp) rfl),
      (fun aF wF F => by
    have s4 : aF.tmps.getD 4 undef = .int .i64 0 := F.old 4 (by kernel_rfl)
    exact step_val (by simp [Region.wanted]) (by go_simp) rfl),
      (fun aF wF F => by
    have s51 : aF.tmps.getD 51 undef = .int .i64 0 := F.done 0 51 (by kernel_rfl) rfl
    have s52 : aF.tmps.getD 52 undef = .int .i64 0 := F.done 1 52 (by kernel_rfl) rfl
    exact step_val (by simp [Region.wanted]) (by (go_simp; rfl)) rfl),
      (fun aF wF F => by
    have s6 : aF.tmps.getD 6 undef = .int .i64 0 := F.old 6 (by kernel_rfl)
    exact step_val (by simp [Region.wanted]) (by go_simp) rfl),
      (fun aF wF F => by
    have s53 : aF.tmps.getD 53 undef = (.int .i64 0) := F.done 2 53 (by kernel_rfl) rfl
    have s54 : aF.tmps.getD 54 undef = .int .i64 0 := F.done 3 54 (by kernel_rfl) rfl
    exact step_val (by simp [Region.wanted]) (by (go_simp; rfl)) rfl),
      (fun aF wF F => by
    have s8 : aF.tmps.getD 8 undef = .int .i64 0 := F.old 8 (by kernel_rfl)
    exact step_val (by simp [Region.wanted]) (by go_simp) rfl),
      (fun aF wF F => by
    have s55 : aF.tmps.getD 55 undef = (.int .i64 0) := F.done 4 55 (by kernel_rfl) rfl
    have s56 : aF.tmps.getD 56 undef = .int .i64 0 := F.done 5 56 (by kernel_rfl) rfl
    exact step_val (by simp [Region.wanted]) (by (go_simp; rfl)) rfl),
      (fun aF wF F => by
    have s57 : aF.tmps.getD 57 undef = (.int .i64 0) := F.done 6 57 (by kernel_rfl) rfl
    exact step_val (by simp [Region.wanted]) (by go_simp) rfl),
      (fun aF wF F => by
    have s58 : aF.tmps.getD 58 undef = (.bool true) := F.done 7 58 (by kernel_rfl) rfl
    exact step_val (by simp [Region.wanted]) (by go_simp) rfl),
      (fun aF wF F => by
    have s5 : aF.tmps.getD 5 undef = (.pointer (some ⟨n3, 0, none⟩)) := F.old 5 (by kernel_rfl)
    have sg : aF.tmps.getD 59 undef = (.bool true) := F.done 8 59 (by kernel_rfl) rfl
    exact step_val ((wanted_guard rfl rfl sg).trans rfl) (by go_simp) rfl),
      (fun aF wF F => by
    have s60 : aF.tmps.getD 60 undef = (.pointer (some ⟨n3, 0, none⟩)) := F.done 9 60 (by kernel_rfl) rfl
    have c0 := cell_at B3.out F.kept 0 _ rfl
    have c1 := cell_at B3.out F.kept 1 _ rfl
    have c2 := cell_at B3.out F.kept 2 _ rfl
    have sg : aF.tmps.getD 59 undef = (.bool true) := F.done 8 59 (by kernel_rfl) rfl
    exact step_val ((wanted_guard rfl rfl sg).trans rfl) (by go_simp) rfl),
      (fun aF wF F => by
    have s61 : aF.tmps.getD 61 undef = (.agg #[.bool false, .slice A3 l3 c3, .int .i64 0]) := F.done 10 61 (by kernel_rfl) rfl
    have sg : aF.tmps.getD 59 undef = (.bool true) := F.done 8 59 (by kernel_rfl) rfl
    exact step_good ((wanted_guard rfl rfl sg).trans rfl) (by go_simp) (t_sign (D3.out.kept F.kept)) (fun _ _ h => RetK.good h) (fun _ _ h => h)),
      (fun aF wF F => by
    have s62 : aF.tmps.getD 62 undef = (.int .i64 0) := F.done 11 62 (by kernel_rfl) rfl
    have sg : aF.tmps.getD 59 undef = (.bool true) := F.done 8 59 (by kernel_rfl) rfl
    exact step_val ((wanted_guard rfl rfl sg).trans rfl) (by go_simp) rfl),
      (fun aF wF F => by
    have s59 : aF.tmps.getD 59 undef = (.bool true) := F.done 8 59 (by kernel_rfl) rfl
    have s63 : aF.tmps.getD 63 undef = (.bool true) := F.done 12 63 (by kernel_rfl) rfl
    exact step_val (by simp [Region.wanted]) (by go_simp) rfl),
      (fun aF wF F => by
    have s64 : aF.tmps.getD 64 undef = (.bool true) := F.done 13 64 (by kernel_rfl) rfl
    exact step_val (by simp [Region.wanted]) (by go_simp) rfl),
      (fun aF wF F => by
    have s5 : aF.tmps.getD 5 undef = (.pointer (some ⟨n3, 0, none⟩)) := F.old 5 (by kernel_rfl)
    have sg : aF.tmps.getD 65 undef = (.bool true) := F.done 14 65 (by kernel_rfl) rfl
    exact step_val ((wanted_guard rfl rfl sg).trans rfl) (by go_simp) rfl),
      (fun aF wF F => by
    have s66 : aF.tmps.getD 66 undef = (.pointer (some ⟨n3, 3, none⟩)) := F.done 15 66 (by kernel_rfl) rfl
    have sg : aF.tmps.getD 65 undef = (.bool true) := F.done 14 65 (by kernel_rfl) rfl
    exact step_val ((wanted_guard rfl rfl sg).trans rfl) (by go_simp) rfl),
      (fun aF wF F => by
    have s67 : aF.tmps.getD 67 undef = (.pointer (some ⟨n3, 5, none⟩)) := F.done 16 67 (by kernel_rfl) rfl
    have c0 := cell_at B3.out F.kept 5 _ rfl
    have sg : aF.tmps.getD 65 undef = (.bool true) := F.done 14 65 (by kernel_rfl) rfl
    exact step_val ((wanted_guard rfl rfl sg).trans rfl) (by go_simp) rfl),
      (fun aF wF F => by
    have s68 : aF.tmps.getD 68 undef = (.int .i64 2) := F.done 17 68 (by kernel_rfl) rfl
    have sg : aF.tmps.getD 65 undef = (.bool true) := F.done 14 65 (by kernel_rfl) rfl
    exact step_val ((wanted_guard rfl rfl sg).trans rfl) (by go_simp) rfl),
      (fun aF wF F => by
    have s65 : aF.tmps.getD 65 undef = (.bool true) := F.done 14 65 (by kernel_rfl) rfl
    have s69 : aF.tmps.getD 69 undef = (.bool true) := F.done 18 69 (by kernel_rfl) rfl
    exact step_val (by simp [Region.wanted]) (by go_simp) rfl),
      (fun aF wF F => by
    have s70 : aF.tmps.getD 70 undef = (.bool true) := F.done 19 70 (by kernel_rfl) rfl
    exact step_val (by simp [Region.wanted]) (by go_simp) rfl),
      (fun aF wF F => by
    have s7 : aF.tmps.getD 7 undef = (.pointer (some ⟨b7, 0, none⟩)) := F.old 7 (by kernel_rfl)
    have sg : aF.tmps.getD 71 undef = (.bool true) := F.done 20 71 (by kernel_rfl) rfl
    exact step_val ((wanted_guard rfl rfl sg).trans rfl) (by go_simp) rfl),
      (fun aF wF F => by
    have s72 : aF.tmps.getD 72 undef = (.pointer (some ⟨b7, 0, none⟩)) := F.done 21 72 (by kernel_rfl) rfl
    have c0 := cell_at B7.out F.kept 0 _ rfl
    have c1 := cell_at B7.out F.kept 1 _ rfl
    have c2 := cell_at B7.out F.kept 2 _ rfl
    have sg : aF.tmps.getD 71 undef = (.bool true) := F.done 20 71 (by kernel_rfl) rfl
    exact step_val ((wanted_guard rfl rfl sg).trans rfl) (by go_simp) rfl),
      (fun aF wF F => by
    have s7 : aF.tmps.getD 7 undef = (.pointer (some ⟨b7, 0, none⟩)) := F.old 7 (by kernel_rfl)
    have sg : aF.tmps.getD 71 undef = (.bool true) := F.done 20 71 (by kernel_rfl) rfl
    exact step_val ((wanted_guard rfl rfl sg).trans rfl) (by go_simp) rfl),
      (fun aF wF F => by
    have s74 : aF.tmps.getD 74 undef = (.pointer (some ⟨b7, 3, none⟩)) := F.done 23 74 (by kernel_rfl) rfl
    have c0 := cell_at B7.out F.kept 3 _ rfl
    have c1 := cell_at B7.out F.kept 4 _ rfl
    have c2 := cell_at B7.out F.kept 5 _ rfl
    have sg : aF.tmps.getD 71 undef = (.bool true) := F.done 20 71 (by kernel_rfl) rfl
    exact step_val ((wanted_guard rfl rfl sg).trans rfl) (by go_simp) rfl),
      (fun aF wF F => by
    have s73 : aF.tmps.getD 73 undef = (.agg #[.bool false, .slice A5 l5 c5, .int .i64 0]) := F.done 22 73 (by kernel_rfl) rfl
    have s75 : aF.tmps.getD 75 undef = (.agg #[.bool false, .slice A6 l6 c6, .int .i64 0]) := F.done 24 75 (by kernel_rfl) rfl
    have sg : aF.tmps.getD 71 undef = (.bool true) := F.done 20 71 (by kernel_rfl) rfl
    exact step_good ((wanted_guard rfl rfl sg).trans rfl) (by go_simp) (t_cmp (D5.out.kept F.kept) (D6.out.kept F.kept)) (fun _ _ h => RetK.good h) (fun _ _ h => h)),
      (fun aF wF F => by
    have s76 : aF.tmps.getD 76 undef = (.int .i64 0) := F.done 25 76 (by kernel_rfl) rfl
    have sg : aF.tmps.getD 71 undef = (.bool true) := F.done 20 71 (by kernel_rfl) rfl
    exact step_val ((wanted_guard rfl rfl sg).trans rfl) (by go_simp) rfl),
      (fun aF wF F => by
    have s71 : aF.tmps.getD 71 undef = (.bool true) := F.done 20 71 (by kernel_rfl) rfl
    have s77 : aF.tmps.getD 77 undef = (.bool true) := F.done 26 77 (by kernel_rfl) rfl
    exact step_val (by simp [Region.wanted]) (by go_simp) rfl),
      (fun aF wF F => by
    have s78 : aF.tmps.getD 78 undef = (.bool true) := F.done 27 78 (by kernel_rfl) rfl
    exact step_val (by simp [Region.wanted]) (by go_simp) rfl),
      (fun aF wF F => by
    have s7 : aF.tmps.getD 7 undef = (.pointer (some ⟨b7, 0, none⟩)) := F.old 7 (by kernel_rfl)
    have sg : aF.tmps.getD 79 undef = (.bool true) := F.done 28 79 (by kernel_rfl) rfl
    exact step_val ((wanted_guard rfl rfl sg).trans rfl) (by go_simp) rfl),
      (fun aF wF F => by
    have s80 : aF.tmps.getD 80 undef = (.pointer (some ⟨b7, 0, none⟩)) := F.done 29 80 (by kernel_rfl) rfl
    have c0 := cell_at B7.out F.kept 0 _ rfl
    have c1 := cell_at B7.out F.kept 1 _ rfl
    have c2 := cell_at B7.out F.kept 2 _ rfl
    have sg : aF.tmps.getD 79 undef = (.bool true) := F.done 28 79 (by kernel_rfl) rfl
    exact step_val ((wanted_guard rfl rfl sg).trans rfl) (by go_simp) rfl),
      (fun aF wF F => by
    have sg : aF.tmps.getD 79 undef = (.bool true) := F.done 28 79 (by kernel_rfl) rfl
    exact step_new ((wanted_guard rfl rfl sg).trans rfl) (by first | (go_simp; done) | (go_simp; rfl)) (kept_alloc _ _) ⟨_, rfl, lim_new1 (T := 28) (heap_alloc_new _ _)⟩),
      (fun aF wF F => by
    have s82 : (fun v wv => ∃ b, v = .slice (some ⟨b, 0, none⟩) 1 1 ∧ Lim wv (.slice (some ⟨b, 0, none⟩) 1 1) [1]) (aF.tmps.getD 82 undef) wF := F.done 31 82 (by kernel_rfl) rfl
    have sg : aF.tmps.getD 79 undef = (.bool true) := F.done 28 79 (by kernel_rfl) rfl
    obtain ⟨b, ee, hh⟩ := s82; simp only [Array.getD_eq_getD_getElem?] at ee; exact step_val ((wanted_guard rfl rfl sg).trans rfl) (by go_simp) ⟨_, rfl, hh, by decide, by decide⟩),
      (fun aF wF F => by
    have s81 : aF.tmps.getD 81 undef = (.agg #[.bool false, .slice A5 l5 c5, .int .i64 0]) := F.done 30 81 (by kernel_rfl) rfl
    have s83 : (fun v wv => DyR wv v ⟨false, [1], 0⟩) (aF.tmps.getD 83 undef) wF := F.done 32 83 (by kernel_rfl) rfl
    have sg : aF.tmps.getD 79 undef = (.bool true) := F.done 28 79 (by kernel_rfl) rfl
    exact step_good ((wanted_guard rfl rfl sg).trans rfl) (by go_simp) (t_same (D5.out.kept F.kept) s83) (fun _ _ h => RetK.good h) (fun _ _ h => h)),
      (fun aF wF F => by
    have s79 : aF.tmps.getD 79 undef = (.bool true) := F.done 28 79 (by kernel_rfl) rfl
    have s84 : aF.tmps.getD 84 undef = (.bool true) := F.done 33 84 (by kernel_rfl) rfl
    exact step_val (by simp [Region.wanted]) (by go_simp) rfl),
      (fun aF wF F => by
    have s85 : aF.tmps.getD 85 undef = (.bool true) := F.done 34 85 (by kernel_rfl) rfl
    exact step_val (by simp [Region.wanted]) (by go_simp) rfl),
      (fun aF wF F => by
    have s10 : aF.tmps.getD 10 undef = .int .i64 4 := F.old 10 (by kernel_rfl)
    have sg : aF.tmps.getD 86 undef = (.bool true) := F.done 35 86 (by kernel_rfl) rfl
    exact step_val ((wanted_guard rfl rfl sg).trans rfl) (by go_simp) rfl),
      (fun aF wF F => by
    have s87 : aF.tmps.getD 87 undef = .int .i64 4 := F.done 36 87 (by kernel_rfl) rfl
    have sg : aF.tmps.getD 86 undef = (.bool true) := F.done 35 86 (by kernel_rfl) rfl
    exact step_val ((wanted_guard rfl rfl sg).trans rfl) (by go_simp) rfl),
      (fun aF wF F => by
    have s86 : aF.tmps.getD 86 undef = (.bool true) := F.done 35 86 (by kernel_rfl) rfl
    have s88 : aF.tmps.getD 88 undef = (.bool true) := F.done 37 88 (by kernel_rfl) rfl
    exact step_val (by simp [Region.wanted]) (by go_simp) rfl),
      (fun aF wF F => by
    have s89 : aF.tmps.getD 89 undef = (.bool true) := F.done 38 89 (by kernel_rfl) rfl
    exact step_val (by simp [Region.wanted]) (by go_simp) rfl),
      (fun aF wF F => by
    have s12 : aF.tmps.getD 12 undef = .int .i64 4 := F.old 12 (by kernel_rfl)
    have sg : aF.tmps.getD 90 undef = (.bool true) := F.done 39 90 (by kernel_rfl) rfl
    exact step_val ((wanted_guard rfl rfl sg).trans rfl) (by go_simp) rfl),
      (fun aF wF F => by
    have s91 : aF.tmps.getD 91 undef = .int .i64 4 := F.done 40 91 (by kernel_rfl) rfl
    have sg : aF.tmps.getD 90 undef = (.bool true) := F.done 39 90 (by kernel_rfl) rfl
    exact step_val ((wanted_guard rfl rfl sg).trans rfl) (by go_simp) rfl),
      (fun aF wF F => by
    have s90 : aF.tmps.getD 90 undef = (.bool true) := F.done 39 90 (by kernel_rfl) rfl
    have s92 : aF.tmps.getD 92 undef = (.bool true) := F.done 41 92 (by kernel_rfl) rfl
    exact step_val (by simp [Region.wanted]) (by go_simp) rfl),
      (fun aF wF F => by
    have s93 : aF.tmps.getD 93 undef = (.bool true) := F.done 42 93 (by kernel_rfl) rfl
    exact step_val (by simp [Region.wanted]) (by go_simp) rfl),
      trivial⟩) ?_
  intro u w1 k1 hu
  have e51 : u 0 = .int .i64 0 := hu 0 (by decide)
  have e52 : u 1 = .int .i64 0 := hu 1 (by decide)
  have e53 : u 2 = (.int .i64 0) := hu 2 (by decide)
  have e54 : u 3 = .int .i64 0 := hu 3 (by decide)
  have e55 : u 4 = (.int .i64 0) := hu 4 (by decide)
  have e56 : u 5 = .int .i64 0 := hu 5 (by decide)
  have e57 : u 6 = (.int .i64 0) := hu 6 (by decide)
  have e58 : u 7 = (.bool true) := hu 7 (by decide)
  have e59 : u 8 = (.bool true) := hu 8 (by decide)
  have e60 : u 9 = (.pointer (some ⟨n3, 0, none⟩)) := hu 9 (by decide)
  have e61 : u 10 = (.agg #[.bool false, .slice A3 l3 c3, .int .i64 0]) := hu 10 (by decide)
  have e62 : u 11 = (.int .i64 0) := hu 11 (by decide)
  have e63 : u 12 = (.bool true) := hu 12 (by decide)
  have e64 : u 13 = (.bool true) := hu 13 (by decide)
  have e65 : u 14 = (.bool true) := hu 14 (by decide)
  have e66 : u 15 = (.pointer (some ⟨n3, 3, none⟩)) := hu 15 (by decide)
  have e67 : u 16 = (.pointer (some ⟨n3, 5, none⟩)) := hu 16 (by decide)
  have e68 : u 17 = (.int .i64 2) := hu 17 (by decide)
  have e69 : u 18 = (.bool true) := hu 18 (by decide)
  have e70 : u 19 = (.bool true) := hu 19 (by decide)
  have e71 : u 20 = (.bool true) := hu 20 (by decide)
  have e72 : u 21 = (.pointer (some ⟨b7, 0, none⟩)) := hu 21 (by decide)
  have e73 : u 22 = (.agg #[.bool false, .slice A5 l5 c5, .int .i64 0]) := hu 22 (by decide)
  have e74 : u 23 = (.pointer (some ⟨b7, 3, none⟩)) := hu 23 (by decide)
  have e75 : u 24 = (.agg #[.bool false, .slice A6 l6 c6, .int .i64 0]) := hu 24 (by decide)
  have e76 : u 25 = (.int .i64 0) := hu 25 (by decide)
  have e77 : u 26 = (.bool true) := hu 26 (by decide)
  have e78 : u 27 = (.bool true) := hu 27 (by decide)
  have e79 : u 28 = (.bool true) := hu 28 (by decide)
  have e80 : u 29 = (.pointer (some ⟨b7, 0, none⟩)) := hu 29 (by decide)
  have e81 : u 30 = (.agg #[.bool false, .slice A5 l5 c5, .int .i64 0]) := hu 30 (by decide)
  have p82 := hu 31 (by decide)
  have p83 := hu 32 (by decide)
  have e84 : u 33 = (.bool true) := hu 33 (by decide)
  have e85 : u 34 = (.bool true) := hu 34 (by decide)
  have e86 : u 35 = (.bool true) := hu 35 (by decide)
  have e87 : u 36 = .int .i64 4 := hu 36 (by decide)
  have e88 : u 37 = (.bool true) := hu 37 (by decide)
  have e89 : u 38 = (.bool true) := hu 38 (by decide)
  have e90 : u 39 = (.bool true) := hu 39 (by decide)
  have e91 : u 40 = .int .i64 4 := hu 40 (by decide)
  have e92 : u 41 = (.bool true) := hu 41 (by decide)
  have e93 : u 42 = (.bool true) := hu 42 (by decide)
  have e0 : u 43 = (.bool true) := hu 43 (by decide)
  clear hu
  simp only [puts, slotOf, if_true, Act.put, List.setIfInBounds_toArray, List.set_cons_zero, List.set_cons_succ, List.getElem?_toArray, List.getElem?_cons_zero, List.getElem?_cons_succ, Option.bind_some, e51, e52, e53, e54, e55, e56, e57, e58, e59, e60, e61, e62, e63, e64, e65, e66, e67, e68, e69, e70, e71, e72, e73, e74, e75, e76, e77, e78, e79, e80, e81, e84, e85, e86, e87, e88, e89, e90, e91, e92, e93, e0]
  clear e51 e52 e53 e54 e55 e56 e57 e58 e59 e60 e61 e62 e63 e64 e65 e66 e67 e68 e69 e70 e71 e72 e73 e74 e75 e76 e77 e78 e79 e80 e81 e84 e85 e86 e87 e88 e89 e90 e91 e92 e93 e0
  generalize u 31 = v82 at *
  try simp only [VL, List.getD_cons_zero, List.getD_cons_succ] at p82
  generalize u 32 = v83 at *
  try simp only [VL, List.getD_cons_zero, List.getD_cons_succ] at p83
  go_wp2_with fail
  go_ret
  exact ⟨rfl, K.out.trans k1⟩

end Go.Proofs.YtjdplcenniogdaaDoor
