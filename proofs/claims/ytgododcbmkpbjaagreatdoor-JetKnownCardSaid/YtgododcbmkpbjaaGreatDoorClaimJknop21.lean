/- Contracts of package dyad, eighth part: sum. -/
import Derived.Test.YtgododcbmkpbjaaGreatDoorClaimJknop18
import Derived.Test.YtgododcbmkpbjaaGreatDoorClaimJknop20
import Derived.Deep.DeepCutAuto
import Derived.Deep.CutBlock
set_option maxRecDepth 100000
set_option maxHeartbeats 16000000
namespace Go.Proofs.YtgododcbmkpbjaaGreatDoor
open Go.RowKit
/-- What stands in the three boxes of a function of two Dyads. -/
structure Box3 (W : World) (n : Nat) (x y z x' y' z' : Value) : Prop where
 b0 : Blk W n x y z
 b1 : Blk W (n + 1) x' y' z'
 b2 : Blk W (n + 1 + 1) (.bool false) (.slice none 0 0) (.int .i64 0)
theorem Box3.kept {W w : World} {n : Nat} {x y z x' y' z' : Value} (h : Box3 W n x y z x' y' z') (k : Kept W w) : Box3 w n x y z x' y' z' :=
 ⟨h.b0.kept k, h.b1.kept k, h.b2.kept k⟩
theorem limbs_len_bl (n k : Nat) (h : bl n ≤ 64 * k) : (limbs n).length ≤ k := by
 refine limbs_length_le _ _ ?_
 have h1 := lt_two_bl n
 have h2 : 2 ^ bl n ≤ 2 ^ (64 * k) := Nat.pow_le_pow_right (by decide) h
 have h3 : (18446744073709551616 : Nat) ^ k = 2 ^ (64 * k) := by rw [Nat.pow_mul]
 omega
theorem bl_of_len (n k : Nat) (h : (limbs n).length ≤ k) : bl n ≤ 64 * k := by
 refine bl_le _ _ ?_
 have h1 := lt_pow_length n
 have h2 : (18446744073709551616 : Nat) ^ (limbs n).length ≤ 18446744073709551616 ^ k := Nat.pow_le_pow_right (by decide) h
 have h3 : (18446744073709551616 : Nat) ^ k = 2 ^ (64 * k) := by rw [Nat.pow_mul]
 omega
theorem bl_add (n m k : Nat) (hn : bl n ≤ k) (hm : bl m ≤ k) : bl (n + m) ≤ k + 1 := by
 refine bl_le _ _ ?_
 have h1 := lt_two_bl n
 have h2 := lt_two_bl m
 have h3 : 2 ^ bl n ≤ 2 ^ k := Nat.pow_le_pow_right (by decide) hn
 have h4 : 2 ^ bl m ≤ 2 ^ k := Nat.pow_le_pow_right (by decide) hm
 rw [Nat.pow_succ]; omega
/-- All that the last part of sum leans on: a, the one with the greater exponent, stands in the first box, b in the second one. -/
structure SumIn (w W : World) (n : Nat) (A A2 : Option Addr) (l c l2 c2 : Nat) (a b : Dy) : Prop where
 box : Box3 W n (.bool a.neg) (.slice A l c) (.int .i64 a.e) (.bool b.neg) (.slice A2 l2 c2) (.int .i64 b.e)
 la : Lim W (.slice A l c) (limbs a.m)
 lb : Lim W (.slice A2 l2 c2) (limbs b.m)
 kept : Kept w W
 base : w.heap.size ≤ n
 tab : Tab w
 oka : a.Ok
 okb : b.Ok
 ma : a.m ≠ 0
 ge : b.e ≤ a.e
theorem SumIn.size {w W w' : World} {n : Nat} {A A2 : Option Addr} {l c l2 c2 : Nat} {a b : Dy} (h : SumIn w W n A A2 l c l2 c2 a b) (k : Kept W w') :
 Calls Tryz.prog 83 #[.slice A l c] w' (RetQ (.int .i64 (bl a.m)) w') := size_c (h.la.kept k) (by have := h.oka.len; omega)
/-- The shifted one is short enough. -/
theorem SumIn.blX {w W : World} {n : Nat} {A A2 : Option Addr} {l c l2 c2 : Nat} {a b : Dy} (h : SumIn w W n A A2 l c l2 c2 a b) {j : Nat} (hj : j ≤ 4097) : bl (a.m * 2 ^ j) ≤ 8193 := by
 rw [bl_mul_pow _ _ h.ma]
 have := bl_of_len a.m 64 h.oka.len
 omega
theorem SumIn.left {w W w' : World} {n : Nat} {A A2 : Option Addr} {l c l2 c2 : Nat} {a b : Dy} (h : SumIn w W n A A2 l c l2 c2 a b) (k : Kept W w') {j : Nat} (hj : j ≤ 4097) :
 Calls Tryz.prog 85 #[.slice A l c, .int .i64 j] w' (RetLim (limbs (a.m * 2 ^ j)) w') := left_c (h.la.kept k) j (by have := h.oka.len; omega) (by omega)
theorem SumIn.plus {w W w' : World} {n : Nat} {A A2 : Option Addr} {l c l2 c2 : Nat} {a b : Dy} (h : SumIn w W n A A2 l c l2 c2 a b) (k : Kept W w') {j : Nat} (hj : j ≤ 4097) {v : Value} (hv : Lim w' v (limbs (a.m * 2 ^ j))) :
 Calls Tryz.prog 89 #[v, .slice A2 l2 c2] w' (RetLim (limbs (a.m * 2 ^ j + b.m)) w') := by
 have h1 := limbs_len_bl _ 129 (by have := h.blX hj; omega : bl (a.m * 2 ^ j) ≤ 64 * 129)
 have h2 := h.okb.len
 exact plus_c hv (h.lb.kept k) (by omega) (by omega)
theorem SumIn.fits {w W w' : World} {n : Nat} {A A2 : Option Addr} {l c l2 c2 : Nat} {a b : Dy} (h : SumIn w W n A A2 l c l2 c2 a b) (k : Kept W w') {m : Nat} (hm : bl m ≤ 8194) {v : Value} (hv : Lim w' v (limbs m)) (s : Bool) :
 Calls Tryz.prog 49 #[.bool s, v, .int .i64 b.e] w' (Goes 131 (fitD s m b.e).raw w') := by
 have h1 := limbs_len_bl m 129 (by omega)
 have h2 := h.okb.lo
 have h3 := h.okb.hi
 exact fit_c hv (by omega) (by omega) (by omega) (h.tab.kept (h.kept.trans k))
theorem SumIn.blSum {w W : World} {n : Nat} {A A2 : Option Addr} {l c l2 c2 : Nat} {a b : Dy} (h : SumIn w W n A A2 l c l2 c2 a b) {j : Nat} (hj : j ≤ 4097) : bl (a.m * 2 ^ j + b.m) ≤ 8194 :=
 bl_add _ _ 8193 (h.blX hj) (by have := bl_of_len b.m 64 h.okb.len; omega)
theorem SumIn.order {w W w' : World} {n : Nat} {A A2 : Option Addr} {l c l2 c2 : Nat} {a b : Dy} (h : SumIn w W n A A2 l c l2 c2 a b) (k : Kept W w') {j : Nat} (hj : j ≤ 4097) {v : Value} (hv : Lim w' v (limbs (a.m * 2 ^ j))) :
 Calls Tryz.prog 84 #[v, .slice A2 l2 c2] w' (RetQ (.int .i64 (cmpN (a.m * 2 ^ j) b.m)) w') := by
 have h1 := limbs_len_bl _ 129 (by have := h.blX hj; omega : bl (a.m * 2 ^ j) ≤ 64 * 129)
 have h2 := h.okb.len
 exact order_c hv (h.lb.kept k) (by omega) (by omega)
theorem SumIn.minus {w W w' : World} {n : Nat} {A A2 : Option Addr} {l c l2 c2 : Nat} {a b : Dy} (h : SumIn w W n A A2 l c l2 c2 a b) (k : Kept W w') {j : Nat} (hj : j ≤ 4097) {v : Value} (hv : Lim w' v (limbs (a.m * 2 ^ j))) (hle : b.m ≤ a.m * 2 ^ j) :
 Calls Tryz.prog 90 #[v, .slice A2 l2 c2] w' (RetLim (limbs (a.m * 2 ^ j - b.m)) w') := by
 have h1 := limbs_len_bl _ 129 (by have := h.blX hj; omega : bl (a.m * 2 ^ j) ≤ 64 * 129)
 exact minus_c hv (h.lb.kept k) (by omega) hle
theorem SumIn.minus' {w W w' : World} {n : Nat} {A A2 : Option Addr} {l c l2 c2 : Nat} {a b : Dy} (h : SumIn w W n A A2 l c l2 c2 a b) (k : Kept W w') {j : Nat} {v : Value} (hv : Lim w' v (limbs (a.m * 2 ^ j))) (hle : a.m * 2 ^ j ≤ b.m) :
 Calls Tryz.prog 90 #[.slice A2 l2 c2, v] w' (RetLim (limbs (b.m - a.m * 2 ^ j)) w') :=
 minus_c (h.lb.kept k) hv (by have := h.okb.len; omega) hle
theorem must_true (k : Int) (w : World) : Calls Tryz.prog 87 #[.bool true, .int .i64 k] w (RetK (.tuple #[]) w) := (must_c true k w).mono fun _ _ ⟨he, hw⟩ => ⟨he, hw ▸ Below.refl _ _⟩
/-- must over a Bool: it goes on, or goes up. -/
theorem must_if (b : Bool) (k : Int) (w : World) : Calls Tryz.prog 87 #[.bool b, .int .i64 k] w fun e w' => (∃ v, e = .returned v ∧ Kept w w' ∧ (b = true ∧ v = .tuple #[])) ∨ (∃ c, e = .panicked c ∧ (b = false ∧ c = failV 131 k ∧ w = w')) :=
 (must_c b k w).mono fun e w' ⟨he, hw⟩ => by
   subst hw
   cases b
   ·exact .inr ⟨_, he, rfl, rfl, rfl⟩
   ·exact .inl ⟨_, he, Below.refl _ _, rfl, rfl⟩
/-- The end: the result lies in the third box. -/
theorem SumIn.close {w W w1 : World} {n : Nat} {A A2 : Option Addr} {l c l2 c2 : Nat} {a b : Dy} (h : SumIn w W n A A2 l c l2 c2 a b) (k : Kept W w1) {o : Outc Dy} {A' : Option Addr} {l' c' : Nat} (h0 : o.raw.k = 0)
 (hd : Lim w1 (.slice A' l' c') o.raw.v.m) (g1 : -9223372036854775808 ≤ o.raw.v.e) (g2 : o.raw.v.e ≤ 9223372036854775807) :
 Goes 131 o.raw w (.returned (.agg #[.bool o.raw.v.neg, .slice A' l' c', .int .i64 o.raw.v.e])) (dyW w1 (n + 1 + 1) (.bool o.raw.v.neg) (.slice A' l' c') (.int .i64 o.raw.v.e)) :=
 ⟨dyW_kept (h.kept.trans k) (by have := h.base; omega), .inl ⟨h0, _, rfl, (hd.dyW (h.box.b2.kept k) (noLimb_bool _) (noLimb_slice _ _ _) (noLimb_i64 _)).dyR g1 g2⟩⟩
/-- A Dyad's value by its parts. -/
theorem dyR_parts {w : World} {v : Value} {o : Outc Dy} (h : DyR w v o.raw.v) : ∃ A l c, v = .agg #[.bool o.raw.v.neg, .slice A l c, .int .i64 o.raw.v.e] ∧ Lim w (.slice A l c) o.raw.v.m ∧ -9223372036854775808 ≤ o.raw.v.e ∧ o.raw.v.e ≤ 9223372036854775807 := by
 obtain ⟨A, l, c, rfl, -, h1, h2, h3⟩ := h.shape
 exact ⟨A, l, c, rfl, h1, h2, h3⟩
theorem sum_core {w : World} {va vb : Value} {x y : Dy} (ha : DyR w va x.raw) (hb : DyR w vb y.raw) (hx : x.Ok) (hy : y.Ok) (hT : Tab w) (hx0 : x.m ≠ 0) (hy0 : y.m ≠ 0) :
 Calls Tryz.prog 46 #[va, vb] w (Goes 131 (sumD x y).raw w) := by
 unfold sumD
 rw [if_neg hx0, if_neg hy0]
 obtain ⟨A, l, c, rfl, hl, ha, -, -⟩ := ha.shape
 obtain ⟨A2, l2, c2, rfl, hl2, hb, -, -⟩ := hb.shape
 have l0 : ((l : Int) == 0) = false := by have := length_limbs_pos x.m hx0; rw [beq_eq_false_iff_ne, hl]; simp only [Dy.raw]; omega
 have l02 : ((l2 : Int) == 0) = false := by have := length_limbs_pos y.m hy0; rw [beq_eq_false_iff_ne, hl2]; simp only [Dy.raw]; omega
 clear hl hl2
 have LA := Lib.hid ha
 have LB := Lib.hid hb
 have HT := Lib.hid hT
 have HX := Lib.hid hx
 have HY := Lib.hid hy
 have HX0 := Lib.hid hx0
 have HY0 := Lib.hid hy0
 clear ha hb hT hx0 hy0
 have x1 := hx.lo
 have x2 := hx.hi
 have y1 := hy.lo
 have y2 := hy.hi
 clear hx hy
 simp only [Dy.raw] at *
 obtain ⟨o, ho⟩ : ∃ o, o = (if x.e < y.e then sumC y x else sumC x y) := ⟨_, rfl⟩
 rw [← ho]
 have HO := Lib.hid ho
 clear ho
 go_enter Tryz.func46, Tryz.ntmps46
 go_upto_if 22 with fail
 go_cut [] (fun wx => ∃ (a b : Dy) (A A2 : Option Addr) (l c l2 c2 : Nat), SumIn w wx w.heap.size A A2 l c l2 c2 a b ∧ o = sumC a b)
 case first =>
  go_wp2_with fail
  ·rename_i hlt
   obtain ⟨W, hW, kW, B0, B1, B2⟩ := boxes3 w (.bool y.neg) (.slice A2 l2 c2) (.int .i64 y.e) (.bool x.neg) (.slice A l c) (.int .i64 x.e)
   have hs : SumIn w W w.heap.size A2 A l2 c2 l c y x := ⟨⟨B0, B1, B2⟩, LB.out.kept kW, LA.out.kept kW, kW, Nat.le_refl _, HT.out, HY.out, HX.out, HY0.out, by omega⟩
   have HS := Lib.hid hs
   have HW := Lib.hid hW
   have HL := Lib.hid hlt
   clear hs hW kW B0 B1 B2 hlt
   go_meet
   rw [← HW.out]
   exact ⟨y, x, _, _, _, _, _, _, HS.out, HO.out.trans (if_pos HL.out)⟩
  ·rename_i hlt
   obtain ⟨W, hW, kW, B0, B1, B2⟩ := boxes3 w (.bool x.neg) (.slice A l c) (.int .i64 x.e) (.bool y.neg) (.slice A2 l2 c2) (.int .i64 y.e)
   have hs : SumIn w W w.heap.size A A2 l c l2 c2 x y := ⟨⟨B0, B1, B2⟩, LA.out.kept kW, LB.out.kept kW, kW, Nat.le_refl _, HT.out, HX.out, HY.out, HX0.out, by omega⟩
   have HS := Lib.hid hs
   have HW := Lib.hid hW
   have HL := Lib.hid hlt
   clear hs hW kW B0 B1 B2 hlt
   go_meet
   rw [← HW.out]
   exact ⟨x, y, _, _, _, _, _, _, HS.out, HO.out.trans (if_neg (by have := HL.out; omega))⟩
 clear LA LB HT HX HY HX0 HY0 l0 l02 x1 x2 y1 y2 ha hb
 obtain ⟨a, b, A, A2, l, c, l2, c2, hs, ho⟩ := hcut
 clear HO
 have HO := Lib.hid ho
 have HS := Lib.hid hs
 clear ho hs
 generalize wc = W at *
 obtain ⟨j, hj⟩ : ∃ j : Nat, a.e - b.e = j := ⟨(a.e - b.e).toNat, by have := HS.out.ge; omega⟩
 have HJ := Lib.hid hj
 go_upto_region 7 with fail
 go_cut [] (fun wx => Kept W wx ∧ j ≤ 4097 ∧ sumC a b = if a.neg = b.neg then fitD a.neg (a.m * 2 ^ j + b.m) b.e else if b.m ≤ a.m * 2 ^ j then fitD a.neg (a.m * 2 ^ j - b.m) b.e else fitD b.neg (b.m - a.m * 2 ^ j) b.e)
 case first =>
  have hjt : (a.e - b.e).toNat = j := by omega
  have a1 := HS.out.oka.lo
  have a2 := HS.out.oka.hi
  have b1 := HS.out.okb.lo
  have b2 := HS.out.okb.hi
  have hbl := bl_of_len a.m 64 HS.out.oka.len
  have hws : IntKind.i64.wrap (a.e - b.e) = (j : Int) := by rw [hj]; simp [IntKind.wrap_i64]; omega
  have hwt : IntKind.i64.wrap (4097 - (bl a.m : Int)) = 4097 - (bl a.m : Int) := by simp [IntKind.wrap_i64]; omega
  by_cases he : a.e = b.e
  ·have hj0 : j ≤ 4097 := by omega
   have hsc : sumC a b = if a.neg = b.neg then fitD a.neg (a.m * 2 ^ j + b.m) b.e else if b.m ≤ a.m * 2 ^ j then fitD a.neg (a.m * 2 ^ j - b.m) b.e else fitD b.neg (b.m - a.m * 2 ^ j) b.e := by
    unfold sumC; rw [if_neg (fun h => h.1 he), hjt]
   have he' : (a.e == b.e) = true := by rw [beq_iff_eq]; exact he
   have HSC := Lib.hid hsc
   have HJ0 := Lib.hid hj0
   clear hj hjt a1 a2 b1 b2 hbl he hj0 hsc hwt
   refine region_lin (m := 18) (V := VL [(vP w.heap.size 2), (vE (.int .i64 a.e)), (vP (w.heap.size + 1) 2), (vE (.int .i64 b.e)), (vE (.bool true)), (vE (.bool true)), (vE undef), (vE undef), (vE undef), (vE undef), (vE undef), (vE undef), (vE undef), (vE undef), (vE undef), (vE undef), (vE (.bool true)), (vE (.tuple #[]))])
    (by kernel_rfl) rfl (by kernel_rfl) (by kernel_rfl) (by kernel_rfl) (mono_of _ ⟨mE, mE, mE, mE, mE, mE, mE, mE, mE, mE, mE, mE, mE, mE, mE, mE, mE, mE, trivial⟩) (steps_of ⟨
      (fun aF wF F => by have s2 : aF.tmps.getD 2 undef = (.pointer (some ⟨w.heap.size, 0, none⟩)) := F.o 2; exact sv rfl), (fun aF wF F => by have s25 := F.v 0 25; have c0 := cell_at HS.out.box.b0 F.kept 2 _ rfl; exact sv rfl), (fun aF wF F => by have s3 : aF.tmps.getD 3 undef = (.pointer (some ⟨w.heap.size + 1, 0, none⟩)) := F.o 3; exact sv rfl), (fun aF wF F => by have s27 := F.v 2 27; have c0 := cell_at HS.out.box.b1 F.kept 2 _ rfl; exact sv rfl), (fun aF wF F => by have s26 := F.v 1 26; have s28 := F.v 3 28; exact sv rfl), (fun aF wF F => by have s29 := F.v 4 29; exact sv rfl), (so 5 30), (so 5 30), (so 5 30), (so 5 30), (so 5 30), (so 5 30), (so 5 30), (so 5 30), (so 5 30), (so 5 30), (fun aF wF F => by have s30 := F.v 5 30; have s40 := F.v 15 40; exact sv rfl), (fun aF wF F => by have s41 := F.v 16 41; exact sK (must_true 2 _) fun _ _ h => h),
      trivial⟩) ?_
   intro u w1 k1 hu
   simp only [puts, slotOf, if_true, Act.put, z1, z2, z3, z4, z5, z6, z7, hv hu 0, hv hu 1, hv hu 2, hv hu 3, hv hu 4, hv hu 5, hv hu 6, hv hu 7, hv hu 8, hv hu 9, hv hu 10, hv hu 11, hv hu 12, hv hu 13, hv hu 14, hv hu 15, hv hu 16, hv hu 17]
   clear hu
   go_wp2_with fail
   go_meet
   exact ⟨k1, HJ0.out, HSC.out⟩
  ·have he' : (a.e == b.e) = false := by rw [beq_eq_false_iff_ne]; exact he
   obtain ⟨bb, hbb⟩ : ∃ bb, decide ((j : Int) ≤ 4097 - (bl a.m : Int)) = bb := ⟨_, rfl⟩
   have HE := Lib.hid he
   have HT := Lib.hid hjt
   have HB := Lib.hid hbl
   clear he hj hjt hbl a1 a2 b1 b2
   have hpan : ∀ w2, Kept W w2 → bb = false → Goes 131 o.raw w (.panicked (failV 131 2)) w2 := by
    intro w2 k2 hb
    rw [HO.out]
    have hc : ¬ a.e = b.e ∧ 4097 - (bl a.m : Int) < a.e - b.e := ⟨HE.out, by have := HJ.out; rw [hb] at hbb; simp at hbb; omega⟩
    unfold sumC
    rw [if_pos hc]
    exact ⟨HS.out.kept.trans k2, .inr ⟨by decide, rfl⟩⟩
   have HP := Lib.hid hpan
   clear hpan
   refine region_lin (m := 18) (V := VL [(vP w.heap.size 2), (vE (.int .i64 a.e)), (vP (w.heap.size + 1) 2), (vE (.int .i64 b.e)), (vE (.bool false)), (vE (.bool false)), (vP w.heap.size 2), (vE (.int .i64 a.e)), (vP (w.heap.size + 1) 2), (vE (.int .i64 b.e)), (vE (.int .i64 j)), (vP w.heap.size 1), (vE (.slice A l c)), (vE (.int .i64 (bl a.m))), (vE (.int .i64 (4097 - (bl a.m : Int)))), (vE (.bool bb)), (vE (.bool bb)), (fun v _ => bb = true ∧ v = .tuple #[])])
    (by kernel_rfl) rfl (by kernel_rfl) (by kernel_rfl) (by kernel_rfl) (mono_of _ ⟨mE, mE, mE, mE, mE, mE, mE, mE, mE, mE, mE, mE, mE, mE, mE, mE, mE, fun v w w' k h => by first | exact h | exact h.kept k | exact ⟨h.1, h.2.kept k⟩, trivial⟩) (steps_of ⟨
      (fun aF wF F => by have s2 : aF.tmps.getD 2 undef = (.pointer (some ⟨w.heap.size, 0, none⟩)) := F.o 2; exact sv rfl), (fun aF wF F => by have s25 := F.v 0 25; have c0 := cell_at HS.out.box.b0 F.kept 2 _ rfl; exact sv rfl), (fun aF wF F => by have s3 : aF.tmps.getD 3 undef = (.pointer (some ⟨w.heap.size + 1, 0, none⟩)) := F.o 3; exact sv rfl), (fun aF wF F => by have s27 := F.v 2 27; have c0 := cell_at HS.out.box.b1 F.kept 2 _ rfl; exact sv rfl), (fun aF wF F => by have s26 := F.v 1 26; have s28 := F.v 3 28; exact sv rfl), (fun aF wF F => by have s29 := F.v 4 29; exact sv rfl), (fun aF wF F => by have s2 : aF.tmps.getD 2 undef = (.pointer (some ⟨w.heap.size, 0, none⟩)) := F.o 2; have sg := F.v 5 30; exact step_val ((wanted_guard rfl rfl sg).trans rfl) (by go_simp) rfl), (fun aF wF F => by have s31 := F.v 6 31; have c0 := cell_at HS.out.box.b0 F.kept 2 _ rfl; have sg := F.v 5 30; exact step_val ((wanted_guard rfl rfl sg).trans rfl) (by go_simp) rfl), (fun aF wF F => by have s3 : aF.tmps.getD 3 undef = (.pointer (some ⟨w.heap.size + 1, 0, none⟩)) := F.o 3; have sg := F.v 5 30; exact step_val ((wanted_guard rfl rfl sg).trans rfl) (by go_simp) rfl), (fun aF wF F => by have s33 := F.v 8 33; have c0 := cell_at HS.out.box.b1 F.kept 2 _ rfl; have sg := F.v 5 30; exact step_val ((wanted_guard rfl rfl sg).trans rfl) (by go_simp) rfl), (fun aF wF F => by have s32 := F.v 7 32; have s34 := F.v 9 34; have sg := F.v 5 30; exact step_val ((wanted_guard rfl rfl sg).trans rfl) (by go_simp) rfl), (fun aF wF F => by have s2 : aF.tmps.getD 2 undef = (.pointer (some ⟨w.heap.size, 0, none⟩)) := F.o 2; have sg := F.v 5 30; exact step_val ((wanted_guard rfl rfl sg).trans rfl) (by go_simp) rfl), (fun aF wF F => by have s36 := F.v 11 36; have c0 := cell_at HS.out.box.b0 F.kept 1 _ rfl; have sg := F.v 5 30; exact step_val ((wanted_guard rfl rfl sg).trans rfl) (by go_simp) rfl), (fun aF wF F => by have s37 := F.v 12 37; have sg := F.v 5 30; exact step_good ((wanted_guard rfl rfl sg).trans rfl) (by go_simp) (HS.out.size F.kept) (fun _ _ h => RetQ.good h) (fun _ _ h => h)), (fun aF wF F => by have s38 := F.v 13 38; have sg := F.v 5 30; exact step_val ((wanted_guard rfl rfl sg).trans rfl) (by go_simp) rfl), (fun aF wF F => by have s35 := F.v 10 35; have s39 := F.v 14 39; have sg := F.v 5 30; exact step_val ((wanted_guard rfl rfl sg).trans rfl) (by go_simp) rfl), (fun aF wF F => by have s30 := F.v 5 30; have s40 := F.v 15 40; exact sv rfl), (fun aF wF F => by have s41 := F.v 16 41; exact step_call (by simp [Region.wanted]) (by go_simp) (must_if bb 2 _) (fun e w2 h => h.imp (fun ⟨v, he, hk, hv⟩ => ⟨v, he, hk, hv⟩) (fun ⟨c, he, h0, hc, hw2⟩ => ⟨c, he, F.defers, by subst hc; exact HP.out w2 (hw2 ▸ F.kept) h0⟩))),
      trivial⟩) ?_
   intro u w1 k1 hu
   have p42 := hp hu 17
   simp only [puts, slotOf, if_true, Act.put, z1, z2, z3, z4, z5, z6, z7, hv hu 0, hv hu 1, hv hu 2, hv hu 3, hv hu 4, hv hu 5, hv hu 6, hv hu 7, hv hu 8, hv hu 9, hv hu 10, hv hu 11, hv hu 12, hv hu 13, hv hu 14, hv hu 15, hv hu 16]
   clear hu
   generalize u 17 = v42 at *
   go_wp2_with fail
   go_meet
   have h1 := p42.1
   have h2 := HJ.out
   rw [h1] at hbb
   simp at hbb
   refine ⟨k1, by omega, ?_⟩
   unfold sumC
   rw [if_neg (by omega), HT.out]
 obtain ⟨k1, hj0, hsc⟩ := hcut
 have HSC := Lib.hid (HO.out.trans hsc)
 clear HJ
 have HJ := Lib.hid hj0
 have hws : IntKind.i64.wrap (a.e - b.e) = (j : Int) := by
  have := HS.out.oka.lo; have := HS.out.oka.hi; have := HS.out.okb.lo; have := HS.out.okb.hi
  rw [hj]; simp [IntKind.wrap_i64]; omega
 clear hj0 hsc hj
 generalize wc = w1 at *
 go_upto_region 8 with fail
 by_cases hn : a.neg = b.neg
 ·have hso := HSC.out
  rw [if_pos hn] at hso
  subst hso
  have hnb : (a.neg == b.neg) = true := by simp [hn]
  clear hn
  obtain ⟨-, a0, a1, a2, -⟩ := (HS.out.box.b0.kept k1).facts
  obtain ⟨-, b0, b1, b2, -⟩ := (HS.out.box.b1.kept k1).facts
  have K1 := Lib.hid k1
  clear k1
  go_wp2_with (first
   | (go_at_call 85; refine (HS.out.left K1.out HJ.out).mono ?_; clear a0 a1 a2 b0 b1 b2; rintro e w2 ⟨X, rfl, hX, q2⟩; have LX := Lib.hid hX; have KX := Lib.hid (K1.out.trans q2); obtain ⟨-, a0, a1, a2, -⟩ := (HS.out.box.b0.kept KX.out).facts; obtain ⟨-, b0, b1, b2, -⟩ := (HS.out.box.b1.kept KX.out).facts; clear hX q2)
   | (go_at_call 84; refine (HS.out.order KX.out HJ.out LX.out).mono ?_; rintro e w2 ⟨rfl, q, rfl⟩; replace LX := Lib.hid (LX.out.drewN q); replace KX := Lib.hid (Kept.drewN KX.out q)))
  clear hnb a0 a1 a2 b0 b1 b2
  refine region_lin1 (m := 9) (V := VL [(vP w.heap.size 0), (vE (.bool a.neg)), (vE X), (vP (w.heap.size + 1) 1), (vE (.slice A2 l2 c2)), (fun v wv => Lim wv v (limbs (a.m * 2 ^ j + b.m))), (vP (w.heap.size + 1) 2), (vE (.int .i64 b.e)), (fun v wv => ((fitD a.neg (a.m * 2 ^ j + b.m) b.e).raw).k = 0 ∧ DyR wv v ((fitD a.neg (a.m * 2 ^ j + b.m) b.e).raw).v)])
   (by kernel_rfl) rfl rfl rfl (by kernel_rfl) (by kernel_rfl) (by kernel_rfl) (by kernel_rfl) (mono_of _ ⟨mE, mE, mE, mE, mE, mL, mE, mE, fun v w w' k h => by first | exact h | exact h.kept k | exact ⟨h.1, h.2.kept k⟩, trivial⟩) (steps_of ⟨
     (fun aF wF F => by have s2 : aF.tmps.getD 2 undef = (.pointer (some ⟨w.heap.size, 0, none⟩)) := F.o 2; exact sv rfl), (fun aF wF F => by have s57 := F.v 0 57; have c0 := cell_at (HS.out.box.b0.kept KX.out) F.kept 0 _ rfl; exact sv rfl), (fun aF wF F => by have s5 : aF.tmps.getD 5 undef = X := F.o 5; exact sv rfl), (fun aF wF F => by have s3 : aF.tmps.getD 3 undef = (.pointer (some ⟨w.heap.size + 1, 0, none⟩)) := F.o 3; exact sv rfl), (fun aF wF F => by have s60 := F.v 3 60; have c0 := cell_at (HS.out.box.b1.kept KX.out) F.kept 1 _ rfl; exact sv rfl), (fun aF wF F => by have s59 := F.v 2 59; have s61 := F.v 4 61; exact sL (HS.out.plus (KX.out.trans F.kept) HJ.out (LX.out.kept F.kept)) fun _ _ h => h), (fun aF wF F => by have s3 : aF.tmps.getD 3 undef = (.pointer (some ⟨w.heap.size + 1, 0, none⟩)) := F.o 3; exact sv rfl), (fun aF wF F => by have s63 := F.v 6 63; have c0 := cell_at (HS.out.box.b1.kept KX.out) F.kept 2 _ rfl; exact sv rfl), (fun aF wF F => by have s58 := F.v 1 58; have s62 := F.p 5 62; have s64 := F.v 7 64; exact sG (HS.out.fits (KX.out.trans F.kept) (HS.out.blSum HJ.out) s62 a.neg) (fun _ _ _ h0 h => ⟨h0, h⟩) (fun w2 k2 h0 => ⟨F.defers, ⟨HS.out.kept.trans (KX.out.trans (F.kept.trans k2)), .inr ⟨h0, rfl⟩⟩⟩)),
     trivial⟩) ?_
  intro u w1 k1 hu
  have p62 := hp hu 5
  have p65 := hp hu 8
  simp only [puts, slotOf, if_true, Act.put, z1, z2, z3, z4, z5, z6, z7, hv hu 0, hv hu 1, hv hu 2, hv hu 3, hv hu 4, hv hu 6, hv hu 7]
  clear hu
  generalize u 5 = v62 at *
  generalize u 8 = v65 at *
  obtain ⟨h0, hd⟩ := p65
  obtain ⟨A', l', c', rfl, hd, g1, g2⟩ := dyR_parts hd
  have hr := HS.out.close (Kept.trans KX.out k1) h0 hd g1 g2
  have hb := HS.out.box.b2.kept (Kept.trans KX.out k1)
  have HR := Lib.hid hr
  have HB := Lib.hid hb
  clear hr hd g1 g2 h0
  obtain ⟨_, c0, c1, c2, f0, f1, f2⟩ := hb.facts
  clear hb
  go_simp
  go_wp2_with fail
  exact ret_dy (HB.out.laid _ _ _) rfl rfl rfl HR.out
 ·have hso := HSC.out
  rw [if_neg hn] at hso
  have hnb : (a.neg == b.neg) = false := by simp [hn]
  clear hn
  by_cases hle : b.m ≤ a.m * 2 ^ j
  ·rw [if_pos hle] at hso
   subst hso
   have hcm : decide (0 ≤ cmpN (a.m * 2 ^ j) b.m) = true := by unfold cmpN; rw [if_neg (by omega)]; split <;> rfl
   have HL := Lib.hid hle
   clear hle
   obtain ⟨-, a0, a1, a2, -⟩ := (HS.out.box.b0.kept k1).facts
   obtain ⟨-, b0, b1, b2, -⟩ := (HS.out.box.b1.kept k1).facts
   have K1 := Lib.hid k1
   clear k1
   go_wp2_with (first
    | (go_at_call 85; refine (HS.out.left K1.out HJ.out).mono ?_; clear a0 a1 a2 b0 b1 b2; rintro e w2 ⟨X, rfl, hX, q2⟩; have LX := Lib.hid hX; have KX := Lib.hid (K1.out.trans q2); obtain ⟨-, a0, a1, a2, -⟩ := (HS.out.box.b0.kept KX.out).facts; obtain ⟨-, b0, b1, b2, -⟩ := (HS.out.box.b1.kept KX.out).facts; clear hX q2)
    | (go_at_call 84; refine (HS.out.order KX.out HJ.out LX.out).mono ?_; rintro e w2 ⟨rfl, q, rfl⟩; replace LX := Lib.hid (LX.out.drewN q); replace KX := Lib.hid (Kept.drewN KX.out q)))
   clear hnb hcm a0 a1 a2 b0 b1 b2
   refine region_lin1 (m := 9) (V := VL [(vP w.heap.size 0), (vE (.bool a.neg)), (vE X), (vP (w.heap.size + 1) 1), (vE (.slice A2 l2 c2)), (fun v wv => Lim wv v (limbs (a.m * 2 ^ j - b.m))), (vP (w.heap.size + 1) 2), (vE (.int .i64 b.e)), (fun v wv => ((fitD a.neg (a.m * 2 ^ j - b.m) b.e).raw).k = 0 ∧ DyR wv v ((fitD a.neg (a.m * 2 ^ j - b.m) b.e).raw).v)])
    (by kernel_rfl) rfl rfl rfl (by kernel_rfl) (by kernel_rfl) (by kernel_rfl) (by kernel_rfl) (mono_of _ ⟨mE, mE, mE, mE, mE, mL, mE, mE, fun v w w' k h => by first | exact h | exact h.kept k | exact ⟨h.1, h.2.kept k⟩, trivial⟩) (steps_of ⟨
      (fun aF wF F => by have s2 : aF.tmps.getD 2 undef = (.pointer (some ⟨w.heap.size, 0, none⟩)) := F.o 2; exact sv rfl), (fun aF wF F => by have s72 := F.v 0 72; have c0 := cell_at (HS.out.box.b0.kept KX.out) F.kept 0 _ rfl; exact sv rfl), (fun aF wF F => by have s5 : aF.tmps.getD 5 undef = X := F.o 5; exact sv rfl), (fun aF wF F => by have s3 : aF.tmps.getD 3 undef = (.pointer (some ⟨w.heap.size + 1, 0, none⟩)) := F.o 3; exact sv rfl), (fun aF wF F => by have s75 := F.v 3 75; have c0 := cell_at (HS.out.box.b1.kept KX.out) F.kept 1 _ rfl; exact sv rfl), (fun aF wF F => by have s74 := F.v 2 74; have s76 := F.v 4 76; exact sL (HS.out.minus (KX.out.trans F.kept) HJ.out (LX.out.kept F.kept) HL.out) fun _ _ h => h), (fun aF wF F => by have s3 : aF.tmps.getD 3 undef = (.pointer (some ⟨w.heap.size + 1, 0, none⟩)) := F.o 3; exact sv rfl), (fun aF wF F => by have s78 := F.v 6 78; have c0 := cell_at (HS.out.box.b1.kept KX.out) F.kept 2 _ rfl; exact sv rfl), (fun aF wF F => by have s73 := F.v 1 73; have s77 := F.p 5 77; have s79 := F.v 7 79; exact sG (HS.out.fits (KX.out.trans F.kept) (Nat.le_trans (bl_mono (Nat.sub_le _ _)) (Nat.le_succ_of_le (HS.out.blX HJ.out))) s77 a.neg) (fun _ _ _ h0 h => ⟨h0, h⟩) (fun w2 k2 h0 => ⟨F.defers, ⟨HS.out.kept.trans (KX.out.trans (F.kept.trans k2)), .inr ⟨h0, rfl⟩⟩⟩)),
      trivial⟩) ?_
   intro u w1 k1 hu
   have p77 := hp hu 5
   have p80 := hp hu 8
   simp only [puts, slotOf, if_true, Act.put, z1, z2, z3, z4, z5, z6, z7, hv hu 0, hv hu 1, hv hu 2, hv hu 3, hv hu 4, hv hu 6, hv hu 7]
   clear hu
   generalize u 5 = v77 at *
   generalize u 8 = v80 at *
   obtain ⟨h0, hd⟩ := p80
   obtain ⟨A', l', c', rfl, hd, g1, g2⟩ := dyR_parts hd
   have hr := HS.out.close (Kept.trans KX.out k1) h0 hd g1 g2
   have hb := HS.out.box.b2.kept (Kept.trans KX.out k1)
   have HR := Lib.hid hr
   have HB := Lib.hid hb
   clear hr hd g1 g2 h0
   obtain ⟨_, c0, c1, c2, f0, f1, f2⟩ := hb.facts
   clear hb
   go_simp
   go_wp2_with fail
   exact ret_dy (HB.out.laid _ _ _) rfl rfl rfl HR.out
  ·rw [if_neg hle] at hso
   subst hso
   have hcm : decide (0 ≤ cmpN (a.m * 2 ^ j) b.m) = false := by unfold cmpN; rw [if_pos (by omega)]; rfl
   have HL := Lib.hid (show a.m * 2 ^ j ≤ b.m by omega)
   clear hle
   obtain ⟨-, a0, a1, a2, -⟩ := (HS.out.box.b0.kept k1).facts
   obtain ⟨-, b0, b1, b2, -⟩ := (HS.out.box.b1.kept k1).facts
   have K1 := Lib.hid k1
   clear k1
   go_wp2_with (first
    | (go_at_call 85; refine (HS.out.left K1.out HJ.out).mono ?_; clear a0 a1 a2 b0 b1 b2; rintro e w2 ⟨X, rfl, hX, q2⟩; have LX := Lib.hid hX; have KX := Lib.hid (K1.out.trans q2); obtain ⟨-, a0, a1, a2, -⟩ := (HS.out.box.b0.kept KX.out).facts; obtain ⟨-, b0, b1, b2, -⟩ := (HS.out.box.b1.kept KX.out).facts; clear hX q2)
    | (go_at_call 84; refine (HS.out.order KX.out HJ.out LX.out).mono ?_; rintro e w2 ⟨rfl, q, rfl⟩; replace LX := Lib.hid (LX.out.drewN q); replace KX := Lib.hid (Kept.drewN KX.out q)))
   clear hnb hcm a0 a1 a2 b0 b1 b2
   refine region_lin1 (m := 9) (V := VL [(vP (w.heap.size + 1) 0), (vE (.bool b.neg)), (vP (w.heap.size + 1) 1), (vE (.slice A2 l2 c2)), (vE X), (fun v wv => Lim wv v (limbs (b.m - a.m * 2 ^ j))), (vP (w.heap.size + 1) 2), (vE (.int .i64 b.e)), (fun v wv => ((fitD b.neg (b.m - a.m * 2 ^ j) b.e).raw).k = 0 ∧ DyR wv v ((fitD b.neg (b.m - a.m * 2 ^ j) b.e).raw).v)])
    (by kernel_rfl) rfl rfl rfl (by kernel_rfl) (by kernel_rfl) (by kernel_rfl) (by kernel_rfl) (mono_of _ ⟨mE, mE, mE, mE, mE, mL, mE, mE, fun v w w' k h => by first | exact h | exact h.kept k | exact ⟨h.1, h.2.kept k⟩, trivial⟩) (steps_of ⟨
      (fun aF wF F => by have s3 : aF.tmps.getD 3 undef = (.pointer (some ⟨w.heap.size + 1, 0, none⟩)) := F.o 3; exact sv rfl), (fun aF wF F => by have s81 := F.v 0 81; have c0 := cell_at (HS.out.box.b1.kept KX.out) F.kept 0 _ rfl; exact sv rfl), (fun aF wF F => by have s3 : aF.tmps.getD 3 undef = (.pointer (some ⟨w.heap.size + 1, 0, none⟩)) := F.o 3; exact sv rfl), (fun aF wF F => by have s83 := F.v 2 83; have c0 := cell_at (HS.out.box.b1.kept KX.out) F.kept 1 _ rfl; exact sv rfl), (fun aF wF F => by have s5 : aF.tmps.getD 5 undef = X := F.o 5; exact sv rfl), (fun aF wF F => by have s84 := F.v 3 84; have s85 := F.v 4 85; exact sL (HS.out.minus' (KX.out.trans F.kept) (LX.out.kept F.kept) HL.out) fun _ _ h => h), (fun aF wF F => by have s3 : aF.tmps.getD 3 undef = (.pointer (some ⟨w.heap.size + 1, 0, none⟩)) := F.o 3; exact sv rfl), (fun aF wF F => by have s87 := F.v 6 87; have c0 := cell_at (HS.out.box.b1.kept KX.out) F.kept 2 _ rfl; exact sv rfl), (fun aF wF F => by have s82 := F.v 1 82; have s86 := F.p 5 86; have s88 := F.v 7 88; exact sG (HS.out.fits (KX.out.trans F.kept) (Nat.le_trans (bl_of_len b.m 64 HS.out.okb.len |> fun h => Nat.le_trans (bl_mono (Nat.sub_le _ _)) h) (by decide)) s86 b.neg) (fun _ _ _ h0 h => ⟨h0, h⟩) (fun w2 k2 h0 => ⟨F.defers, ⟨HS.out.kept.trans (KX.out.trans (F.kept.trans k2)), .inr ⟨h0, rfl⟩⟩⟩)),
      trivial⟩) ?_
   intro u w1 k1 hu
   have p86 := hp hu 5
   have p89 := hp hu 8
   simp only [puts, slotOf, if_true, Act.put, z1, z2, z3, z4, z5, z6, z7, hv hu 0, hv hu 1, hv hu 2, hv hu 3, hv hu 4, hv hu 6, hv hu 7]
   clear hu
   generalize u 5 = v86 at *
   generalize u 8 = v89 at *
   obtain ⟨h0, hd⟩ := p89
   obtain ⟨A', l', c', rfl, hd, g1, g2⟩ := dyR_parts hd
   have hr := HS.out.close (Kept.trans KX.out k1) h0 hd g1 g2
   have hb := HS.out.box.b2.kept (Kept.trans KX.out k1)
   have HR := Lib.hid hr
   have HB := Lib.hid hb
   clear hr hd g1 g2 h0
   obtain ⟨_, c0, c1, c2, f0, f1, f2⟩ := hb.facts
   clear hb
   go_simp
   go_wp2_with fail
   exact ret_dy (HB.out.laid _ _ _) rfl rfl rfl HR.out
end Go.Proofs.YtgododcbmkpbjaaGreatDoor
