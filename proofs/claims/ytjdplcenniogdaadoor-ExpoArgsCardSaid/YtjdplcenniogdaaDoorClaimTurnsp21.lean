/- Contracts of package dyad, eighth part: sum. -/
import Derived.Test.YtjdplcenniogdaaDoorClaimTurnsp18
import Derived.Test.YtjdplcenniogdaaDoorClaimTurnsp20
import Derived.Deep.DeepCutAuto
namespace Go.Proofs.YtjdplcenniogdaaDoor
open Go.RowKit

/-- What stands in the three boxes of a function of two Dyads. -/
structure Box3 (W : World) (n : Nat) (x y z x' y' z' : Value) : Prop where
  b0 : Blk W n x y z
  b1 : Blk W (n + 1) x' y' z'
  b2 : Blk W (n + 1 + 1) (.bool false) (.slice none 0 0) (.int .i64 0)

theorem Box3.kept {W w : World} {n : Nat} {x y z x' y' z' : Value} (h : Box3 W n x y z x' y' z') (k : Kept W w) : Box3 w n x y z x' y' z' :=
  ⟨h.b0.kept k, h.b1.kept k, h.b2.kept k⟩

theorem lim_swap {W : World} {n : Nat} {s x y z x' y' z' a b c a' b' c' : Value} {xs : List Nat} (h : Lim W s xs) (hb : Box3 W n x y z x' y' z') (h0 : NoLimb x) (h1 : NoLimb y) (h2 : NoLimb z) (h0' : NoLimb x') (h1' : NoLimb y') (h2' : NoLimb z') :
    Lim (dyW (dyW W n a b c) (n + 1) a' b' c') s xs :=
  (h.dyW hb.b0 h0 h1 h2).dyW (hb.b1.laid_other (by omega) _ _ _) h0' h1' h2'

theorem box3_swap {W : World} {n : Nat} {x y z x' y' z' : Value} (hb : Box3 W n x y z x' y' z') (a b c a' b' c' : Value) : Box3 (dyW (dyW W n a b c) (n + 1) a' b' c') n a b c a' b' c' :=
  ⟨(hb.b0.laid a b c).laid_other (by omega) _ _ _, (hb.b1.laid_other (by omega) _ _ _).laid _ _ _, (hb.b2.laid_other (by omega) _ _ _).laid_other (by omega) _ _ _⟩

theorem limbs_len_bl (n k : Nat) (h : bl n ≤ 64 * k) : (limbs n).length ≤ k := by
  refine limbs_length_le _ _ ?_
  have h1 := lt_two_bl n
  have h2 : 2 ^ bl n ≤ 2 ^ (64 * k) := Nat.pow_le_pow_right (by decide) h
  have h3 : (18446744073709551616 : Nat) ^ k = 2 ^ (64 * k) := by rw [Nat.pow_mul]
  omega
theorem bl_of_len (n k : Nat) (h : (limbs n).length ≤ k) : bl n ≤ 64 * k := by
  refine bl_le _ _ ?_
  have h1 := lt_pow_length n
  have h2 : (18446744073709551616 : Nat) ^ (limbs n).length ≤ 18446744073709551616 ^ k := Nat.pow_le_pow_right (by decide) h
  have h3 : (18446744073709551616 : Nat) ^ k = 2 ^ (64 * k) := by rw [Nat.pow_mul]
  omega
theorem bl_add (n m k : Nat) (hn : bl n ≤ k) (hm : bl m ≤ k) : bl (n + m) ≤ k + 1 := by
  refine bl_le _ _ ?_
  have h1 := lt_two_bl n
  have h2 := lt_two_bl m
  have h3 : 2 ^ bl n ≤ 2 ^ k := Nat.pow_le_pow_right (by decide) hn
  have h4 : 2 ^ bl m ≤ 2 ^ k := Nat.pow_le_pow_right (by decide) hm
  rw [Nat.pow_succ]; omega

/-- All that the last part of sum leans on: a, the one with the greater exponent, stands in the first box, b in the second one. -/
structure SumIn (w W : World) (n : Nat) (A A2 : Option Addr) (l c l2 c2 : Nat) (a b : Dy) : Prop where
  box : Box3 W n (.bool a.neg) (.slice A l c) (.int .i64 a.e) (.bool b.neg) (.slice A2 l2 c2) (.int .i64 b.e)
  la : Lim W (.slice A l c) (limbs a.m)
  lb : Lim W (.slice A2 l2 c2) (limbs b.m)
  kept : Kept w W
  base : w.heap.size ≤ n
  tab : Tab w
  oka : a.Ok
  okb : b.Ok
  ma : a.m ≠ 0
  ge : b.e ≤ a.e

theorem SumIn.size {w W w' : World} {n : Nat} {A A2 : Option Addr} {l c l2 c2 : Nat} {a b : Dy} (h : SumIn w W n A A2 l c l2 c2 a b) (k : Kept W w') :
    Calls Tryd.prog 90 #[.slice A l c] w' (RetQ (.int .i64 (bl a.m)) w') := size_c (h.la.kept k) (by have := h.oka.len; omega)

/-- The shifted one is short enough. -/
theorem SumIn.blX {w W : World} {n : Nat} {A A2 : Option Addr} {l c l2 c2 : Nat} {a b : Dy} (h : SumIn w W n A A2 l c l2 c2 a b) {j : Nat} (hj : j ≤ 4097) : bl (a.m * 2 ^ j) ≤ 8193 := by
  rw [bl_mul_pow _ _ h.ma]
  have := bl_of_len a.m 64 h.oka.len
  omega
theorem SumIn.left {w W w' : World} {n : Nat} {A A2 : Option Addr} {l c l2 c2 : Nat} {a b : Dy} (h : SumIn w W n A A2 l c l2 c2 a b) (k : Kept W w') {j : Nat} (hj : j ≤ 4097) :
    Calls Tryd.prog 92 #[.slice A l c, .int .i64 j] w' (RetLim (limbs (a.m * 2 ^ j)) w') := left_c (h.la.kept k) j (by have := h.oka.len; omega) (by omega)
theorem SumIn.plus {w W w' : World} {n : Nat} {A A2 : Option Addr} {l c l2 c2 : Nat} {a b : Dy} (h : SumIn w W n A A2 l c l2 c2 a b) (k : Kept W w') {j : Nat} (hj : j ≤ 4097) {v : Value} (hv : Lim w' v (limbs (a.m * 2 ^ j))) :
    Calls Tryd.prog 102 #[v, .slice A2 l2 c2] w' (RetLim (limbs (a.m * 2 ^ j + b.m)) w') := by
  have h1 := limbs_len_bl _ 129 (by have := h.blX hj; omega : bl (a.m * 2 ^ j) ≤ 64 * 129)
  have h2 := h.okb.len
  exact plus_c hv (h.lb.kept k) (by omega) (by omega)
theorem SumIn.fits {w W w' : World} {n : Nat} {A A2 : Option Addr} {l c l2 c2 : Nat} {a b : Dy} (h : SumIn w W n A A2 l c l2 c2 a b) (k : Kept W w') {m : Nat} (hm : bl m ≤ 8194) {v : Value} (hv : Lim w' v (limbs m)) (s : Bool) :
    Calls Tryd.prog 72 #[.bool s, v, .int .i64 b.e] w' (Goes 111 (fitD s m b.e).raw w') := by
  have h1 := limbs_len_bl m 129 (by omega)
  have h2 := h.okb.lo
  have h3 := h.okb.hi
  exact fit_c hv (by omega) (by omega) (by omega) (h.tab.kept (h.kept.trans k))
theorem SumIn.blSum {w W : World} {n : Nat} {A A2 : Option Addr} {l c l2 c2 : Nat} {a b : Dy} (h : SumIn w W n A A2 l c l2 c2 a b) {j : Nat} (hj : j ≤ 4097) : bl (a.m * 2 ^ j + b.m) ≤ 8194 :=
  bl_add _ _ 8193 (h.blX hj) (by have := bl_of_len b.m 64 h.okb.len; omega)
theorem SumIn.order {w W w' : World} {n : Nat} {A A2 : Option Addr} {l c l2 c2 : Nat} {a b : Dy} (h : SumIn w W n A A2 l c l2 c2 a b) (k : Kept W w') {j : Nat} (hj : j ≤ 4097) {v : Value} (hv : Lim w' v (limbs (a.m * 2 ^ j))) :
    Calls Tryd.prog 97 #[v, .slice A2 l2 c2] w' (RetQ (.int .i64 (cmpN (a.m * 2 ^ j) b.m)) w') := by
  have h1 := limbs_len_bl _ 129 (by have := h.blX hj; omega : bl (a.m * 2 ^ j) ≤ 64 * 129)
  have h2 := h.okb.len
  exact order_c hv (h.lb.kept k) (by omega) (by omega)
theorem SumIn.minus {w W w' : World} {n : Nat} {A A2 : Option Addr} {l c l2 c2 : Nat} {a b : Dy} (h : SumIn w W n A A2 l c l2 c2 a b) (k : Kept W w') {j : Nat} (hj : j ≤ 4097) {v : Value} (hv : Lim w' v (limbs (a.m * 2 ^ j))) (hle : b.m ≤ a.m * 2 ^ j) :
    Calls Tryd.prog 103 #[v, .slice A2 l2 c2] w' (RetLim (limbs (a.m * 2 ^ j - b.m)) w') := by
  have h1 := limbs_len_bl _ 129 (by have := h.blX hj; omega : bl (a.m * 2 ^ j) ≤ 64 * 129)
  exact minus_c hv (h.lb.kept k) (by omega) hle
theorem SumIn.minus' {w W w' : World} {n : Nat} {A A2 : Option Addr} {l c l2 c2 : Nat} {a b : Dy} (h : SumIn w W n A A2 l c l2 c2 a b) (k : Kept W w') {j : Nat} {v : Value} (hv : Lim w' v (limbs (a.m * 2 ^ j))) (hle : a.m * 2 ^ j ≤ b.m) :
    Calls Tryd.prog 103 #[.slice A2 l2 c2, v] w' (RetLim (limbs (b.m - a.m * 2 ^ j)) w') :=
  minus_c (h.lb.kept k) hv (by have := h.okb.len; omega) hle

theorem must_true (k : Int) (w : World) : Calls Tryd.prog 101 #[.bool true, .int .i64 k] w (RetK (.tuple #[]) w) := (must_c true k w).mono fun _ _ ⟨he, hw⟩ => ⟨he, hw ▸ Below.refl _ _⟩

/-- must over a Bool: it goes on, or goes up. -/
theorem must_if (b : Bool) (k : Int) (w : World) : Calls Tryd.prog 101 #[.bool b, .int .i64 k] w fun e w' => (∃ v, e = .returned v ∧ Kept w w' ∧ (b = true ∧ v = .tuple #[])) ∨ (∃ c, e = .panicked c ∧ (b = false ∧ c = failV 111 k ∧ w = w')) :=
  (must_c b k w).mono fun e w' ⟨he, hw⟩ => by
    subst hw
    cases b
    · exact .inr ⟨_, he, rfl, rfl, rfl⟩
    · exact .inl ⟨_, he, Below.refl _ _, rfl, rfl⟩

/-- The end: the result lies in the third box. -/
theorem SumIn.close {w W w1 : World} {n : Nat} {A A2 : Option Addr} {l c l2 c2 : Nat} {a b : Dy} (h : SumIn w W n A A2 l c l2 c2 a b) (k : Kept W w1) {o : Outc Dy} {A' : Option Addr} {l' c' : Nat} (h0 : o.raw.k = 0)
    (hd : Lim w1 (.slice A' l' c') o.raw.v.m) (g1 : -9223372036854775808 ≤ o.raw.v.e) (g2 : o.raw.v.e ≤ 9223372036854775807) :
    Goes 111 o.raw w (.returned (.agg #[.bool o.raw.v.neg, .slice A' l' c', .int .i64 o.raw.v.e])) (dyW w1 (n + 1 + 1) (.bool o.raw.v.neg) (.slice A' l' c') (.int .i64 o.raw.v.e)) :=
  ⟨dyW_kept (h.kept.trans k) (by have := h.base; omega), .inl ⟨h0, _, rfl, (hd.dyW (h.box.b2.kept k) (noLimb_bool _) (noLimb_slice _ _ _) (noLimb_i64 _)).dyR g1 g2⟩⟩

/-- A Dyad's value by its parts. -/
theorem dyR_parts {w : World} {v : Value} {o : Outc Dy} (h : DyR w v o.raw.v) : ∃ A l c, v = .agg #[.bool o.raw.v.neg, .slice A l c, .int .i64 o.raw.v.e] ∧ Lim w (.slice A l c) o.raw.v.m ∧ -9223372036854775808 ≤ o.raw.v.e ∧ o.raw.v.e ≤ 9223372036854775807 := by
  obtain ⟨A, l, c, rfl, -, h1, h2, h3⟩ := h.shape
  exact ⟨A, l, c, rfl, h1, h2, h3⟩




set_option maxHeartbeats 4000000 in
set_option maxRecDepth 100000 in
theorem sum_core {w : World} {va vb : Value} {x y : Dy} (ha : DyR w va x.raw) (hb : DyR w vb y.raw) (hx : x.Ok) (hy : y.Ok) (hT : Tab w) (hx0 : x.m ≠ 0) (hy0 : y.m ≠ 0) :
    Calls Tryd.prog 69 #[va, vb] w (Goes 111 (sumD x y).raw w) := by
  unfold sumD
  rw [if_neg hx0, if_neg hy0]
  obtain ⟨A, l, c, rfl, hl, ha, -, -⟩ := ha.shape
  obtain ⟨A2, l2, c2, rfl, hl2, hb, -, -⟩ := hb.shape
  have l0 : ((l : Int) == 0) = false := by have := length_limbs_pos x.m hx0; rw [beq_eq_false_iff_ne, hl]; simp only [Dy.raw]; omega
  have l02 : ((l2 : Int) == 0) = false := by have := length_limbs_pos y.m hy0; rw [beq_eq_false_iff_ne, hl2]; simp only [Dy.raw]; omega
  clear hl hl2
  have LA := Lib.hid ha
  have LB := Lib.hid hb
  have HT := Lib.hid hT
  have HX := Lib.hid hx
  have HY := Lib.hid hy
  have HX0 := Lib.hid hx0
  have HY0 := Lib.hid hy0
  clear ha hb hT hx0 hy0
  have x1 := hx.lo
  have x2 := hx.hi
  have y1 := hy.lo
  have y2 := hy.hi
  clear hx hy
  simp only [Dy.raw] at *
  by_cases hlt : x.e < y.e
  · rw [if_pos hlt]
    obtain ⟨o, ho⟩ : ∃ o, o = sumC y x := ⟨_, rfl⟩
    rw [← ho]
    have HO := Lib.hid ho
    clear ho
    have hd : decide (x.e < y.e) = true := by simp [hlt]
    obtain ⟨W, hW, kW, B0, B1, B2⟩ := boxes3 w (.bool y.neg) (.slice A2 l2 c2) (.int .i64 y.e) (.bool x.neg) (.slice A l c) (.int .i64 x.e)
    have hs : SumIn w W w.heap.size A2 A l2 c2 l c y x := ⟨⟨B0, B1, B2⟩, LB.out.kept kW, LA.out.kept kW, kW, Nat.le_refl _, HT.out, HY.out, HX.out, HY0.out, by omega⟩
    have HS := Lib.hid hs
    have HW := Lib.hid hW
    clear hs hW kW B0 B1 B2 hlt
    go_enter Tryd.func69, Tryd.ntmps69
    go_wp2_with fail
    rw [← HW.out]
    clear HW LA LB HT HX HY HX0 HY0 l0 l02 hd x1 x2 y1 y2
    obtain ⟨j, hj⟩ : ∃ j : Nat, y.e - x.e = j := ⟨(y.e - x.e).toNat, by have := HS.out.ge; omega⟩
    have hjt : (y.e - x.e).toNat = j := by omega
    have a1 := HS.out.oka.lo
    have a2 := HS.out.oka.hi
    have b1 := HS.out.okb.lo
    have b2 := HS.out.okb.hi
    have hbl := bl_of_len y.m 64 HS.out.oka.len
    have hws : IntKind.i64.wrap (y.e - x.e) = (j : Int) := by rw [hj]; simp [IntKind.wrap_i64]; omega
    have hwt : IntKind.i64.wrap (4097 - (bl y.m : Int)) = 4097 - (bl y.m : Int) := by simp [IntKind.wrap_i64]; omega
    by_cases he : y.e = x.e
    · have hj0 : j ≤ 4097 := by omega
      have hsc : sumC y x = if y.neg = x.neg then fitD y.neg (y.m * 2 ^ j + x.m) x.e else if x.m ≤ y.m * 2 ^ j then fitD y.neg (y.m * 2 ^ j - x.m) x.e else fitD x.neg (x.m - y.m * 2 ^ j) x.e := by
        unfold sumC; rw [if_neg (fun h => h.1 he), hjt]
      have he' : (y.e == x.e) = true := by rw [beq_iff_eq]; exact he
      have HSC := Lib.hid (HO.out.trans hsc)
      have HJ := Lib.hid hj0
      clear hj hjt a1 a2 b1 b2 hbl he hj0 hsc hwt
      refine region_lin (m := 18) (V := VL [
          (fun v _ => v = (.pointer (some ⟨w.heap.size, 2, none⟩))),
          (fun v _ => v = (.int .i64 y.e)),
          (fun v _ => v = (.pointer (some ⟨w.heap.size + 1, 2, none⟩))),
          (fun v _ => v = (.int .i64 x.e)),
          (fun v _ => v = (.bool true)),
          (fun v _ => v = (.bool true)),
          (fun v _ => v = undef),
          (fun v _ => v = undef),
          (fun v _ => v = undef),
          (fun v _ => v = undef),
          (fun v _ => v = undef),
          (fun v _ => v = undef),
          (fun v _ => v = undef),
          (fun v _ => v = undef),
          (fun v _ => v = undef),
          (fun v _ => v = undef),
          (fun v _ => v = (.bool true)),
          (fun v _ => v = (.tuple #[]))])
        (by kernel_rfl) rfl (by kernel_rfl) (by kernel_rfl) (by kernel_rfl) (mono_of _ ⟨mono_eq _, mono_eq _, mono_eq _, mono_eq _, mono_eq _, mono_eq _, mono_eq _, mono_eq _, mono_eq _, mono_eq _, mono_eq _, mono_eq _, mono_eq _, mono_eq _, mono_eq _, mono_eq _, mono_eq _, mono_eq _, trivial⟩) (steps_of ⟨
          (fun aF wF F => by
        have s2 : aF.tmps.getD 2 undef = (.pointer (some ⟨w.heap.size, 0, none⟩)) := F.old 2 (by kernel_rfl)
        exact step_val (by simp [Region.wanted]) (by go_simp) rfl),
          (fun aF wF F => by
        have s25 : aF.tmps.getD 25 undef = (.pointer (some ⟨w.heap.size, 2, none⟩)) := F.done 0 25 (by kernel_rfl) rfl
        have c0 := cell_at HS.out.box.b0 F.kept 2 _ rfl
        exact step_val (by simp [Region.wanted]) (by go_simp) rfl),
          (fun aF wF F => by
        have s3 : aF.tmps.getD 3 undef = (.pointer (some ⟨w.heap.size + 1, 0, none⟩)) := F.old 3 (by kernel_rfl)
        exact step_val (by simp [Region.wanted]) (by go_simp) rfl),
          (fun aF wF F => by
        have s27 : aF.tmps.getD 27 undef = (.pointer (some ⟨w.heap.size + 1, 2, none⟩)) := F.done 2 27 (by kernel_rfl) rfl
        have c0 := cell_at HS.out.box.b1 F.kept 2 _ rfl
        exact step_val (by simp [Region.wanted]) (by go_simp) rfl),
          (fun aF wF F => by
        have s26 : aF.tmps.getD 26 undef = (.int .i64 y.e) := F.done 1 26 (by kernel_rfl) rfl
        have s28 : aF.tmps.getD 28 undef = (.int .i64 x.e) := F.done 3 28 (by kernel_rfl) rfl
        exact step_val (by simp [Region.wanted]) (by go_simp) rfl),
          (fun aF wF F => by
        have s29 : aF.tmps.getD 29 undef = (.bool true) := F.done 4 29 (by kernel_rfl) rfl
        exact step_val (by simp [Region.wanted]) (by go_simp) rfl),
          (fun aF wF F => by
        have sg : aF.tmps.getD 30 undef = (.bool true) := F.done 5 30 (by kernel_rfl) rfl
        exact step_out ((wanted_guard rfl rfl sg).trans rfl) rfl),
          (fun aF wF F => by
        have sg : aF.tmps.getD 30 undef = (.bool true) := F.done 5 30 (by kernel_rfl) rfl
        exact step_out ((wanted_guard rfl rfl sg).trans rfl) rfl),
          (fun aF wF F => by
        have sg : aF.tmps.getD 30 undef = (.bool true) := F.done 5 30 (by kernel_rfl) rfl
        exact step_out ((wanted_guard rfl rfl sg).trans rfl) rfl),
          (fun aF wF F => by
        have sg : aF.tmps.getD 30 undef = (.bool true) := F.done 5 30 (by kernel_rfl) rfl
        exact step_out ((wanted_guard rfl rfl sg).trans rfl) rfl),
          (fun aF wF F => by
        have sg : aF.tmps.getD 30 undef = (.bool true) := F.done 5 30 (by kernel_rfl) rfl
        exact step_out ((wanted_guard rfl rfl sg).trans rfl) rfl),
          (fun aF wF F => by
        have sg : aF.tmps.getD 30 undef = (.bool true) := F.done 5 30 (by kernel_rfl) rfl
        exact step_out ((wanted_guard rfl rfl sg).trans rfl) rfl),
          (fun aF wF F => by
        have sg : aF.tmps.getD 30 undef = (.bool true) := F.done 5 30 (by kernel_rfl) rfl
        exact step_out ((wanted_guard rfl rfl sg).trans rfl) rfl),
          (fun aF wF F => by
        have sg : aF.tmps.getD 30 undef = (.bool true) := F.done 5 30 (by kernel_rfl) rfl
        exact step_out ((wanted_guard rfl rfl sg).trans rfl) rfl),
          (fun aF wF F => by
        have sg : aF.tmps.getD 30 undef = (.bool true) := F.done 5 30 (by kernel_rfl) rfl
        exact step_out ((wanted_guard rfl rfl sg).trans rfl) rfl),
          (fun aF wF F => by
        have sg : aF.tmps.getD 30 undef = (.bool true) := F.done 5 30 (by kernel_rfl) rfl
        exact step_out ((wanted_guard rfl rfl sg).trans rfl) rfl),
          (fun aF wF F => by
        have s30 : aF.tmps.getD 30 undef = (.bool true) := F.done 5 30 (by kernel_rfl) rfl
        have s40 : aF.tmps.getD 40 undef = undef := F.done 15 40 (by kernel_rfl) rfl
        exact step_val (by simp [Region.wanted]) (by go_simp) rfl),
          (fun aF wF F => by
        have s41 : aF.tmps.getD 41 undef = (.bool true) := F.done 16 41 (by kernel_rfl) rfl
        exact step_good (by simp [Region.wanted]) (by go_simp) (must_true 2 _) (fun _ _ h => RetK.good h) (fun _ _ h => h)),
          trivial⟩) ?_
      intro u w1 k1 hu
      have e25 : u 0 = (.pointer (some ⟨w.heap.size, 2, none⟩)) := hu 0 (by decide)
      have e26 : u 1 = (.int .i64 y.e) := hu 1 (by decide)
      have e27 : u 2 = (.pointer (some ⟨w.heap.size + 1, 2, none⟩)) := hu 2 (by decide)
      have e28 : u 3 = (.int .i64 x.e) := hu 3 (by decide)
      have e29 : u 4 = (.bool true) := hu 4 (by decide)
      have e30 : u 5 = (.bool true) := hu 5 (by decide)
      have e31 : u 6 = undef := hu 6 (by decide)
      have e32 : u 7 = undef := hu 7 (by decide)
      have e33 : u 8 = undef := hu 8 (by decide)
      have e34 : u 9 = undef := hu 9 (by decide)
      have e35 : u 10 = undef := hu 10 (by decide)
      have e36 : u 11 = undef := hu 11 (by decide)
      have e37 : u 12 = undef := hu 12 (by decide)
      have e38 : u 13 = undef := hu 13 (by decide)
      have e39 : u 14 = undef := hu 14 (by decide)
      have e40 : u 15 = undef := hu 15 (by decide)
      have e41 : u 16 = (.bool true) := hu 16 (by decide)
      have e42 : u 17 = (.tuple #[]) := hu 17 (by decide)
      clear hu
      simp only [puts, slotOf, if_true, Act.put, List.setIfInBounds_toArray, List.set_cons_zero, List.set_cons_succ, List.getElem?_toArray, List.getElem?_cons_zero, List.getElem?_cons_succ, Option.bind_some, e25, e26, e27, e28, e29, e30, e31, e32, e33, e34, e35, e36, e37, e38, e39, e40, e41, e42]
      clear e25 e26 e27 e28 e29 e30 e31 e32 e33 e34 e35 e36 e37 e38 e39 e40 e41 e42
      clear he' u
      by_cases hn : y.neg = x.neg
      · have hso := HSC.out
        rw [if_pos hn] at hso
        subst hso
        have hnb : (y.neg == x.neg) = true := by simp [hn]
        clear hn
        obtain ⟨-, a0, a1, a2, -⟩ := (HS.out.box.b0.kept k1).facts
        obtain ⟨-, b0, b1, b2, -⟩ := (HS.out.box.b1.kept k1).facts
        have K1 := Lib.hid k1
        clear k1
        go_wp2_with (first
          | (go_at_call 92; refine (HS.out.left K1.out HJ.out).mono ?_; clear a0 a1 a2 b0 b1 b2; rintro e w2 ⟨X, rfl, hX, q2⟩; have LX := Lib.hid hX; have KX := Lib.hid (K1.out.trans q2); obtain ⟨-, a0, a1, a2, -⟩ := (HS.out.box.b0.kept KX.out).facts; obtain ⟨-, b0, b1, b2, -⟩ := (HS.out.box.b1.kept KX.out).facts; clear hX q2)
          | (go_at_call 97; refine (HS.out.order KX.out HJ.out LX.out).mono ?_; rintro e w2 ⟨rfl, q, rfl⟩; replace LX := Lib.hid (LX.out.drewN q); replace KX := Lib.hid (Kept.drewN KX.out q)))
        clear hnb a0 a1 a2 b0 b1 b2
        refine region_lin1 (m := 9) (V := VL [
            (fun v _ => v = (.pointer (some ⟨w.heap.size, 0, none⟩))),
            (fun v _ => v = (.bool y.neg)),
            (fun v _ => v = X),
            (fun v _ => v = (.pointer (some ⟨w.heap.size + 1, 1, none⟩))),
            (fun v _ => v = (.slice A l c)),
            (fun v wv => Lim wv v (limbs (y.m * 2 ^ j + x.m))),
            (fun v _ => v = (.pointer (some ⟨w.heap.size + 1, 2, none⟩))),
            (fun v _ => v = (.int .i64 x.e)),
            (fun v wv => ((fitD y.neg (y.m * 2 ^ j + x.m) x.e).raw).k = 0 ∧ DyR wv v ((fitD y.neg (y.m * 2 ^ j + x.m) x.e).raw).v)])
          (by kernel_rfl) rfl rfl rfl (by kernel_rfl) (by kernel_rfl) (by kernel_rfl) (by kernel_rfl) (mono_of _ ⟨mono_eq _, mono_eq _, mono_eq _, mono_eq _, mono_eq _, fun v w w' k h => by first | exact h | exact h.kept k | exact ⟨h.1, h.2.kept k⟩, mono_eq _, mono_eq _, fun v w w' k h => by first | exact h | exact h.kept k | exact ⟨h.1, h.2.kept k⟩, trivial⟩) (steps_of ⟨
            (fun aF wF F => by
          have s2 : aF.tmps.getD 2 undef = (.pointer (some ⟨w.heap.size, 0, none⟩)) := F.old 2 (by kernel_rfl)
          exact step_val (by simp [Region.wanted]) (by go_simp) rfl),
            (fun aF wF F => by
          have s57 : aF.tmps.getD 57 undef = (.pointer (some ⟨w.heap.size, 0, none⟩)) := F.done 0 57 (by kernel_rfl) rfl
          have c0 := cell_at (HS.out.box.b0.kept KX.out) F.kept 0 _ rfl
          exact step_val (by simp [Region.wanted]) (by go_simp) rfl),
            (fun aF wF F => by
          have s5 : aF.tmps.getD 5 undef = X := F.old 5 (by kernel_rfl)
          exact step_val (by simp [Region.wanted]) (by go_simp) rfl),
            (fun aF wF F => by
          have s3 : aF.tmps.getD 3 undef = (.pointer (some ⟨w.heap.size + 1, 0, none⟩)) := F.old 3 (by kernel_rfl)
          exact step_val (by simp [Region.wanted]) (by go_simp) rfl),
            (fun aF wF F => by
          have s60 : aF.tmps.getD 60 undef = (.pointer (some ⟨w.heap.size + 1, 1, none⟩)) := F.done 3 60 (by kernel_rfl) rfl
          have c0 := cell_at (HS.out.box.b1.kept KX.out) F.kept 1 _ rfl
          exact step_val (by simp [Region.wanted]) (by go_simp) rfl),
            (fun aF wF F => by
          have s59 : aF.tmps.getD 59 undef = X := F.done 2 59 (by kernel_rfl) rfl
          have s61 : aF.tmps.getD 61 undef = (.slice A l c) := F.done 4 61 (by kernel_rfl) rfl
          exact step_good (by simp [Region.wanted]) (by go_simp) (HS.out.plus (KX.out.trans F.kept) HJ.out (LX.out.kept F.kept)) (fun _ _ h => RetLim.good h) (fun _ _ h => h)),
            (fun aF wF F => by
          have s3 : aF.tmps.getD 3 undef = (.pointer (some ⟨w.heap.size + 1, 0, none⟩)) := F.old 3 (by kernel_rfl)
          exact step_val (by simp [Region.wanted]) (by go_simp) rfl),
            (fun aF wF F => by
          have s63 : aF.tmps.getD 63 undef = (.pointer (some ⟨w.heap.size + 1, 2, none⟩)) := F.done 6 63 (by kernel_rfl) rfl
          have c0 := cell_at (HS.out.box.b1.kept KX.out) F.kept 2 _ rfl
          exact step_val (by simp [Region.wanted]) (by go_simp) rfl),
            (fun aF wF F => by
          have s58 : aF.tmps.getD 58 undef = (.bool y.neg) := F.done 1 58 (by kernel_rfl) rfl
          have s62 : (fun v wv => Lim wv v (limbs (y.m * 2 ^ j + x.m))) (aF.tmps.getD 62 undef) wF := F.done 5 62 (by kernel_rfl) rfl
          have s64 : aF.tmps.getD 64 undef = (.int .i64 x.e) := F.done 7 64 (by kernel_rfl) rfl
          exact step_goes (by simp [Region.wanted]) (by go_simp) (HS.out.fits (KX.out.trans F.kept) (HS.out.blSum HJ.out) s62 y.neg) (fun _ _ _ h0 h => ⟨h0, h⟩) (fun w2 k2 h0 => ⟨F.defers, ⟨HS.out.kept.trans (KX.out.trans (F.kept.trans k2)), .inr ⟨h0, rfl⟩⟩⟩)),
            trivial⟩) ?_
        intro u w1 k1 hu
        have e57 : u 0 = (.pointer (some ⟨w.heap.size, 0, none⟩)) := hu 0 (by decide)
        have e58 : u 1 = (.bool y.neg) := hu 1 (by decide)
        have e59 : u 2 = X := hu 2 (by decide)
        have e60 : u 3 = (.pointer (some ⟨w.heap.size + 1, 1, none⟩)) := hu 3 (by decide)
        have e61 : u 4 = (.slice A l c) := hu 4 (by decide)
        have p62 := hu 5 (by decide)
        have e63 : u 6 = (.pointer (some ⟨w.heap.size + 1, 2, none⟩)) := hu 6 (by decide)
        have e64 : u 7 = (.int .i64 x.e) := hu 7 (by decide)
        have p65 := hu 8 (by decide)
        clear hu
        simp only [puts, slotOf, if_true, Act.put, List.setIfInBounds_toArray, List.set_cons_zero, List.set_cons_succ, List.getElem?_toArray, List.getElem?_cons_zero, List.getElem?_cons_succ, Option.bind_some, e57, e58, e59, e60, e61, e63, e64]
        clear e57 e58 e59 e60 e61 e63 e64
        generalize u 5 = v62 at *
        try simp only [VL, List.getD_cons_zero, List.getD_cons_succ] at p62
        generalize u 8 = v65 at *
        try simp only [VL, List.getD_cons_zero, List.getD_cons_succ] at p65
        obtain ⟨h0, hd⟩ := p65
        obtain ⟨A', l', c', rfl, hd, g1, g2⟩ := dyR_parts hd
        have hr := HS.out.close (Kept.trans KX.out k1) h0 hd g1 g2
        have hb := HS.out.box.b2.kept (Kept.trans KX.out k1)
        have HR := Lib.hid hr
        have HB := Lib.hid hb
        clear hr hd g1 g2 h0
        obtain ⟨_, c0, c1, c2, f0, f1, f2⟩ := hb.facts
        clear hb
        go_simp
        go_wp2_with fail
        exact ret_dy (HB.out.laid _ _ _) rfl rfl rfl HR.out
      · have hso := HSC.out
        rw [if_neg hn] at hso
        have hnb : (y.neg == x.neg) = false := by simp [hn]
        clear hn
        by_cases hle : x.m ≤ y.m * 2 ^ j
        · rw [if_pos hle] at hso
          subst hso
          have hcm : decide (0 ≤ cmpN (y.m * 2 ^ j) x.m) = true := by unfold cmpN; rw [if_neg (by omega)]; split <;> rfl
          have HL := Lib.hid hle
          clear hle
          obtain ⟨-, a0, a1, a2, -⟩ := (HS.out.box.b0.kept k1).facts
          obtain ⟨-, b0, b1, b2, -⟩ := (HS.out.box.b1.kept k1).facts
          have K1 := Lib.hid k1
          clear k1
          go_wp2_with (first
            | (go_at_call 92; refine (HS.out.left K1.out HJ.out).mono ?_; clear a0 a1 a2 b0 b1 b2; rintro e w2 ⟨X, rfl, hX, q2⟩; have LX := Lib.hid hX; have KX := Lib.hid (K1.out.trans q2); obtain ⟨-, a0, a1, a2, -⟩ := (HS.out.box.b0.kept KX.out).facts; obtain ⟨-, b0, b1, b2, -⟩ := (HS.out.box.b1.kept KX.out).facts; clear hX q2)
            | (go_at_call 97; refine (HS.out.order KX.out HJ.out LX.out).mono ?_; rintro e w2 ⟨rfl, q, rfl⟩; replace LX := Lib.hid (LX.out.drewN q); replace KX := Lib.hid (Kept.drewN KX.out q)))
          clear hnb hcm a0 a1 a2 b0 b1 b2
          refine region_lin1 (m := 9) (V := VL [
              (fun v _ => v = (.pointer (some ⟨w.heap.size, 0, none⟩))),
              (fun v _ => v = (.bool y.neg)),
              (fun v _ => v = X),
              (fun v _ => v = (.pointer (some ⟨w.heap.size + 1, 1, none⟩))),
              (fun v _ => v = (.slice A l c)),
              (fun v wv => Lim wv v (limbs (y.m * 2 ^ j - x.m))),
              (fun v _ => v = (.pointer (some ⟨w.heap.size + 1, 2, none⟩))),
              (fun v _ => v = (.int .i64 x.e)),
              (fun v wv => ((fitD y.neg (y.m * 2 ^ j - x.m) x.e).raw).k = 0 ∧ DyR wv v ((fitD y.neg (y.m * 2 ^ j - x.m) x.e).raw).v)])
            (by kernel_rfl) rfl rfl rfl (by kernel_rfl) (by kernel_rfl) (by kernel_rfl) (by kernel_rfl) (mono_of _ ⟨mono_eq _, mono_eq _, mono_eq _, mono_eq _, mono_eq _, fun v w w' k h => by first | exact h | exact h.kept k | exact ⟨h.1, h.2.kept k⟩, mono_eq _, mono_eq _, fun v w w' k h => by first | exact h | exact h.kept k | exact ⟨h.1, h.2.kept k⟩, trivial⟩) (steps_of ⟨
              (fun aF wF F => by
            have s2 : aF.tmps.getD 2 undef = (.pointer (some ⟨w.heap.size, 0, none⟩)) := F.old 2 (by kernel_rfl)
            exact step_val (by simp [Region.wanted]) (by go_simp) rfl),
              (fun aF wF F => by
            have s72 : aF.tmps.getD 72 undef = (.pointer (some ⟨w.heap.size, 0, none⟩)) := F.done 0 72 (by kernel_rfl) rfl
            have c0 := cell_at (HS.out.box.b0.kept KX.out) F.kept 0 _ rfl
            exact step_val (by simp [Region.wanted]) (by go_simp) rfl),
              (fun aF wF F => by
            have s5 : aF.tmps.getD 5 undef = X := F.old 5 (by kernel_rfl)
            exact step_val (by simp [Region.wanted]) (by go_simp) rfl),
              (fun aF wF F => by
            have s3 : aF.tmps.getD 3 undef = (.pointer (some ⟨w.heap.size + 1, 0, none⟩)) := F.old 3 (by kernel_rfl)
            exact step_val (by simp [Region.wanted]) (by go_simp) rfl),
              (fun aF wF F => by
            have s75 : aF.tmps.getD 75 undef = (.pointer (some ⟨w.heap.size + 1, 1, none⟩)) := F.done 3 75 (by kernel_rfl) rfl
            have c0 := cell_at (HS.out.box.b1.kept KX.out) F.kept 1 _ rfl
            exact step_val (by simp [Region.wanted]) (by go_simp) rfl),
              (fun aF wF F => by
            have s74 : aF.tmps.getD 74 undef = X := F.done 2 74 (by kernel_rfl) rfl
            have s76 : aF.tmps.getD 76 undef = (.slice A l c) := F.done 4 76 (by kernel_rfl) rfl
            exact step_good (by simp [Region.wanted]) (by go_simp) (HS.out.minus (KX.out.trans F.kept) HJ.out (LX.out.kept F.kept) HL.out) (fun _ _ h => RetLim.good h) (fun _ _ h => h)),
              (fun aF wF F => by
            have s3 : aF.tmps.getD 3 undef = (.pointer (some ⟨w.heap.size + 1, 0, none⟩)) := F.old 3 (by kernel_rfl)
            exact step_val (by simp [Region.wanted]) (by go_simp) rfl),
              (fun aF wF F => by
            have s78 : aF.tmps.getD 78 undef = (.pointer (some ⟨w.heap.size + 1, 2, none⟩)) := F.done 6 78 (by kernel_rfl) rfl
            have c0 := cell_at (HS.out.box.b1.kept KX.out) F.kept 2 _ rfl
            exact step_val (by simp [Region.wanted]) (by go_simp) rfl),
              (fun aF wF F => by
            have s73 : aF.tmps.getD 73 undef = (.bool y.neg) := F.done 1 73 (by kernel_rfl) rfl
            have s77 : (fun v wv => Lim wv v (limbs (y.m * 2 ^ j - x.m))) (aF.tmps.getD 77 undef) wF := F.done 5 77 (by kernel_rfl) rfl
            have s79 : aF.tmps.getD 79 undef = (.int .i64 x.e) := F.done 7 79 (by kernel_rfl) rfl
            exact step_goes (by simp [Region.wanted]) (by go_simp) (HS.out.fits (KX.out.trans F.kept) (Nat.le_trans (bl_mono (Nat.sub_le _ _)) (Nat.le_succ_of_le (HS.out.blX HJ.out))) s77 y.neg) (fun _ _ _ h0 h => ⟨h0, h⟩) (fun w2 k2 h0 => ⟨F.defers, ⟨HS.out.kept.trans (KX.out.trans (F.kept.trans k2)), .inr ⟨h0, rfl⟩⟩⟩)),
              trivial⟩) ?_
          intro u w1 k1 hu
          have e72 : u 0 = (.pointer (some ⟨w.heap.size, 0, none⟩)) := hu 0 (by decide)
          have e73 : u 1 = (.bool y.neg) := hu 1 (by decide)
          have e74 : u 2 = X := hu 2 (by decide)
          have e75 : u 3 = (.pointer (some ⟨w.heap.size + 1, 1, none⟩)) := hu 3 (by decide)
          have e76 : u 4 = (.slice A l c) := hu 4 (by decide)
          have p77 := hu 5 (by decide)
          have e78 : u 6 = (.pointer (some ⟨w.heap.size + 1, 2, none⟩)) := hu 6 (by decide)
          have e79 : u 7 = (.int .i64 x.e) := hu 7 (by decide)
          have p80 := hu 8 (by decide)
          clear hu
          simp only [puts, slotOf, if_true, Act.put, List.setIfInBounds_toArray, List.set_cons_zero, List.set_cons_succ, List.getElem?_toArray, List.getElem?_cons_zero, List.getElem?_cons_succ, Option.bind_some, e72, e73, e74, e75, e76, e78, e79]
          clear e72 e73 e74 e75 e76 e78 e79
          generalize u 5 = v77 at *
          try simp only [VL, List.getD_cons_zero, List.getD_cons_succ] at p77
          generalize u 8 = v80 at *
          try simp only [VL, List.getD_cons_zero, List.getD_cons_succ] at p80
          obtain ⟨h0, hd⟩ := p80
          obtain ⟨A', l', c', rfl, hd, g1, g2⟩ := dyR_parts hd
          have hr := HS.out.close (Kept.trans KX.out k1) h0 hd g1 g2
          have hb := HS.out.box.b2.kept (Kept.trans KX.out k1)
          have HR := Lib.hid hr
          have HB := Lib.hid hb
          clear hr hd g1 g2 h0
          obtain ⟨_, c0, c1, c2, f0, f1, f2⟩ := hb.facts
          clear hb
          go_simp
          go_wp2_with fail
          exact ret_dy (HB.out.laid _ _ _) rfl rfl rfl HR.out
        · rw [if_neg hle] at hso
          subst hso
          have hcm : decide (0 ≤ cmpN (y.m * 2 ^ j) x.m) = false := by unfold cmpN; rw [if_pos (by omega)]; rfl
          have HL := Lib.hid (show y.m * 2 ^ j ≤ x.m by omega)
          clear hle
          obtain ⟨-, a0, a1, a2, -⟩ := (HS.out.box.b0.kept k1).facts
          obtain ⟨-, b0, b1, b2, -⟩ := (HS.out.box.b1.kept k1).facts
          have K1 := Lib.hid k1
          clear k1
          go_wp2_with (first
            | (go_at_call 92; refine (HS.out.left K1.out HJ.out).mono ?_; clear a0 a1 a2 b0 b1 b2; rintro e w2 ⟨X, rfl, hX, q2⟩; have LX := Lib.hid hX; have KX := Lib.hid (K1.out.trans q2); obtain ⟨-, a0, a1, a2, -⟩ := (HS.out.box.b0.kept KX.out).facts; obtain ⟨-, b0, b1, b2, -⟩ := (HS.out.box.b1.kept KX.out).facts; clear hX q2)
            | (go_at_call 97; refine (HS.out.order KX.out HJ.out LX.out).mono ?_; rintro e w2 ⟨rfl, q, rfl⟩; replace LX := Lib.hid (LX.out.drewN q); replace KX := Lib.hid (Kept.drewN KX.out q)))
          clear hnb hcm a0 a1 a2 b0 b1 b2
          refine region_lin1 (m := 9) (V := VL [
              (fun v _ => v = (.pointer (some ⟨w.heap.size + 1, 0, none⟩))),
              (fun v _ => v = (.bool x.neg)),
              (fun v _ => v = (.pointer (some ⟨w.heap.size + 1, 1, none⟩))),
              (fun v _ => v = (.slice A l c)),
              (fun v _ => v = X),
              (fun v wv => Lim wv v (limbs (x.m - y.m * 2 ^ j))),
              (fun v _ => v = (.pointer (some ⟨w.heap.size + 1, 2, none⟩))),
              (fun v _ => v = (.int .i64 x.e)),
              (fun v wv => ((fitD x.neg (x.m - y.m * 2 ^ j) x.e).raw).k = 0 ∧ DyR wv v ((fitD x.neg (x.m - y.m * 2 ^ j) x.e).raw).v)])
            (by kernel_rfl) rfl rfl rfl (by kernel_rfl) (by kernel_rfl) (by kernel_rfl) (by kernel_rfl) (mono_of _ ⟨mono_eq _, mono_eq _, mono_eq _, mono_eq _, mono_eq _, fun v w w' k h => by first | exact h | exact h.kept k | exact ⟨h.1, h.2.kept k⟩, mono_eq _, mono_eq _, fun v w w' k h => by first | exact h | exact h.kept k | exact ⟨h.1, h.2.kept k⟩, trivial⟩) (steps_of ⟨
              (fun aF wF F => by
            have s3 : aF.tmps.getD 3 undef = (.pointer (some ⟨w.heap.size + 1, 0, none⟩)) := F.old 3 (by kernel_rfl)
            exact step_val (by simp [Region.wanted]) (by go_simp) rfl),
              (fun aF wF F => by
            have s81 : aF.tmps.getD 81 undef = (.pointer (some ⟨w.heap.size + 1, 0, none⟩)) := F.done 0 81 (by kernel_rfl) rfl
            have c0 := cell_at (HS.out.box.b1.kept KX.out) F.kept 0 _ rfl
            exact step_val (by simp [Region.wanted]) (by go_simp) rfl),
              (fun aF wF F => by
            have s3 : aF.tmps.getD 3 undef = (.pointer (some ⟨w.heap.size + 1, 0, none⟩)) := F.old 3 (by kernel_rfl)
            exact step_val (by simp [Region.wanted]) (by go_simp) rfl),
              (fun aF wF F => by
            have s83 : aF.tmps.getD 83 undef = (.pointer (some ⟨w.heap.size + 1, 1, none⟩)) := F.done 2 83 (by kernel_rfl) rfl
            have c0 := cell_at (HS.out.box.b1.kept KX.out) F.kept 1 _ rfl
            exact step_val (by simp [Region.wanted]) (by go_simp) rfl),
              (fun aF wF F => by
            have s5 : aF.tmps.getD 5 undef = X := F.old 5 (by kernel_rfl)
            exact step_val (by simp [Region.wanted]) (by go_simp) rfl),
              (fun aF wF F => by
            have s84 : aF.tmps.getD 84 undef = (.slice A l c) := F.done 3 84 (by kernel_rfl) rfl
            have s85 : aF.tmps.getD 85 undef = X := F.done 4 85 (by kernel_rfl) rfl
            exact step_good (by simp [Region.wanted]) (by go_simp) (HS.out.minus' (KX.out.trans F.kept) (LX.out.kept F.kept) HL.out) (fun _ _ h => RetLim.good h) (fun _ _ h => h)),
              (fun aF wF F => by
            have s3 : aF.tmps.getD 3 undef = (.pointer (some ⟨w.heap.size + 1, 0, none⟩)) := F.old 3 (by kernel_rfl)
            exact step_val (by simp [Region.wanted]) (by go_simp) rfl),
              (fun aF wF F => by
            have s87 : aF.tmps.getD 87 undef = (.pointer (some ⟨w.heap.size + 1, 2, none⟩)) := F.done 6 87 (by kernel_rfl) rfl
            have c0 := cell_at (HS.out.box.b1.kept KX.out) F.kept 2 _ rfl
            exact step_val (by simp [Region.wanted]) (by go_simp) rfl),
              (fun aF wF F => by
            have s82 : aF.tmps.getD 82 undef = (.bool x.neg) := F.done 1 82 (by kernel_rfl) rfl
            have s86 : (fun v wv => Lim wv v (limbs (x.m - y.m * 2 ^ j))) (aF.tmps.getD 86 undef) wF := F.done 5 86 (by kernel_rfl) rfl
            have s88 : aF.tmps.getD 88 undef = (.int .i64 x.e) := F.done 7 88 (by kernel_rfl) rfl
            exact step_goes (by simp [Region.wanted]) (by go_simp) (HS.out.fits (KX.out.trans F.kept) (Nat.le_trans (bl_of_len x.m 64 HS.out.okb.len |> fun h => Nat.le_trans (bl_mono (Nat.sub_le _ _)) h) (by decide)) s86 x.neg) (fun _ _ _ h0 h => ⟨h0, h⟩) (fun w2 k2 h0 => ⟨F.defers, ⟨HS.out.kept.trans (KX.out.trans (F.kept.trans k2)), .inr ⟨h0, rfl⟩⟩⟩)),
              trivial⟩) ?_
          intro u w1 k1 hu
          have e81 : u 0 = (.pointer (some ⟨w.heap.size + 1, 0, none⟩)) := hu 0 (by decide)
          have e82 : u 1 = (.bool x.neg) := hu 1 (by decide)
          have e83 : u 2 = (.pointer (some ⟨w.heap.size + 1, 1, none⟩)) := hu 2 (by decide)
          have e84 : u 3 = (.slice A l c) := hu 3 (by decide)
          have e85 : u 4 = X := hu 4 (by decide)
          have p86 := hu 5 (by decide)
          have e87 : u 6 = (.pointer (some ⟨w.heap.size + 1, 2, none⟩)) := hu 6 (by decide)
          have e88 : u 7 = (.int .i64 x.e) := hu 7 (by decide)
          have p89 := hu 8 (by decide)
          clear hu
          simp only [puts, slotOf, if_true, Act.put, List.setIfInBounds_toArray, List.set_cons_zero, List.set_cons_succ, List.getElem?_toArray, List.getElem?_cons_zero, List.getElem?_cons_succ, Option.bind_some, e81, e82, e83, e84, e85, e87, e88]
          clear e81 e82 e83 e84 e85 e87 e88
          generalize u 5 = v86 at *
          try simp only [VL, List.getD_cons_zero, List.getD_cons_succ] at p86
          generalize u 8 = v89 at *
          try simp only [VL, List.getD_cons_zero, List.getD_cons_succ] at p89
          obtain ⟨h0, hd⟩ := p89
          obtain ⟨A', l', c', rfl, hd, g1, g2⟩ := dyR_parts hd
          have hr := HS.out.close (Kept.trans KX.out k1) h0 hd g1 g2
          have hb := HS.out.box.b2.kept (Kept.trans KX.out k1)
          have HR := Lib.hid hr
          have HB := Lib.hid hb
          clear hr hd g1 g2 h0
          obtain ⟨_, c0, c1, c2, f0, f1, f2⟩ := hb.facts
          clear hb
          go_simp
          go_wp2_with fail
          exact ret_dy (HB.out.laid _ _ _) rfl rfl rfl HR.out
    · have he' : (y.e == x.e) = false := by rw [beq_eq_false_iff_ne]; exact he
      obtain ⟨bb, hbb⟩ : ∃ bb, decide ((j : Int) ≤ 4097 - (bl y.m : Int)) = bb := ⟨_, rfl⟩
      have HE := Lib.hid he
      have HJ := Lib.hid hj
      have HT := Lib.hid hjt
      have HB := Lib.hid hbl
      have AB := Lib.hid (show -1048576 ≤ y.e ∧ y.e ≤ 1048576 ∧ -1048576 ≤ x.e ∧ x.e ≤ 1048576 from ⟨a1, a2, b1, b2⟩)
      clear he hj hjt hbl a1 a2 b1 b2
      have hpan : ∀ w2, Kept W w2 → bb = false → Goes 111 o.raw w (.panicked (failV 111 2)) w2 := by
        intro w2 k2 hb
        rw [HO.out]
        have hc : ¬ y.e = x.e ∧ 4097 - (bl y.m : Int) < y.e - x.e := ⟨HE.out, by have := HJ.out; rw [hb] at hbb; simp at hbb; omega⟩
        unfold sumC
        rw [if_pos hc]
        exact ⟨HS.out.kept.trans k2, .inr ⟨by decide, rfl⟩⟩
      have HP := Lib.hid hpan
      clear hpan
      refine region_lin (m := 18) (V := VL [
          (fun v _ => v = (.pointer (some ⟨w.heap.size, 2, none⟩))),
          (fun v _ => v = (.int .i64 y.e)),
          (fun v _ => v = (.pointer (some ⟨w.heap.size + 1, 2, none⟩))),
          (fun v _ => v = (.int .i64 x.e)),
          (fun v _ => v = (.bool false)),
          (fun v _ => v = (.bool false)),
          (fun v _ => v = (.pointer (some ⟨w.heap.size, 2, none⟩))),
          (fun v _ => v = (.int .i64 y.e)),
          (fun v _ => v = (.pointer (some ⟨w.heap.size + 1, 2, none⟩))),
          (fun v _ => v = (.int .i64 x.e)),
          (fun v _ => v = (.int .i64 j)),
          (fun v _ => v = (.pointer (some ⟨w.heap.size, 1, none⟩))),
          (fun v _ => v = (.slice A2 l2 c2)),
          (fun v _ => v = (.int .i64 (bl y.m))),
          (fun v _ => v = (.int .i64 (4097 - (bl y.m : Int)))),
          (fun v _ => v = (.bool bb)),
          (fun v _ => v = (.bool bb)),
          (fun v _ => bb = true ∧ v = .tuple #[])])
        (by kernel_rfl) rfl (by kernel_rfl) (by kernel_rfl) (by kernel_rfl) (mono_of _ ⟨mono_eq _, mono_eq _, mono_eq _, mono_eq _, mono_eq _, mono_eq _, mono_eq _, mono_eq _, mono_eq _, mono_eq _, mono_eq _, mono_eq _, mono_eq _, mono_eq _, mono_eq _, mono_eq _, mono_eq _, fun v w w' k h => by first | exact h | exact h.kept k | exact ⟨h.1, h.2.kept k⟩, trivial⟩) (steps_of ⟨
          (fun aF wF F => by
        have s2 : aF.tmps.getD 2 undef = (.pointer (some ⟨w.heap.size, 0, none⟩)) := F.old 2 (by kernel_rfl)
        exact step_val (by simp [Region.wanted]) (by go_simp) rfl),
          (fun aF wF F => by
        have s25 : aF.tmps.getD 25 undef = (.pointer (some ⟨w.heap.size, 2, none⟩)) := F.done 0 25 (by kernel_rfl) rfl
        have c0 := cell_at HS.out.box.b0 F.kept 2 _ rfl
        exact step_val (by simp [Region.wanted]) (by go_simp) rfl),
          (fun aF wF F => by
        have s3 : aF.tmps.getD 3 undef = (.pointer (some ⟨w.heap.size + 1, 0, none⟩)) := F.old 3 (by kernel_rfl)
        exact step_val (by simp [Region.wanted]) (by go_simp) rfl),
          (fun aF wF F => by
        have s27 : aF.tmps.getD 27 undef = (.pointer (some ⟨w.heap.size + 1, 2, none⟩)) := F.done 2 27 (by kernel_rfl) rfl
        have c0 := cell_at HS.out.box.b1 F.kept 2 _ rfl
        exact step_val (by simp [Region.wanted]) (by go_simp) rfl),
          (fun aF wF F => by
        have s26 : aF.tmps.getD 26 undef = (.int .i64 y.e) := F.done 1 26 (by kernel_rfl) rfl
        have s28 : aF.tmps.getD 28 undef = (.int .i64 x.e) := F.done 3 28 (by kernel_rfl) rfl
        exact step_val (by simp [Region.wanted]) (by go_simp) rfl),
          (fun aF wF F => by
        have s29 : aF.tmps.getD 29 undef = (.bool false) := F.done 4 29 (by kernel_rfl) rfl
        exact step_val (by simp [Region.wanted]) (by go_simp) rfl),
          (fun aF wF F => by
        have s2 : aF.tmps.getD 2 undef = (.pointer (some ⟨w.heap.size, 0, none⟩)) := F.old 2 (by kernel_rfl)
        have sg : aF.tmps.getD 30 undef = (.bool false) := F.done 5 30 (by kernel_rfl) rfl
        exact step_val ((wanted_guard rfl rfl sg).trans rfl) (by go_simp) rfl),
          (fun aF wF F => by
        have s31 : aF.tmps.getD 31 undef = (.pointer (some ⟨w.heap.size, 2, none⟩)) := F.done 6 31 (by kernel_rfl) rfl
        have c0 := cell_at HS.out.box.b0 F.kept 2 _ rfl
        have sg : aF.tmps.getD 30 undef = (.bool false) := F.done 5 30 (by kernel_rfl) rfl
        exact step_val ((wanted_guard rfl rfl sg).trans rfl) (by go_simp) rfl),
          (fun aF wF F => by
        have s3 : aF.tmps.getD 3 undef = (.pointer (some ⟨w.heap.size + 1, 0, none⟩)) := F.old 3 (by kernel_rfl)
        have sg : aF.tmps.getD 30 undef = (.bool false) := F.done 5 30 (by kernel_rfl) rfl
        exact step_val ((wanted_guard rfl rfl sg).trans rfl) (by go_simp) rfl),
          (fun aF wF F => by
        have s33 : aF.tmps.getD 33 undef = (.pointer (some ⟨w.heap.size + 1, 2, none⟩)) := F.done 8 33 (by kernel_rfl) rfl
        have c0 := cell_at HS.out.box.b1 F.kept 2 _ rfl
        have sg : aF.tmps.getD 30 undef = (.bool false) := F.done 5 30 (by kernel_rfl) rfl
        exact step_val ((wanted_guard rfl rfl sg).trans rfl) (by go_simp) rfl),
          (fun aF wF F => by
        have s32 : aF.tmps.getD 32 undef = (.int .i64 y.e) := F.done 7 32 (by kernel_rfl) rfl
        have s34 : aF.tmps.getD 34 undef = (.int .i64 x.e) := F.done 9 34 (by kernel_rfl) rfl
        have sg : aF.tmps.getD 30 undef = (.bool false) := F.done 5 30 (by kernel_rfl) rfl
        exact step_val ((wanted_guard rfl rfl sg).trans rfl) (by go_simp) rfl),
          (fun aF wF F => by
        have s2 : aF.tmps.getD 2 undef = (.pointer (some ⟨w.heap.size, 0, none⟩)) := F.old 2 (by kernel_rfl)
        have sg : aF.tmps.getD 30 undef = (.bool false) := F.done 5 30 (by kernel_rfl) rfl
        exact step_val ((wanted_guard rfl rfl sg).trans rfl) (by go_simp) rfl),
          (fun aF wF F => by
        have s36 : aF.tmps.getD 36 undef = (.pointer (some ⟨w.heap.size, 1, none⟩)) := F.done 11 36 (by kernel_rfl) rfl
        have c0 := cell_at HS.out.box.b0 F.kept 1 _ rfl
        have sg : aF.tmps.getD 30 undef = (.bool false) := F.done 5 30 (by kernel_rfl) rfl
        exact step_val ((wanted_guard rfl rfl sg).trans rfl) (by go_simp) rfl),
          (fun aF wF F => by
        have s37 : aF.tmps.getD 37 undef = (.slice A2 l2 c2) := F.done 12 37 (by kernel_rfl) rfl
        have sg : aF.tmps.getD 30 undef = (.bool false) := F.done 5 30 (by kernel_rfl) rfl
        exact step_good ((wanted_guard rfl rfl sg).trans rfl) (by go_simp) (HS.out.size F.kept) (fun _ _ h => RetQ.good h) (fun _ _ h => h)),
          (fun aF wF F => by
        have s38 : aF.tmps.getD 38 undef = (.int .i64 (bl y.m)) := F.done 13 38 (by kernel_rfl) rfl
        have sg : aF.tmps.getD 30 undef = (.bool false) := F.done 5 30 (by kernel_rfl) rfl
        exact step_val ((wanted_guard rfl rfl sg).trans rfl) (by go_simp) rfl),
          (fun aF wF F => by
        have s35 : aF.tmps.getD 35 undef = (.int .i64 j) := F.done 10 35 (by kernel_rfl) rfl
        have s39 : aF.tmps.getD 39 undef = (.int .i64 (4097 - (bl y.m : Int))) := F.done 14 39 (by kernel_rfl) rfl
        have sg : aF.tmps.getD 30 undef = (.bool false) := F.done 5 30 (by kernel_rfl) rfl
        exact step_val ((wanted_guard rfl rfl sg).trans rfl) (by go_simp) rfl),
          (fun aF wF F => by
        have s30 : aF.tmps.getD 30 undef = (.bool false) := F.done 5 30 (by kernel_rfl) rfl
        have s40 : aF.tmps.getD 40 undef = (.bool bb) := F.done 15 40 (by kernel_rfl) rfl
        exact step_val (by simp [Region.wanted]) (by go_simp) rfl),
          (fun aF wF F => by
        have s41 : aF.tmps.getD 41 undef = (.bool bb) := F.done 16 41 (by kernel_rfl) rfl
        exact step_call (by simp [Region.wanted]) (by go_simp) (must_if bb 2 _) (fun e w2 h => h.imp (fun ⟨v, he, hk, hv⟩ => ⟨v, he, hk, hv⟩) (fun ⟨c, he, h0, hc, hw2⟩ => ⟨c, he, F.defers, by subst hc; exact HP.out w2 (hw2 ▸ F.kept) h0⟩))),
          trivial⟩) ?_
      intro u w1 k1 hu
      have e25 : u 0 = (.pointer (some ⟨w.heap.size, 2, none⟩)) := hu 0 (by decide)
      have e26 : u 1 = (.int .i64 y.e) := hu 1 (by decide)
      have e27 : u 2 = (.pointer (some ⟨w.heap.size + 1, 2, none⟩)) := hu 2 (by decide)
      have e28 : u 3 = (.int .i64 x.e) := hu 3 (by decide)
      have e29 : u 4 = (.bool false) := hu 4 (by decide)
      have e30 : u 5 = (.bool false) := hu 5 (by decide)
      have e31 : u 6 = (.pointer (some ⟨w.heap.size, 2, none⟩)) := hu 6 (by decide)
      have e32 : u 7 = (.int .i64 y.e) := hu 7 (by decide)
      have e33 : u 8 = (.pointer (some ⟨w.heap.size + 1, 2, none⟩)) := hu 8 (by decide)
      have e34 : u 9 = (.int .i64 x.e) := hu 9 (by decide)
      have e35 : u 10 = (.int .i64 j) := hu 10 (by decide)
      have e36 : u 11 = (.pointer (some ⟨w.heap.size, 1, none⟩)) := hu 11 (by decide)
      have e37 : u 12 = (.slice A2 l2 c2) := hu 12 (by decide)
      have e38 : u 13 = (.int .i64 (bl y.m)) := hu 13 (by decide)
      have e39 : u 14 = (.int .i64 (4097 - (bl y.m : Int))) := hu 14 (by decide)
      have e40 : u 15 = (.bool bb) := hu 15 (by decide)
      have e41 : u 16 = (.bool bb) := hu 16 (by decide)
      have p42 := hu 17 (by decide)
      clear hu
      simp only [puts, slotOf, if_true, Act.put, List.setIfInBounds_toArray, List.set_cons_zero, List.set_cons_succ, List.getElem?_toArray, List.getElem?_cons_zero, List.getElem?_cons_succ, Option.bind_some, e25, e26, e27, e28, e29, e30, e31, e32, e33, e34, e35, e36, e37, e38, e39, e40, e41]
      clear e25 e26 e27 e28 e29 e30 e31 e32 e33 e34 e35 e36 e37 e38 e39 e40 e41
      generalize u 17 = v42 at *
      try simp only [VL, List.getD_cons_zero, List.getD_cons_succ] at p42
      have hj0 : j ≤ 4097 := by
        have := p42.1
        rw [this] at hbb
        simp at hbb
        omega
      have hsc : sumC y x = if y.neg = x.neg then fitD y.neg (y.m * 2 ^ j + x.m) x.e else if x.m ≤ y.m * 2 ^ j then fitD y.neg (y.m * 2 ^ j - x.m) x.e else fitD x.neg (x.m - y.m * 2 ^ j) x.e := by
        unfold sumC
        rw [if_neg, HT.out]
        intro hc
        have h1 := p42.1
        have h2 := HJ.out
        rw [h1] at hbb
        simp at hbb
        omega
      have HSC := Lib.hid (HO.out.trans hsc)
      clear HJ
      have HJ := Lib.hid hj0
      clear he' u p42 hsc hj0 hbb HE HT HB AB HP hwt
      by_cases hn : y.neg = x.neg
      · have hso := HSC.out
        rw [if_pos hn] at hso
        subst hso
        have hnb : (y.neg == x.neg) = true := by simp [hn]
        clear hn
        obtain ⟨-, a0, a1, a2, -⟩ := (HS.out.box.b0.kept k1).facts
        obtain ⟨-, b0, b1, b2, -⟩ := (HS.out.box.b1.kept k1).facts
        have K1 := Lib.hid k1
        clear k1
        go_wp2_with (first
          | (go_at_call 92; refine (HS.out.left K1.out HJ.out).mono ?_; clear a0 a1 a2 b0 b1 b2; rintro e w2 ⟨X, rfl, hX, q2⟩; have LX := Lib.hid hX; have KX := Lib.hid (K1.out.trans q2); obtain ⟨-, a0, a1, a2, -⟩ := (HS.out.box.b0.kept KX.out).facts; obtain ⟨-, b0, b1, b2, -⟩ := (HS.out.box.b1.kept KX.out).facts; clear hX q2)
          | (go_at_call 97; refine (HS.out.order KX.out HJ.out LX.out).mono ?_; rintro e w2 ⟨rfl, q, rfl⟩; replace LX := Lib.hid (LX.out.drewN q); replace KX := Lib.hid (Kept.drewN KX.out q)))
        clear hnb a0 a1 a2 b0 b1 b2
        refine region_lin1 (m := 9) (V := VL [
            (fun v _ => v = (.pointer (some ⟨w.heap.size, 0, none⟩))),
            (fun v _ => v = (.bool y.neg)),
            (fun v _ => v = X),
            (fun v _ => v = (.pointer (some ⟨w.heap.size + 1, 1, none⟩))),
            (fun v _ => v = (.slice A l c)),
            (fun v wv => Lim wv v (limbs (y.m * 2 ^ j + x.m))),
            (fun v _ => v = (.pointer (some ⟨w.heap.size + 1, 2, none⟩))),
            (fun v _ => v = (.int .i64 x.e)),
            (fun v wv => ((fitD y.neg (y.m * 2 ^ j + x.m) x.e).raw).k = 0 ∧ DyR wv v ((fitD y.neg (y.m * 2 ^ j + x.m) x.e).raw).v)])
          (by kernel_rfl) rfl rfl rfl (by kernel_rfl) (by kernel_rfl) (by kernel_rfl) (by kernel_rfl) (mono_of _ ⟨mono_eq _, mono_eq _, mono_eq _, mono_eq _, mono_eq _, fun v w w' k h => by first | exact h | exact h.kept k | exact ⟨h.1, h.2.kept k⟩, mono_eq _, mono_eq _, fun v w w' k h => by first | exact h | exact h.kept k | exact ⟨h.1, h.2.kept k⟩, trivial⟩) (steps_of ⟨
            (fun aF wF F => by
          have s2 : aF.tmps.getD 2 undef = (.pointer (some ⟨w.heap.size, 0, none⟩)) := F.old 2 (by kernel_rfl)
          exact step_val (by simp [Region.wanted]) (by go_simp) rfl),
            (fun aF wF F => by
          have s57 : aF.tmps.getD 57 undef = (.pointer (some ⟨w.heap.size, 0, none⟩)) := F.done 0 57 (by kernel_rfl) rfl
          have c0 := cell_at (HS.out.box.b0.kept KX.out) F.kept 0 _ rfl
          exact step_val (by simp [Region.wanted]) (by go_simp) rfl),
            (fun aF wF F => by
          have s5 : aF.tmps.getD 5 undef = X := F.old 5 (by kernel_rfl)
          exact step_val (by simp [Region.wanted]) (by go_simp) rfl),
            (fun aF wF F => by
          have s3 : aF.tmps.getD 3 undef = (.pointer (some ⟨w.heap.size + 1, 0, none⟩)) := F.old 3 (by kernel_rfl)
          exact step_val (by simp [Region.wanted]) (by go_simp) rfl),
            (fun aF wF F => by
          have s60 : aF.tmps.getD 60 undef = (.pointer (some ⟨w.heap.size + 1, 1, none⟩)) := F.done 3 60 (by kernel_rfl) rfl
          have c0 := cell_at (HS.out.box.b1.kept KX.out) F.kept 1 _ rfl
          exact step_val (by simp [Region.wanted]) (by go_simp) rfl),
            (fun aF wF F => by
          have s59 : aF.tmps.getD 59 undef = X := F.done 2 59 (by kernel_rfl) rfl
          have s61 : aF.tmps.getD 61 undef = (.slice A l c) := F.done 4 61 (by kernel_rfl) rfl
          exact step_good (by simp [Region.wanted]) (by go_simp) (HS.out.plus (KX.out.trans F.kept) HJ.out (LX.out.kept F.kept)) (fun _ _ h => RetLim.good h) (fun _ _ h => h)),
            (fun aF wF F => by
          have s3 : aF.tmps.getD 3 undef = (.pointer (some ⟨w.heap.size + 1, 0, none⟩)) := F.old 3 (by kernel_rfl)
          exact step_val (by simp [Region.wanted]) (by go_simp) rfl),
            (fun aF wF F => by
          have s63 : aF.tmps.getD 63 undef = (.pointer (some ⟨w.heap.size + 1, 2, none⟩)) := F.done 6 63 (by kernel_rfl) rfl
          have c0 := cell_at (HS.out.box.b1.kept KX.out) F.kept 2 _ rfl
          exact step_val (by simp [Region.wanted]) (by go_simp) rfl),
            (fun aF wF F => by
          have s58 : aF.tmps.getD 58 undef = (.bool y.neg) := F.done 1 58 (by kernel_rfl) rfl
          have s62 : (fun v wv => Lim wv v (limbs (y.m * 2 ^ j + x.m))) (aF.tmps.getD 62 undef) wF := F.done 5 62 (by kernel_rfl) rfl
          have s64 : aF.tmps.getD 64 undef = (.int .i64 x.e) := F.done 7 64 (by kernel_rfl) rfl
          exact step_goes (by simp [Region.wanted]) (by go_simp) (HS.out.fits (KX.out.trans F.kept) (HS.out.blSum HJ.out) s62 y.neg) (fun _ _ _ h0 h => ⟨h0, h⟩) (fun w2 k2 h0 => ⟨F.defers, ⟨HS.out.kept.trans (KX.out.trans (F.kept.trans k2)), .inr ⟨h0, rfl⟩⟩⟩)),
            trivial⟩) ?_
        intro u w1 k1 hu
        have e57 : u 0 = (.pointer (some ⟨w.heap.size, 0, none⟩)) := hu 0 (by decide)
        have e58 : u 1 = (.bool y.neg) := hu 1 (by decide)
        have e59 : u 2 = X := hu 2 (by decide)
        have e60 : u 3 = (.pointer (some ⟨w.heap.size + 1, 1, none⟩)) := hu 3 (by decide)
        have e61 : u 4 = (.slice A l c) := hu 4 (by decide)
        have p62 := hu 5 (by decide)
        have e63 : u 6 = (.pointer (some ⟨w.heap.size + 1, 2, none⟩)) := hu 6 (by decide)
        have e64 : u 7 = (.int .i64 x.e) := hu 7 (by decide)
        have p65 := hu 8 (by decide)
        clear hu
        simp only [puts, slotOf, if_true, Act.put, List.setIfInBounds_toArray, List.set_cons_zero, List.set_cons_succ, List.getElem?_toArray, List.getElem?_cons_zero, List.getElem?_cons_succ, Option.bind_some, e57, e58, e59, e60, e61, e63, e64]
        clear e57 e58 e59 e60 e61 e63 e64
        generalize u 5 = v62 at *
        try simp only [VL, List.getD_cons_zero, List.getD_cons_succ] at p62
        generalize u 8 = v65 at *
        try simp only [VL, List.getD_cons_zero, List.getD_cons_succ] at p65
        obtain ⟨h0, hd⟩ := p65
        obtain ⟨A', l', c', rfl, hd, g1, g2⟩ := dyR_parts hd
        have hr := HS.out.close (Kept.trans KX.out k1) h0 hd g1 g2
        have hb := HS.out.box.b2.kept (Kept.trans KX.out k1)
        have HR := Lib.hid hr
        have HB := Lib.hid hb
        clear hr hd g1 g2 h0
        obtain ⟨_, c0, c1, c2, f0, f1, f2⟩ := hb.facts
        clear hb
        go_simp
        go_wp2_with fail
        exact ret_dy (HB.out.laid _ _ _) rfl rfl rfl HR.out
      · have hso := HSC.out
        rw [if_neg hn] at hso
        have hnb : (y.neg == x.neg) = false := by simp [hn]
        clear hn
        by_cases hle : x.m ≤ y.m * 2 ^ j
        · rw [if_pos hle] at hso
          subst hso
          have hcm : decide (0 ≤ cmpN (y.m * 2 ^ j) x.m) = true := by unfold cmpN; rw [if_neg (by omega)]; split <;> rfl
          have HL := Lib.hid hle
          clear hle
          obtain ⟨-, a0, a1, a2, -⟩ := (HS.out.box.b0.kept k1).facts
          obtain ⟨-, b0, b1, b2, -⟩ := (HS.out.box.b1.kept k1).facts
          have K1 := Lib.hid k1
          clear k1
          go_wp2_with (first
            | (go_at_call 92; refine (HS.out.left K1.out HJ.out).mono ?_; clear a0 a1 a2 b0 b1 b2; rintro e w2 ⟨X, rfl, hX, q2⟩; have LX := Lib.hid hX; have KX := Lib.hid (K1.out.trans q2); obtain ⟨-, a0, a1, a2, -⟩ := (HS.out.box.b0.kept KX.out).facts; obtain ⟨-, b0, b1, b2, -⟩ := (HS.out.box.b1.kept KX.out).facts; clear hX q2)
            | (go_at_call 97; refine (HS.out.order KX.out HJ.out LX.out).mono ?_; rintro e w2 ⟨rfl, q, rfl⟩; replace LX := Lib.hid (LX.out.drewN q); replace KX := Lib.hid (Kept.drewN KX.out q)))
          clear hnb hcm a0 a1 a2 b0 b1 b2
          refine region_lin1 (m := 9) (V := VL [
              (fun v _ => v = (.pointer (some ⟨w.heap.size, 0, none⟩))),
              (fun v _ => v = (.bool y.neg)),
              (fun v _ => v = X),
              (fun v _ => v = (.pointer (some ⟨w.heap.size + 1, 1, none⟩))),
              (fun v _ => v = (.slice A l c)),
              (fun v wv => Lim wv v (limbs (y.m * 2 ^ j - x.m))),
              (fun v _ => v = (.pointer (some ⟨w.heap.size + 1, 2, none⟩))),
              (fun v _ => v = (.int .i64 x.e)),
              (fun v wv => ((fitD y.neg (y.m * 2 ^ j - x.m) x.e).raw).k = 0 ∧ DyR wv v ((fitD y.neg (y.m * 2 ^ j - x.m) x.e).raw).v)])
            (by kernel_rfl) rfl rfl rfl (by kernel_rfl) (by kernel_rfl) (by kernel_rfl) (by kernel_rfl) (mono_of _ ⟨mono_eq _, mono_eq _, mono_eq _, mono_eq _, mono_eq _, fun v w w' k h => by first | exact h | exact h.kept k | exact ⟨h.1, h.2.kept k⟩, mono_eq _, mono_eq _, fun v w w' k h => by first | exact h | exact h.kept k | exact ⟨h.1, h.2.kept k⟩, trivial⟩) (steps_of ⟨
              (fun aF wF F => by
            have s2 : aF.tmps.getD 2 undef = (.pointer (some ⟨w.heap.size, 0, none⟩)) := F.old 2 (by kernel_rfl)
            exact step_val (by simp [Region.wanted]) (by go_simp) rfl),
              (fun aF wF F => by
            have s72 : aF.tmps.getD 72 undef = (.pointer (some ⟨w.heap.size, 0, none⟩)) := F.done 0 72 (by kernel_rfl) rfl
            have c0 := cell_at (HS.out.box.b0.kept KX.out) F.kept 0 _ rfl
            exact step_val (by simp [Region.wanted]) (by go_simp) rfl),
              (fun aF wF F => by
            have s5 : aF.tmps.getD 5 undef = X := F.old 5 (by kernel_rfl)
            exact step_val (by simp [Region.wanted]) (by go_simp) rfl),
              (fun aF wF F => by
            have s3 : aF.tmps.getD 3 undef = (.pointer (some ⟨w.heap.size + 1, 0, none⟩)) := F.old 3 (by kernel_rfl)
            exact step_val (by simp [Region.wanted]) (by go_simp) rfl),
              (fun aF wF F => by
            have s75 : aF.tmps.getD 75 undef = (.pointer (some ⟨w.heap.size + 1, 1, none⟩)) := F.done 3 75 (by kernel_rfl) rfl
            have c0 := cell_at (HS.out.box.b1.kept KX.out) F.kept 1 _ rfl
            exact step_val (by simp [Region.wanted]) (by go_simp) rfl),
              (fun aF wF F => by
            have s74 : aF.tmps.getD 74 undef = X := F.done 2 74 (by kernel_rfl) rfl
            have s76 : aF.tmps.getD 76 undef = (.slice A l c) := F.done 4 76 (by kernel_rfl) rfl
            exact step_good (by simp [Region.wanted]) (by go_simp) (HS.out.minus (KX.out.trans F.kept) HJ.out (LX.out.kept F.kept) HL.out) (fun _ _ h => RetLim.good h) (fun _ _ h => h)),
              (fun aF wF F => by
            have s3 : aF.tmps.getD 3 undef = (.pointer (some ⟨w.heap.size + 1, 0, none⟩)) := F.old 3 (by kernel_rfl)
            exact step_val (by simp [Region.wanted]) (by go_simp) rfl),
              (fun aF wF F => by
            have s78 : aF.tmps.getD 78 undef = (.pointer (some ⟨w.heap.size + 1, 2, none⟩)) := F.done 6 78 (by kernel_rfl) rfl
            have c0 := cell_at (HS.out.box.b1.kept KX.out) F.kept 2 _ rfl
            exact step_val (by simp [Region.wanted]) (by go_simp) rfl),
              (fun aF wF F => by
            have s73 : aF.tmps.getD 73 undef = (.bool y.neg) := F.done 1 73 (by kernel_rfl) rfl
            have s77 : (fun v wv => Lim wv v (limbs (y.m * 2 ^ j - x.m))) (aF.tmps.getD 77 undef) wF := F.done 5 77 (by kernel_rfl) rfl
            have s79 : aF.tmps.getD 79 undef = (.int .i64 x.e) := F.done 7 79 (by kernel_rfl) rfl
            exact step_goes (by simp [Region.wanted]) (by go_simp) (HS.out.fits (KX.out.trans F.kept) (Nat.le_trans (bl_mono (Nat.sub_le _ _)) (Nat.le_succ_of_le (HS.out.blX HJ.out))) s77 y.neg) (fun _ _ _ h0 h => ⟨h0, h⟩) (fun w2 k2 h0 => ⟨F.defers, ⟨HS.out.kept.trans (KX.out.trans (F.kept.trans k2)), .inr ⟨h0, rfl⟩⟩⟩)),
              trivial⟩) ?_
          intro u w1 k1 hu
          have e72 : u 0 = (.pointer (some ⟨w.heap.size, 0, none⟩)) := hu 0 (by decide)
          have e73 : u 1 = (.bool y.neg) := hu 1 (by decide)
          have e74 : u 2 = X := hu 2 (by decide)
          have e75 : u 3 = (.pointer (some ⟨w.heap.size + 1, 1, none⟩)) := hu 3 (by decide)
          have e76 : u 4 = (.slice A l c) := hu 4 (by decide)
          have p77 := hu 5 (by decide)
          have e78 : u 6 = (.pointer (some ⟨w.heap.size + 1, 2, none⟩)) := hu 6 (by decide)
          have e79 : u 7 = (.int .i64 x.e) := hu 7 (by decide)
          have p80 := hu 8 (by decide)
          clear hu
          simp only [puts, slotOf, if_true, Act.put, List.setIfInBounds_toArray, List.set_cons_zero, List.set_cons_succ, List.getElem?_toArray, List.getElem?_cons_zero, List.getElem?_cons_succ, Option.bind_some, e72, e73, e74, e75, e76, e78, e79]
          clear e72 e73 e74 e75 e76 e78 e79
          generalize u 5 = v77 at *
          try simp only [VL, List.getD_cons_zero, List.getD_cons_succ] at p77
          generalize u 8 = v80 at *
          try simp only [VL, List.getD_cons_zero, List.getD_cons_succ] at p80
          obtain ⟨h0, hd⟩ := p80
          obtain ⟨A', l', c', rfl, hd, g1, g2⟩ := dyR_parts hd
          have hr := HS.out.close (Kept.trans KX.out k1) h0 hd g1 g2
          have hb := HS.out.box.b2.kept (Kept.trans KX.out k1)
          have HR := Lib.hid hr
          have HB := Lib.hid hb
          clear hr hd g1 g2 h0
          obtain ⟨_, c0, c1, c2, f0, f1, f2⟩ := hb.facts
          clear hb
          go_simp
          go_wp2_with fail
          exact ret_dy (HB.out.laid _ _ _) rfl rfl rfl HR.out
        · rw [if_neg hle] at hso
          subst hso
          have hcm : decide (0 ≤ cmpN (y.m * 2 ^ j) x.m) = false := by unfold cmpN; rw [if_pos (by omega)]; rfl
          have HL := Lib.hid (show y.m * 2 ^ j ≤ x.m by omega)
          clear hle
          obtain ⟨-, a0, a1, a2, -⟩ := (HS.out.box.b0.kept k1).facts
          obtain ⟨-, b0, b1, b2, -⟩ := (HS.out.box.b1.kept k1).facts
          have K1 := Lib.hid k1
          clear k1
          go_wp2_with (first
            | (go_at_call 92; refine (HS.out.left K1.out HJ.out).mono ?_; clear a0 a1 a2 b0 b1 b2; rintro e w2 ⟨X, rfl, hX, q2⟩; have LX := Lib.hid hX; have KX := Lib.hid (K1.out.trans q2); obtain ⟨-, a0, a1, a2, -⟩ := (HS.out.box.b0.kept KX.out).facts; obtain ⟨-, b0, b1, b2, -⟩ := (HS.out.box.b1.kept KX.out).facts; clear hX q2)
            | (go_at_call 97; refine (HS.out.order KX.out HJ.out LX.out).mono ?_; rintro e w2 ⟨rfl, q, rfl⟩; replace LX := Lib.hid (LX.out.drewN q); replace KX := Lib.hid (Kept.drewN KX.out q)))
          clear hnb hcm a0 a1 a2 b0 b1 b2
          refine region_lin1 (m := 9) (V := VL [
              (fun v _ => v = (.pointer (some ⟨w.heap.size + 1, 0, none⟩))),
              (fun v _ => v = (.bool x.neg)),
              (fun v _ => v = (.pointer (some ⟨w.heap.size + 1, 1, none⟩))),
              (fun v _ => v = (.slice A l c)),
              (fun v _ => v = X),
              (fun v wv => Lim wv v (limbs (x.m - y.m * 2 ^ j))),
              (fun v _ => v = (.pointer (some ⟨w.heap.size + 1, 2, none⟩))),
              (fun v _ => v = (.int .i64 x.e)),
              (fun v wv => ((fitD x.neg (x.m - y.m * 2 ^ j) x.e).raw).k = 0 ∧ DyR wv v ((fitD x.neg (x.m - y.m * 2 ^ j) x.e).raw).v)])
            (by kernel_rfl) rfl rfl rfl (by kernel_rfl) (by kernel_rfl) (by kernel_rfl) (by kernel_rfl) (mono_of _ ⟨mono_eq _, mono_eq _, mono_eq _, mono_eq _, mono_eq _, fun v w w' k h => by first | exact h | exact h.kept k | exact ⟨h.1, h.2.kept k⟩, mono_eq _, mono_eq _, fun v w w' k h => by first | exact h | exact h.kept k | exact ⟨h.1, h.2.kept k⟩, trivial⟩) (steps_of ⟨
              (fun aF wF F => by
            have s3 : aF.tmps.getD 3 undef = (.pointer (some ⟨w.heap.size + 1, 0, none⟩)) := F.old 3 (by kernel_rfl)
            exact step_val (by simp [Region.wanted]) (by go_simp) rfl),
              (fun aF wF F => by
            have s81 : aF.tmps.getD 81 undef = (.pointer (some ⟨w.heap.size + 1, 0, none⟩)) := F.done 0 81 (by kernel_rfl) rfl
            have c0 := cell_at (HS.out.box.b1.kept KX.out) F.kept 0 _ rfl
            exact step_val (by simp [Region.wanted]) (by go_simp) rfl),
              (fun aF wF F => by
            have s3 : aF.tmps.getD 3 undef = (.pointer (some ⟨w.heap.size + 1, 0, none⟩)) := F.old 3 (by kernel_rfl)
            exact step_val (by simp [Region.wanted]) (by go_simp) rfl),
              (fun aF wF F => by
            have s83 : aF.tmps.getD 83 undef = (.pointer (some ⟨w.heap.size + 1, 1, none⟩)) := F.done 2 83 (by kernel_rfl) rfl
            have c0 := cell_at (HS.out.box.b1.kept KX.out) F.kept 1 _ rfl
            exact step_val (by simp [Region.wanted]) (by go_simp) rfl),
              (fun aF wF F => by
            have s5 : aF.tmps.getD 5 undef = X := F.old 5 (by kernel_rfl)
            exact step_val (by simp [Region.wanted]) (by go_simp) rfl),
              (fun aF wF F => by
            have s84 : aF.tmps.getD 84 undef = (.slice A l c) := F.done 3 84 (by kernel_rfl) rfl
            have s85 : aF.tmps.getD 85 undef = X := F.done 4 85 (by kernel_rfl) rfl
            exact step_good (by simp [Region.wanted]) (by go_simp) (HS.out.minus' (KX.out.trans F.kept) (LX.out.kept F.kept) HL.out) (fun _ _ h => RetLim.good h) (fun _ _ h => h)),
              (fun aF wF F => by
            have s3 : aF.tmps.getD 3 undef = (.pointer (some ⟨w.heap.size + 1, 0, none⟩)) := F.old 3 (by kernel_rfl)
            exact step_val (by simp [Region.wanted]) (by go_simp) rfl),
              (fun aF wF F => by
            have s87 : aF.tmps.getD 87 undef = (.pointer (some ⟨w.heap.size + 1, 2, none⟩)) := F.done 6 87 (by kernel_rfl) rfl
            have c0 := cell_at (HS.out.box.b1.kept KX.out) F.kept 2 _ rfl
            exact step_val (by simp [Region.wanted]) (by go_simp) rfl),
              (fun aF wF F => by
            have s82 : aF.tmps.getD 82 undef = (.bool x.neg) := F.done 1 82 (by kernel_rfl) rfl
            have s86 : (fun v wv => Lim wv v (limbs (x.m - y.m * 2 ^ j))) (aF.tmps.getD 86 undef) wF := F.done 5 86 (by kernel_rfl) rfl
            have s88 : aF.tmps.getD 88 undef = (.int .i64 x.e) := F.done 7 88 (by kernel_rfl) rfl
            exact step_goes (by simp [Region.wanted]) (by go_simp) (HS.out.fits (KX.out.trans F.kept) (Nat.le_trans (bl_of_len x.m 64 HS.out.okb.len |> fun h => Nat.le_trans (bl_mono (Nat.sub_le _ _)) h) (by decide)) s86 x.neg) (fun _ _ _ h0 h => ⟨h0, h⟩) (fun w2 k2 h0 => ⟨F.defers, ⟨HS.out.kept.trans (KX.out.trans (F.kept.trans k2)), .inr ⟨h0, rfl⟩⟩⟩)),
              trivial⟩) ?_
          intro u w1 k1 hu
          have e81 : u 0 = (.pointer (some ⟨w.heap.size + 1, 0, none⟩)) := hu 0 (by decide)
          have e82 : u 1 = (.bool x.neg) := hu 1 (by decide)
          have e83 : u 2 = (.pointer (some ⟨w.heap.size + 1, 1, none⟩)) := hu 2 (by decide)
          have e84 : u 3 = (.slice A l c) := hu 3 (by decide)
          have e85 : u 4 = X := hu 4 (by decide)
          have p86 := hu 5 (by decide)
          have e87 : u 6 = (.pointer (some ⟨w.heap.size + 1, 2, none⟩)) := hu 6 (by decide)
          have e88 : u 7 = (.int .i64 x.e) := hu 7 (by decide)
          have p89 := hu 8 (by decide)
          clear hu
          simp only [puts, slotOf, if_true, Act.put, List.setIfInBounds_toArray, List.set_cons_zero, List.set_cons_succ, List.getElem?_toArray, List.getElem?_cons_zero, List.getElem?_cons_succ, Option.bind_some, e81, e82, e83, e84, e85, e87, e88]
          clear e81 e82 e83 e84 e85 e87 e88
          generalize u 5 = v86 at *
          try simp only [VL, List.getD_cons_zero, List.getD_cons_succ] at p86
          generalize u 8 = v89 at *
          try simp only [VL, List.getD_cons_zero, List.getD_cons_succ] at p89
          obtain ⟨h0, hd⟩ := p89
          obtain ⟨A', l', c', rfl, hd, g1, g2⟩ := dyR_parts hd
          have hr := HS.out.close (Kept.trans KX.out k1) h0 hd g1 g2
          have hb := HS.out.box.b2.kept (Kept.trans KX.out k1)
          have HR := Lib.hid hr
          have HB := Lib.hid hb
          clear hr hd g1 g2 h0
          obtain ⟨_, c0, c1, c2, f0, f1, f2⟩ := hb.facts
          clear hb
          go_simp
          go_wp2_with fail
          exact ret_dy (HB.out.laid _ _ _) rfl rfl rfl HR.out
  · rw [if_neg hlt]
    obtain ⟨o, ho⟩ : ∃ o, o = sumC x y := ⟨_, rfl⟩
    rw [← ho]
    have HO := Lib.hid ho
    clear ho
    have hd : decide (x.e < y.e) = false := by simp; omega
    obtain ⟨W, hW, kW, B0, B1, B2⟩ := boxes3 w (.bool x.neg) (.slice A l c) (.int .i64 x.e) (.bool y.neg) (.slice A2 l2 c2) (.int .i64 y.e)
    have hs : SumIn w W w.heap.size A A2 l c l2 c2 x y := ⟨⟨B0, B1, B2⟩, LA.out.kept kW, LB.out.kept kW, kW, Nat.le_refl _, HT.out, HX.out, HY.out, HX0.out, by omega⟩
    have HS := Lib.hid hs
    have HW := Lib.hid hW
    clear hs hW kW B0 B1 B2 hlt
    go_enter Tryd.func69, Tryd.ntmps69
    go_wp2_with fail
    rw [← HW.out]
    clear HW LA LB HT HX HY HX0 HY0 l0 l02 hd x1 x2 y1 y2
    obtain ⟨j, hj⟩ : ∃ j : Nat, x.e - y.e = j := ⟨(x.e - y.e).toNat, by have := HS.out.ge; omega⟩
    have hjt : (x.e - y.e).toNat = j := by omega
    have a1 := HS.out.oka.lo
    have a2 := HS.out.oka.hi
    have b1 := HS.out.okb.lo
    have b2 := HS.out.okb.hi
    have hbl := bl_of_len x.m 64 HS.out.oka.len
    have hws : IntKind.i64.wrap (x.e - y.e) = (j : Int) := by rw [hj]; simp [IntKind.wrap_i64]; omega
    have hwt : IntKind.i64.wrap (4097 - (bl x.m : Int)) = 4097 - (bl x.m : Int) := by simp [IntKind.wrap_i64]; omega
    by_cases he : x.e = y.e
    · have hj0 : j ≤ 4097 := by omega
      have hsc : sumC x y = if x.neg = y.neg then fitD x.neg (x.m * 2 ^ j + y.m) y.e else if y.m ≤ x.m * 2 ^ j then fitD x.neg (x.m * 2 ^ j - y.m) y.e else fitD y.neg (y.m - x.m * 2 ^ j) y.e := by
        unfold sumC; rw [if_neg (fun h => h.1 he), hjt]
      have he' : (x.e == y.e) = true := by rw [beq_iff_eq]; exact he
      have HSC := Lib.hid (HO.out.trans hsc)
      have HJ := Lib.hid hj0
      clear hj hjt a1 a2 b1 b2 hbl he hj0 hsc hwt
      refine region_lin (m := 18) (V := VL [
          (fun v _ => v = (.pointer (some ⟨w.heap.size, 2, none⟩))),
          (fun v _ => v = (.int .i64 x.e)),
          (fun v _ => v = (.pointer (some ⟨w.heap.size + 1, 2, none⟩))),
          (fun v _ => v = (.int .i64 y.e)),
          (fun v _ => v = (.bool true)),
          (fun v _ => v = (.bool true)),
          (fun v _ => v = undef),
          (fun v _ => v = undef),
          (fun v _ => v = undef),
          (fun v _ => v = undef),
          (fun v _ => v = undef),
          (fun v _ => v = undef),
          (fun v _ => v = undef),
          (fun v _ => v = undef),
          (fun v _ => v = undef),
          (fun v _ => v = undef),
          (fun v _ => v = (.bool true)),
          (fun v _ => v = (.tuple #[]))])
        (by kernel_rfl) rfl (by kernel_rfl) (by kernel_rfl) (by kernel_rfl) (mono_of _ ⟨mono_eq _, mono_eq _, mono_eq _, mono_eq _, mono_eq _, mono_eq _, mono_eq _, mono_eq _, mono_eq _, mono_eq _, mono_eq _, mono_eq _, mono_eq _, mono_eq _, mono_eq _, mono_eq _, mono_eq _, mono_eq _, trivial⟩) (steps_of ⟨
          (fun aF wF F => by
        have s2 : aF.tmps.getD 2 undef = (.pointer (some ⟨w.heap.size, 0, none⟩)) := F.old 2 (by kernel_rfl)
        exact step_val (by simp [Region.wanted]) (by go_simp) rfl),
          (fun aF wF F => by
        have s25 : aF.tmps.getD 25 undef = (.pointer (some ⟨w.heap.size, 2, none⟩)) := F.done 0 25 (by kernel_rfl) rfl
        have c0 := cell_at HS.out.box.b0 F.kept 2 _ rfl
        exact step_val (by simp [Region.wanted]) (by go_simp) rfl),
          (fun aF wF F => by
        have s3 : aF.tmps.getD 3 undef = (.pointer (some ⟨w.heap.size + 1, 0, none⟩)) := F.old 3 (by kernel_rfl)
        exact step_val (by simp [Region.wanted]) (by go_simp) rfl),
          (fun aF wF F => by
        have s27 : aF.tmps.getD 27 undef = (.pointer (some ⟨w.heap.size + 1, 2, none⟩)) := F.done 2 27 (by kernel_rfl) rfl
        have c0 := cell_at HS.out.box.b1 F.kept 2 _ rfl
        exact step_val (by simp [Region.wanted]) (by go_simp) rfl),
          (fun aF wF F => by
        have s26 : aF.tmps.getD 26 undef = (.int .i64 x.e) := F.done 1 26 (by kernel_rfl) rfl
        have s28 : aF.tmps.getD 28 undef = (.int .i64 y.e) := F.done 3 28 (by kernel_rfl) rfl
        exact step_val (by simp [Region.wanted]) (by go_simp) rfl),
          (fun aF wF F => by
        have s29 : aF.tmps.getD 29 undef = (.bool true) := F.done 4 29 (by kernel_rfl) rfl
        exact step_val (by simp [Region.wanted]) (by go_simp) rfl),
          (fun aF wF F => by
        have sg : aF.tmps.getD 30 undef = (.bool true) := F.done 5 30 (by kernel_rfl) rfl
        exact step_out ((wanted_guard rfl rfl sg).trans rfl) rfl),
          (fun aF wF F => by
        have sg : aF.tmps.getD 30 undef = (.bool true) := F.done 5 30 (by kernel_rfl) rfl
        exact step_out ((wanted_guard rfl rfl sg).trans rfl) rfl),
          (fun aF wF F => by
        have sg : aF.tmps.getD 30 undef = (.bool true) := F.done 5 30 (by kernel_rfl) rfl
        exact step_out ((wanted_guard rfl rfl sg).trans rfl) rfl),
          (fun aF wF F => by
        have sg : aF.tmps.getD 30 undef = (.bool true) := F.done 5 30 (by kernel_rfl) rfl
        exact step_out ((wanted_guard rfl rfl sg).trans rfl) rfl),
          (fun aF wF F => by
        have sg : aF.tmps.getD 30 undef = (.bool true) := F.done 5 30 (by kernel_rfl) rfl
        exact step_out ((wanted_guard rfl rfl sg).trans rfl) rfl),
          (fun aF wF F => by
        have sg : aF.tmps.getD 30 undef = (.bool true) := F.done 5 30 (by kernel_rfl) rfl
        exact step_out ((wanted_guard rfl rfl sg).trans rfl) rfl),
          (fun aF wF F => by
        have sg : aF.tmps.getD 30 undef = (.bool true) := F.done 5 30 (by kernel_rfl) rfl
        exact step_out ((wanted_guard rfl rfl sg).trans rfl) rfl),
          (fun aF wF F => by
        have sg : aF.tmps.getD 30 undef = (.bool true) := F.done 5 30 (by kernel_rfl) rfl
        exact step_out ((wanted_guard rfl rfl sg).trans rfl) rfl),
          (fun aF wF F => by
        have sg : aF.tmps.getD 30 undef = (.bool true) := F.done 5 30 (by kernel_rfl) rfl
        exact step_out ((wanted_guard rfl rfl sg).trans rfl) rfl),
          (fun aF wF F => by
        have sg : aF.tmps.getD 30 undef = (.bool true) := F.done 5 30 (by kernel_rfl) rfl
        exact step_out ((wanted_guard rfl rfl sg).trans rfl) rfl),
          (fun aF wF F => by
        have s30 : aF.tmps.getD 30 undef = (.bool true) := F.done 5 30 (by kernel_rfl) rfl
        have s40 : aF.tmps.getD 40 undef = undef := F.done 15 40 (by kernel_rfl) rfl
        exact step_val (by simp [Region.wanted]) (by go_simp) rfl),
          (fun aF wF F => by
        have s41 : aF.tmps.getD 41 undef = (.bool true) := F.done 16 41 (by kernel_rfl) rfl
        exact step_good (by simp [Region.wanted]) (by go_simp) (must_true 2 _) (fun _ _ h => RetK.good h) (fun _ _ h => h)),
          trivial⟩) ?_
      intro u w1 k1 hu
      have e25 : u 0 = (.pointer (some ⟨w.heap.size, 2, none⟩)) := hu 0 (by decide)
      have e26 : u 1 = (.int .i64 x.e) := hu 1 (by decide)
      have e27 : u 2 = (.pointer (some ⟨w.heap.size + 1, 2, none⟩)) := hu 2 (by decide)
      have e28 : u 3 = (.int .i64 y.e) := hu 3 (by decide)
      have e29 : u 4 = (.bool true) := hu 4 (by decide)
      have e30 : u 5 = (.bool true) := hu 5 (by decide)
      have e31 : u 6 = undef := hu 6 (by decide)
      have e32 : u 7 = undef := hu 7 (by decide)
      have e33 : u 8 = undef := hu 8 (by decide)
      have e34 : u 9 = undef := hu 9 (by decide)
      have e35 : u 10 = undef := hu 10 (by decide)
      have e36 : u 11 = undef := hu 11 (by decide)
      have e37 : u 12 = undef := hu 12 (by decide)
      have e38 : u 13 = undef := hu 13 (by decide)
      have e39 : u 14 = undef := hu 14 (by decide)
      have e40 : u 15 = undef := hu 15 (by decide)
      have e41 : u 16 = (.bool true) := hu 16 (by decide)
      have e42 : u 17 = (.tuple #[]) := hu 17 (by decide)
      clear hu
      simp only [puts, slotOf, if_true, Act.put, List.setIfInBounds_toArray, List.set_cons_zero, List.set_cons_succ, List.getElem?_toArray, List.getElem?_cons_zero, List.getElem?_cons_succ, Option.bind_some, e25, e26, e27, e28, e29, e30, e31, e32, e33, e34, e35, e36, e37, e38, e39, e40, e41, e42]
      clear e25 e26 e27 e28 e29 e30 e31 e32 e33 e34 e35 e36 e37 e38 e39 e40 e41 e42
      clear he' u
      by_cases hn : x.neg = y.neg
      · have hso := HSC.out
        rw [if_pos hn] at hso
        subst hso
        have hnb : (x.neg == y.neg) = true := by simp [hn]
        clear hn
        obtain ⟨-, a0, a1, a2, -⟩ := (HS.out.box.b0.kept k1).facts
        obtain ⟨-, b0, b1, b2, -⟩ := (HS.out.box.b1.kept k1).facts
        have K1 := Lib.hid k1
        clear k1
        go_wp2_with (first
          | (go_at_call 92; refine (HS.out.left K1.out HJ.out).mono ?_; clear a0 a1 a2 b0 b1 b2; rintro e w2 ⟨X, rfl, hX, q2⟩; have LX := Lib.hid hX; have KX := Lib.hid (K1.out.trans q2); obtain ⟨-, a0, a1, a2, -⟩ := (HS.out.box.b0.kept KX.out).facts; obtain ⟨-, b0, b1, b2, -⟩ := (HS.out.box.b1.kept KX.out).facts; clear hX q2)
          | (go_at_call 97; refine (HS.out.order KX.out HJ.out LX.out).mono ?_; rintro e w2 ⟨rfl, q, rfl⟩; replace LX := Lib.hid (LX.out.drewN q); replace KX := Lib.hid (Kept.drewN KX.out q)))
        clear hnb a0 a1 a2 b0 b1 b2
        refine region_lin1 (m := 9) (V := VL [
            (fun v _ => v = (.pointer (some ⟨w.heap.size, 0, none⟩))),
            (fun v _ => v = (.bool x.neg)),
            (fun v _ => v = X),
            (fun v _ => v = (.pointer (some ⟨w.heap.size + 1, 1, none⟩))),
            (fun v _ => v = (.slice A2 l2 c2)),
            (fun v wv => Lim wv v (limbs (x.m * 2 ^ j + y.m))),
            (fun v _ => v = (.pointer (some ⟨w.heap.size + 1, 2, none⟩))),
            (fun v _ => v = (.int .i64 y.e)),
            (fun v wv => ((fitD x.neg (x.m * 2 ^ j + y.m) y.e).raw).k = 0 ∧ DyR wv v ((fitD x.neg (x.m * 2 ^ j + y.m) y.e).raw).v)])
          (by kernel_rfl) rfl rfl rfl (by kernel_rfl) (by kernel_rfl) (by kernel_rfl) (by kernel_rfl) (mono_of _ ⟨mono_eq _, mono_eq _, mono_eq _, mono_eq _, mono_eq _, fun v w w' k h => by first | exact h | exact h.kept k | exact ⟨h.1, h.2.kept k⟩, mono_eq _, mono_eq _, fun v w w' k h => by first | exact h | exact h.kept k | exact ⟨h.1, h.2.kept k⟩, trivial⟩) (steps_of ⟨
            (fun aF wF F => by
          have s2 : aF.tmps.getD 2 undef = (.pointer (some ⟨w.heap.size, 0, none⟩)) := F.old 2 (by kernel_rfl)
          exact step_val (by simp [Region.wanted]) (by go_simp) rfl),
            (fun aF wF F => by
          have s57 : aF.tmps.getD 57 undef = (.pointer (some ⟨w.heap.size, 0, none⟩)) := F.done 0 57 (by kernel_rfl) rfl
          have c0 := cell_at (HS.out.box.b0.kept KX.out) F.kept 0 _ rfl
          exact step_val (by simp [Region.wanted]) (by go_simp) rfl),
            (fun aF wF F => by
          have s5 : aF.tmps.getD 5 undef = X := F.old 5 (by kernel_rfl)
          exact step_val (by simp [Region.wanted]) (by go_simp) rfl),
            (fun aF wF F => by
          have s3 : aF.tmps.getD 3 undef = (.pointer (some ⟨w.heap.size + 1, 0, none⟩)) := F.old 3 (by kernel_rfl)
          exact step_val (by simp [Region.wanted]) (by go_simp) rfl),
            (fun aF wF F => by
          have s60 : aF.tmps.getD 60 undef = (.pointer (some ⟨w.heap.size + 1, 1, none⟩)) := F.done 3 60 (by kernel_rfl) rfl
          have c0 := cell_at (HS.out.box.b1.kept KX.out) F.kept 1 _ rfl
          exact step_val (by simp [Region.wanted]) (by go_simp) rfl),
            (fun aF wF F => by
          have s59 : aF.tmps.getD 59 undef = X := F.done 2 59 (by kernel_rfl) rfl
          have s61 : aF.tmps.getD 61 undef = (.slice A2 l2 c2) := F.done 4 61 (by kernel_rfl) rfl
          exact step_good (by simp [Region.wanted]) (by go_simp) (HS.out.plus (KX.out.trans F.kept) HJ.out (LX.out.kept F.kept)) (fun _ _ h => RetLim.good h) (fun _ _ h => h)),
            (fun aF wF F => by
          have s3 : aF.tmps.getD 3 undef = (.pointer (some ⟨w.heap.size + 1, 0, none⟩)) := F.old 3 (by kernel_rfl)
          exact step_val (by simp [Region.wanted]) (by go_simp) rfl),
            (fun aF wF F => by
          have s63 : aF.tmps.getD 63 undef = (.pointer (some ⟨w.heap.size + 1, 2, none⟩)) := F.done 6 63 (by kernel_rfl) rfl
          have c0 := cell_at (HS.out.box.b1.kept KX.out) F.kept 2 _ rfl
          exact step_val (by simp [Region.wanted]) (by go_simp) rfl),
            (fun aF wF F => by
          have s58 : aF.tmps.getD 58 undef = (.bool x.neg) := F.done 1 58 (by kernel_rfl) rfl
          have s62 : (fun v wv => Lim wv v (limbs (x.m * 2 ^ j + y.m))) (aF.tmps.getD 62 undef) wF := F.done 5 62 (by kernel_rfl) rfl
          have s64 : aF.tmps.getD 64 undef = (.int .i64 y.e) := F.done 7 64 (by kernel_rfl) rfl
          exact step_goes (by simp [Region.wanted]) (by go_simp) (HS.out.fits (KX.out.trans F.kept) (HS.out.blSum HJ.out) s62 x.neg) (fun _ _ _ h0 h => ⟨h0, h⟩) (fun w2 k2 h0 => ⟨F.defers, ⟨HS.out.kept.trans (KX.out.trans (F.kept.trans k2)), .inr ⟨h0, rfl⟩⟩⟩)),
            trivial⟩) ?_
        intro u w1 k1 hu
        have e57 : u 0 = (.pointer (some ⟨w.heap.size, 0, none⟩)) := hu 0 (by decide)
        have e58 : u 1 = (.bool x.neg) := hu 1 (by decide)
        have e59 : u 2 = X := hu 2 (by decide)
        have e60 : u 3 = (.pointer (some ⟨w.heap.size + 1, 1, none⟩)) := hu 3 (by decide)
        have e61 : u 4 = (.slice A2 l2 c2) := hu 4 (by decide)
        have p62 := hu 5 (by decide)
        have e63 : u 6 = (.pointer (some ⟨w.heap.size + 1, 2, none⟩)) := hu 6 (by decide)
        have e64 : u 7 = (.int .i64 y.e) := hu 7 (by decide)
        have p65 := hu 8 (by decide)
        clear hu
        simp only [puts, slotOf, if_true, Act.put, List.setIfInBounds_toArray, List.set_cons_zero, List.set_cons_succ, List.getElem?_toArray, List.getElem?_cons_zero, List.getElem?_cons_succ, Option.bind_some, e57, e58, e59, e60, e61, e63, e64]
        clear e57 e58 e59 e60 e61 e63 e64
        generalize u 5 = v62 at *
        try simp only [VL, List.getD_cons_zero, List.getD_cons_succ] at p62
        generalize u 8 = v65 at *
        try simp only [VL, List.getD_cons_zero, List.getD_cons_succ] at p65
        obtain ⟨h0, hd⟩ := p65
        obtain ⟨A', l', c', rfl, hd, g1, g2⟩ := dyR_parts hd
        have hr := HS.out.close (Kept.trans KX.out k1) h0 hd g1 g2
        have hb := HS.out.box.b2.kept (Kept.trans KX.out k1)
        have HR := Lib.hid hr
        have HB := Lib.hid hb
        clear hr hd g1 g2 h0
        obtain ⟨_, c0, c1, c2, f0, f1, f2⟩ := hb.facts
        clear hb
        go_simp
        go_wp2_with fail
        exact ret_dy (HB.out.laid _ _ _) rfl rfl rfl HR.out
      · have hso := HSC.out
        rw [if_neg hn] at hso
        have hnb : (x.neg == y.neg) = false := by simp [hn]
        clear hn
        by_cases hle : y.m ≤ x.m * 2 ^ j
        · rw [if_pos hle] at hso
          subst hso
          have hcm : decide (0 ≤ cmpN (x.m * 2 ^ j) y.m) = true := by unfold cmpN; rw [if_neg (by omega)]; split <;> rfl
          have HL := Lib.hid hle
          clear hle
          obtain ⟨-, a0, a1, a2, -⟩ := (HS.out.box.b0.kept k1).facts
          obtain ⟨-, b0, b1, b2, -⟩ := (HS.out.box.b1.kept k1).facts
          have K1 := Lib.hid k1
          clear k1
          go_wp2_with (first
            | (go_at_call 92; refine (HS.out.left K1.out HJ.out).mono ?_; clear a0 a1 a2 b0 b1 b2; rintro e w2 ⟨X, rfl, hX, q2⟩; have LX := Lib.hid hX; have KX := Lib.hid (K1.out.trans q2); obtain ⟨-, a0, a1, a2, -⟩ := (HS.out.box.b0.kept KX.out).facts; obtain ⟨-, b0, b1, b2, -⟩ := (HS.out.box.b1.kept KX.out).facts; clear hX q2)
            | (go_at_call 97; refine (HS.out.order KX.out HJ.out LX.out).mono ?_; rintro e w2 ⟨rfl, q, rfl⟩; replace LX := Lib.hid (LX.out.drewN q); replace KX := Lib.hid (Kept.drewN KX.out q)))
          clear hnb hcm a0 a1 a2 b0 b1 b2
          refine region_lin1 (m := 9) (V := VL [
              (fun v _ => v = (.pointer (some ⟨w.heap.size, 0, none⟩))),
              (fun v _ => v = (.bool x.neg)),
              (fun v _ => v = X),
              (fun v _ => v = (.pointer (some ⟨w.heap.size + 1, 1, none⟩))),
              (fun v _ => v = (.slice A2 l2 c2)),
              (fun v wv => Lim wv v (limbs (x.m * 2 ^ j - y.m))),
              (fun v _ => v = (.pointer (some ⟨w.heap.size + 1, 2, none⟩))),
              (fun v _ => v = (.int .i64 y.e)),
              (fun v wv => ((fitD x.neg (x.m * 2 ^ j - y.m) y.e).raw).k = 0 ∧ DyR wv v ((fitD x.neg (x.m * 2 ^ j - y.m) y.e).raw).v)])
            (by kernel_rfl) rfl rfl rfl (by kernel_rfl) (by kernel_rfl) (by kernel_rfl) (by kernel_rfl) (mono_of _ ⟨mono_eq _, mono_eq _, mono_eq _, mono_eq _, mono_eq _, fun v w w' k h => by first | exact h | exact h.kept k | exact ⟨h.1, h.2.kept k⟩, mono_eq _, mono_eq _, fun v w w' k h => by first | exact h | exact h.kept k | exact ⟨h.1, h.2.kept k⟩, trivial⟩) (steps_of ⟨
              (fun aF wF F => by
            have s2 : aF.tmps.getD 2 undef = (.pointer (some ⟨w.heap.size, 0, none⟩)) := F.old 2 (by kernel_rfl)
            exact step_val (by simp [Region.wanted]) (by go_simp) rfl),
              (fun aF wF F => by
            have s72 : aF.tmps.getD 72 undef = (.pointer (some ⟨w.heap.size, 0, none⟩)) := F.done 0 72 (by kernel_rfl) rfl
            have c0 := cell_at (HS.out.box.b0.kept KX.out) F.kept 0 _ rfl
            exact step_val (by simp [Region.wanted]) (by go_simp) rfl),
              (fun aF wF F => by
            have s5 : aF.tmps.getD 5 undef = X := F.old 5 (by kernel_rfl)
            exact step_val (by simp [Region.wanted]) (by go_simp) rfl),
              (fun aF wF F => by
            have s3 : aF.tmps.getD 3 undef = (.pointer (some ⟨w.heap.size + 1, 0, none⟩)) := F.old 3 (by kernel_rfl)
            exact step_val (by simp [Region.wanted]) (by go_simp) rfl),
              (fun aF wF F => by
            have s75 : aF.tmps.getD 75 undef = (.pointer (some ⟨w.heap.size + 1, 1, none⟩)) := F.done 3 75 (by kernel_rfl) rfl
            have c0 := cell_at (HS.out.box.b1.kept KX.out) F.kept 1 _ rfl
            exact step_val (by simp [Region.wanted]) (by go_simp) rfl),
              (fun aF wF F => by
            have s74 : aF.tmps.getD 74 undef = X := F.done 2 74 (by kernel_rfl) rfl
            have s76 : aF.tmps.getD 76 undef = (.slice A2 l2 c2) := F.done 4 76 (by kernel_rfl) rfl
            exact step_good (by simp [Region.wanted]) (by go_simp) (HS.out.minus (KX.out.trans F.kept) HJ.out (LX.out.kept F.kept) HL.out) (fun _ _ h => RetLim.good h) (fun _ _ h => h)),
              (fun aF wF F => by
            have s3 : aF.tmps.getD 3 undef = (.pointer (some ⟨w.heap.size + 1, 0, none⟩)) := F.old 3 (by kernel_rfl)
            exact step_val (by simp [Region.wanted]) (by go_simp) rfl),
              (fun aF wF F => by
            have s78 : aF.tmps.getD 78 undef = (.pointer (some ⟨w.heap.size + 1, 2, none⟩)) := F.done 6 78 (by kernel_rfl) rfl
            have c0 := cell_at (HS.out.box.b1.kept KX.out) F.kept 2 _ rfl
            exact step_val (by simp [Region.wanted]) (by go_simp) rfl),
              (fun aF wF F => by
            have s73 : aF.tmps.getD 73 undef = (.bool x.neg) := F.done 1 73 (by kernel_rfl) rfl
            have s77 : (fun v wv => Lim wv v (limbs (x.m * 2 ^ j - y.m))) (aF.tmps.getD 77 undef) wF := F.done 5 77 (by kernel_rfl) rfl
            have s79 : aF.tmps.getD 79 undef = (.int .i64 y.e) := F.done 7 79 (by kernel_rfl) rfl
            exact step_goes (by simp [Region.wanted]) (by go_simp) (HS.out.fits (KX.out.trans F.kept) (Nat.le_trans (bl_mono (Nat.sub_le _ _)) (Nat.le_succ_of_le (HS.out.blX HJ.out))) s77 x.neg) (fun _ _ _ h0 h => ⟨h0, h⟩) (fun w2 k2 h0 => ⟨F.defers, ⟨HS.out.kept.trans (KX.out.trans (F.kept.trans k2)), .inr ⟨h0, rfl⟩⟩⟩)),
              trivial⟩) ?_
          intro u w1 k1 hu
          have e72 : u 0 = (.pointer (some ⟨w.heap.size, 0, none⟩)) := hu 0 (by decide)
          have e73 : u 1 = (.bool x.neg) := hu 1 (by decide)
          have e74 : u 2 = X := hu 2 (by decide)
          have e75 : u 3 = (.pointer (some ⟨w.heap.size + 1, 1, none⟩)) := hu 3 (by decide)
          have e76 : u 4 = (.slice A2 l2 c2) := hu 4 (by decide)
          have p77 := hu 5 (by decide)
          have e78 : u 6 = (.pointer (some ⟨w.heap.size + 1, 2, none⟩)) := hu 6 (by decide)
          have e79 : u 7 = (.int .i64 y.e) := hu 7 (by decide)
          have p80 := hu 8 (by decide)
          clear hu
          simp only [puts, slotOf, if_true, Act.put, List.setIfInBounds_toArray, List.set_cons_zero, List.set_cons_succ, List.getElem?_toArray, List.getElem?_cons_zero, List.getElem?_cons_succ, Option.bind_some, e72, e73, e74, e75, e76, e78, e79]
          clear e72 e73 e74 e75 e76 e78 e79
          generalize u 5 = v77 at *
          try simp only [VL, List.getD_cons_zero, List.getD_cons_succ] at p77
          generalize u 8 = v80 at *
          try simp only [VL, List.getD_cons_zero, List.getD_cons_succ] at p80
          obtain ⟨h0, hd⟩ := p80
          obtain ⟨A', l', c', rfl, hd, g1, g2⟩ := dyR_parts hd
          have hr := HS.out.close (Kept.trans KX.out k1) h0 hd g1 g2
          have hb := HS.out.box.b2.kept (Kept.trans KX.out k1)
          have HR := Lib.hid hr
          have HB := Lib.hid hb
          clear hr hd g1 g2 h0
          obtain ⟨_, c0, c1, c2, f0, f1, f2⟩ := hb.facts
          clear hb
          go_simp
          go_wp2_with fail
          exact ret_dy (HB.out.laid _ _ _) rfl rfl rfl HR.out
        · rw [if_neg hle] at hso
          subst hso
          have hcm : decide (0 ≤ cmpN (x.m * 2 ^ j) y.m) = false := by unfold cmpN; rw [if_pos (by omega)]; rfl
          have HL := Lib.hid (show x.m * 2 ^ j ≤ y.m by omega)
          clear hle
          obtain ⟨-, a0, a1, a2, -⟩ := (HS.out.box.b0.kept k1).facts
          obtain ⟨-, b0, b1, b2, -⟩ := (HS.out.box.b1.kept k1).facts
          have K1 := Lib.hid k1
          clear k1
          go_wp2_with (first
            | (go_at_call 92; refine (HS.out.left K1.out HJ.out).mono ?_; clear a0 a1 a2 b0 b1 b2; rintro e w2 ⟨X, rfl, hX, q2⟩; have LX := Lib.hid hX; have KX := Lib.hid (K1.out.trans q2); obtain ⟨-, a0, a1, a2, -⟩ := (HS.out.box.b0.kept KX.out).facts; obtain ⟨-, b0, b1, b2, -⟩ := (HS.out.box.b1.kept KX.out).facts; clear hX q2)
            | (go_at_call 97; refine (HS.out.order KX.out HJ.out LX.out).mono ?_; rintro e w2 ⟨rfl, q, rfl⟩; replace LX := Lib.hid (LX.out.drewN q); replace KX := Lib.hid (Kept.drewN KX.out q)))
          clear hnb hcm a0 a1 a2 b0 b1 b2
          refine region_lin1 (m := 9) (V := VL [
              (fun v _ => v = (.pointer (some ⟨w.heap.size + 1, 0, none⟩))),
              (fun v _ => v = (.bool y.neg)),
              (fun v _ => v = (.pointer (some ⟨w.heap.size + 1, 1, none⟩))),
              (fun v _ => v = (.slice A2 l2 c2)),
              (fun v _ => v = X),
              (fun v wv => Lim wv v (limbs (y.m - x.m * 2 ^ j))),
              (fun v _ => v = (.pointer (some ⟨w.heap.size + 1, 2, none⟩))),
              (fun v _ => v = (.int .i64 y.e)),
              (fun v wv => ((fitD y.neg (y.m - x.m * 2 ^ j) y.e).raw).k = 0 ∧ DyR wv v ((fitD y.neg (y.m - x.m * 2 ^ j) y.e).raw).v)])
            (by kernel_rfl) rfl rfl rfl (by kernel_rfl) (by kernel_rfl) (by kernel_rfl) (by kernel_rfl) (mono_of _ ⟨mono_eq _, mono_eq _, mono_eq _, mono_eq _, mono_eq _, fun v w w' k h => by first | exact h | exact h.kept k | exact ⟨h.1, h.2.kept k⟩, mono_eq _, mono_eq _, fun v w w' k h => by first | exact h | exact h.kept k | exact ⟨h.1, h.2.kept k⟩, trivial⟩) (steps_of ⟨
              (fun aF wF F => by
            have s3 : aF.tmps.getD 3 undef = (.pointer (some ⟨w.heap.size + 1, 0, none⟩)) := F.old 3 (by kernel_rfl)
            exact step_val (by simp [Region.wanted]) (by go_simp) rfl),
              (fun aF wF F => by
            have s81 : aF.tmps.getD 81 undef = (.pointer (some ⟨w.heap.size + 1, 0, none⟩)) := F.done 0 81 (by kernel_rfl) rfl
            have c0 := cell_at (HS.out.box.b1.kept KX.out) F.kept 0 _ rfl
            exact step_val (by simp [Region.wanted]) (by go_simp) rfl),
              (fun aF wF F => by
            have s3 : aF.tmps.getD 3 undef = (.pointer (some ⟨w.heap.size + 1, 0, none⟩)) := F.old 3 (by kernel_rfl)
            exact step_val (by simp [Region.wanted]) (by go_simp) rfl),
              (fun aF wF F => by
            have s83 : aF.tmps.getD 83 undef = (.pointer (some ⟨w.heap.size + 1, 1, none⟩)) := F.done 2 83 (by kernel_rfl) rfl
            have c0 := cell_at (HS.out.box.b1.kept KX.out) F.kept 1 _ rfl
            exact step_val (by simp [Region.wanted]) (by go_simp) rfl),
              (fun aF wF F => by
            have s5 : aF.tmps.getD 5 undef = X := F.old 5 (by kernel_rfl)
            exact step_val (by simp [Region.wanted]) (by go_simp) rfl),
              (fun aF wF F => by
            have s84 : aF.tmps.getD 84 undef = (.slice A2 l2 c2) := F.done 3 84 (by kernel_rfl) rfl
            have s85 : aF.tmps.getD 85 undef = X := F.done 4 85 (by kernel_rfl) rfl
            exact step_good (by simp [Region.wanted]) (by go_simp) (HS.out.minus' (KX.out.trans F.kept) (LX.out.kept F.kept) HL.out) (fun _ _ h => RetLim.good h) (fun _ _ h => h)),
              (fun aF wF F => by
            have s3 : aF.tmps.getD 3 undef = (.pointer (some ⟨w.heap.size + 1, 0, none⟩)) := F.old 3 (by kernel_rfl)
            exact step_val (by simp [Region.wanted]) (by go_simp) rfl),
              (fun aF wF F => by
            have s87 : aF.tmps.getD 87 undef = (.pointer (some ⟨w.heap.size + 1, 2, none⟩)) := F.done 6 87 (by kernel_rfl) rfl
            have c0 := cell_at (HS.out.box.b1.kept KX.out) F.kept 2 _ rfl
            exact step_val (by simp [Region.wanted]) (by go_simp) rfl),
              (fun aF wF F => by
            have s82 : aF.tmps.getD 82 undef = (.bool y.neg) := F.done 1 82 (by kernel_rfl) rfl
            have s86 : (fun v wv => Lim wv v (limbs (y.m - x.m * 2 ^ j))) (aF.tmps.getD 86 undef) wF := F.done 5 86 (by kernel_rfl) rfl
            have s88 : aF.tmps.getD 88 undef = (.int .i64 y.e) := F.done 7 88 (by kernel_rfl) rfl
            exact step_goes (by simp [Region.wanted]) (by go_simp) (HS.out.fits (KX.out.trans F.kept) (Nat.le_trans (bl_of_len y.m 64 HS.out.okb.len |> fun h => Nat.le_trans (bl_mono (Nat.sub_le _ _)) h) (by decide)) s86 y.neg) (fun _ _ _ h0 h => ⟨h0, h⟩) (fun w2 k2 h0 => ⟨F.defers, ⟨HS.out.kept.trans (KX.out.trans (F.kept.trans k2)), .inr ⟨h0, rfl⟩⟩⟩)),
              trivial⟩) ?_
          intro u w1 k1 hu
          have e81 : u 0 = (.pointer (some ⟨w.heap.size + 1, 0, none⟩)) := hu 0 (by decide)
          have e82 : u 1 = (.bool y.neg) := hu 1 (by decide)
          have e83 : u 2 = (.pointer (some ⟨w.heap.size + 1, 1, none⟩)) := hu 2 (by decide)
          have e84 : u 3 = (.slice A2 l2 c2) := hu 3 (by decide)
          have e85 : u 4 = X := hu 4 (by decide)
          have p86 := hu 5 (by decide)
          have e87 : u 6 = (.pointer (some ⟨w.heap.size + 1, 2, none⟩)) := hu 6 (by decide)
          have e88 : u 7 = (.int .i64 y.e) := hu 7 (by decide)
          have p89 := hu 8 (by decide)
          clear hu
          simp only [puts, slotOf, if_true, Act.put, List.setIfInBounds_toArray, List.set_cons_zero, List.set_cons_succ, List.getElem?_toArray, List.getElem?_cons_zero, List.getElem?_cons_succ, Option.bind_some, e81, e82, e83, e84, e85, e87, e88]
          clear e81 e82 e83 e84 e85 e87 e88
          generalize u 5 = v86 at *
          try simp only [VL, List.getD_cons_zero, List.getD_cons_succ] at p86
          generalize u 8 = v89 at *
          try simp only [VL, List.getD_cons_zero, List.getD_cons_succ] at p89
          obtain ⟨h0, hd⟩ := p89
          obtain ⟨A', l', c', rfl, hd, g1, g2⟩ := dyR_parts hd
          have hr := HS.out.close (Kept.trans KX.out k1) h0 hd g1 g2
          have hb := HS.out.box.b2.kept (Kept.trans KX.out k1)
          have HR := Lib.hid hr
          have HB := Lib.hid hb
          clear hr hd g1 g2 h0
          obtain ⟨_, c0, c1, c2, f0, f1, f2⟩ := hb.facts
          clear hb
          go_simp
          go_wp2_with fail
          exact ret_dy (HB.out.laid _ _ _) rfl rfl rfl HR.out
    · have he' : (x.e == y.e) = false := by rw [beq_eq_false_iff_ne]; exact he
      obtain ⟨bb, hbb⟩ : ∃ bb, decide ((j : Int) ≤ 4097 - (bl x.m : Int)) = bb := ⟨_, rfl⟩
      have HE := Lib.hid he
      have HJ := Lib.hid hj
      have HT := Lib.hid hjt
      have HB := Lib.hid hbl
      have AB := Lib.hid (show -1048576 ≤ x.e ∧ x.e ≤ 1048576 ∧ -1048576 ≤ y.e ∧ y.e ≤ 1048576 from ⟨a1, a2, b1, b2⟩)
      clear he hj hjt hbl a1 a2 b1 b2
      have hpan : ∀ w2, Kept W w2 → bb = false → Goes 111 o.raw w (.panicked (failV 111 2)) w2 := by
        intro w2 k2 hb
        rw [HO.out]
        have hc : ¬ x.e = y.e ∧ 4097 - (bl x.m : Int) < x.e - y.e := ⟨HE.out, by have := HJ.out; rw [hb] at hbb; simp at hbb; omega⟩
        unfold sumC
        rw [if_pos hc]
        exact ⟨HS.out.kept.trans k2, .inr ⟨by decide, rfl⟩⟩
      have HP := Lib.hid hpan
      clear hpan
      refine region_lin (m := 18) (V := VL [
          (fun v _ => v = (.pointer (some ⟨w.heap.size, 2, none⟩))),
          (fun v _ => v = (.int .i64 x.e)),
          (fun v _ => v = (.pointer (some ⟨w.heap.size + 1, 2, none⟩))),
          (fun v _ => v = (.int .i64 y.e)),
          (fun v _ => v = (.bool false)),
          (fun v _ => v = (.bool false)),
          (fun v _ => v = (.pointer (some ⟨w.heap.size, 2, none⟩))),
          (fun v _ => v = (.int .i64 x.e)),
          (fun v _ => v = (.pointer (some ⟨w.heap.size + 1, 2, none⟩))),
          (fun v _ => v = (.int .i64 y.e)),
          (fun v _ => v = (.int .i64 j)),
          (fun v _ => v = (.pointer (some ⟨w.heap.size, 1, none⟩))),
          (fun v _ => v = (.slice A l c)),
          (fun v _ => v = (.int .i64 (bl x.m))),
          (fun v _ => v = (.int .i64 (4097 - (bl x.m : Int)))),
          (fun v _ => v = (.bool bb)),
          (fun v _ => v = (.bool bb)),
          (fun v _ => bb = true ∧ v = .tuple #[])])
        (by kernel_rfl) rfl (by kernel_rfl) (by kernel_rfl) (by kernel_rfl) (mono_of _ ⟨mono_eq _, mono_eq _, mono_eq _, mono_eq _, mono_eq _, mono_eq _, mono_eq _, mono_eq _, mono_eq _, mono_eq _, mono_eq _, mono_eq _, mono_eq _, mono_eq _, mono_eq _, mono_eq _, mono_eq _, fun v w w' k h => by first | exact h | exact h.kept k | exact ⟨h.1, h.2.kept k⟩, trivial⟩) (steps_of ⟨
          (fun aF wF F => by
        have s2 : aF.tmps.getD 2 undef = (.pointer (some ⟨w.heap.size, 0, none⟩)) := F.old 2 (by kernel_rfl)
        exact step_val (by simp [Region.wanted]) (by go_simp) rfl),
          (fun aF wF F => by
        have s25 : aF.tmps.getD 25 undef = (.pointer (some ⟨w.heap.size, 2, none⟩)) := F.done 0 25 (by kernel_rfl) rfl
        have c0 := cell_at HS.out.box.b0 F.kept 2 _ rfl
        exact step_val (by simp [Region.wanted]) (by go_simp) rfl),
          (fun aF wF F => by
        have s3 : aF.tmps.getD 3 undef = (.pointer (some ⟨w.heap.size + 1, 0, none⟩)) := F.old 3 (by kernel_rfl)
        exact step_val (by simp [Region.wanted]) (by go_simp) rfl),
          (fun aF wF F => by
        have s27 : aF.tmps.getD 27 undef = (.pointer (some ⟨w.heap.size + 1, 2, none⟩)) := F.done 2 27 (by kernel_rfl) rfl
        have c0 := cell_at HS.out.box.b1 F.kept 2 _ rfl
        exact step_val (by simp [Region.wanted]) (by go_simp) rfl),
          (fun aF wF F => by
        have s26 : aF.tmps.getD 26 undef = (.int .i64 x.e) := F.done 1 26 (by kernel_rfl) rfl
        have s28 : aF.tmps.getD 28 undef = (.int .i64 y.e) := F.done 3 28 (by kernel_rfl) rfl
        exact step_val (by simp [Region.wanted]) (by go_simp) rfl),
          (fun aF wF F => by
        have s29 : aF.tmps.getD 29 undef = (.bool false) := F.done 4 29 (by kernel_rfl) rfl
        exact step_val (by simp [Region.wanted]) (by go_simp) rfl),
          (fun aF wF F => by
        have s2 : aF.tmps.getD 2 undef = (.pointer (some ⟨w.heap.size, 0, none⟩)) := F.old 2 (by kernel_rfl)
        have sg : aF.tmps.getD 30 undef = (.bool false) := F.done 5 30 (by kernel_rfl) rfl
        exact step_val ((wanted_guard rfl rfl sg).trans rfl) (by go_simp) rfl),
          (fun aF wF F => by
        have s31 : aF.tmps.getD 31 undef = (.pointer (some ⟨w.heap.size, 2, none⟩)) := F.done 6 31 (by kernel_rfl) rfl
        have c0 := cell_at HS.out.box.b0 F.kept 2 _ rfl
        have sg : aF.tmps.getD 30 undef = (.bool false) := F.done 5 30 (by kernel_rfl) rfl
        exact step_val ((wanted_guard rfl rfl sg).trans rfl) (by go_simp) rfl),
          (fun aF wF F => by
        have s3 : aF.tmps.getD 3 undef = (.pointer (some ⟨w.heap.size + 1, 0, none⟩)) := F.old 3 (by kernel_rfl)
        have sg : aF.tmps.getD 30 undef = (.bool false) := F.done 5 30 (by kernel_rfl) rfl
        exact step_val ((wanted_guard rfl rfl sg).trans rfl) (by go_simp) rfl),
          (fun aF wF F => by
        have s33 : aF.tmps.getD 33 undef = (.pointer (some ⟨w.heap.size + 1, 2, none⟩)) := F.done 8 33 (by kernel_rfl) rfl
        have c0 := cell_at HS.out.box.b1 F.kept 2 _ rfl
        have sg : aF.tmps.getD 30 undef = (.bool false) := F.done 5 30 (by kernel_rfl) rfl
        exact step_val ((wanted_guard rfl rfl sg).trans rfl) (by go_simp) rfl),
          (fun aF wF F => by
        have s32 : aF.tmps.getD 32 undef = (.int .i64 x.e) := F.done 7 32 (by kernel_rfl) rfl
        have s34 : aF.tmps.getD 34 undef = (.int .i64 y.e) := F.done 9 34 (by kernel_rfl) rfl
        have sg : aF.tmps.getD 30 undef = (.bool false) := F.done 5 30 (by kernel_rfl) rfl
        exact step_val ((wanted_guard rfl rfl sg).trans rfl) (by go_simp) rfl),
          (fun aF wF F => by
        have s2 : aF.tmps.getD 2 undef = (.pointer (some ⟨w.heap.size, 0, none⟩)) := F.old 2 (by kernel_rfl)
        have sg : aF.tmps.getD 30 undef = (.bool false) := F.done 5 30 (by kernel_rfl) rfl
        exact step_val ((wanted_guard rfl rfl sg).trans rfl) (by go_simp) rfl),
          (fun aF wF F => by
        have s36 : aF.tmps.getD 36 undef = (.pointer (some ⟨w.heap.size, 1, none⟩)) := F.done 11 36 (by kernel_rfl) rfl
        have c0 := cell_at HS.out.box.b0 F.kept 1 _ rfl
        have sg : aF.tmps.getD 30 undef = (.bool false) := F.done 5 30 (by kernel_rfl) rfl
        exact step_val ((wanted_guard rfl rfl sg).trans rfl) (by go_simp) rfl),
          (fun aF wF F => by
        have s37 : aF.tmps.getD 37 undef = (.slice A l c) := F.done 12 37 (by kernel_rfl) rfl
        have sg : aF.tmps.getD 30 undef = (.bool false) := F.done 5 30 (by kernel_rfl) rfl
        exact step_good ((wanted_guard rfl rfl sg).trans rfl) (by go_simp) (HS.out.size F.kept) (fun _ _ h => RetQ.good h) (fun _ _ h => h)),
          (fun aF wF F => by
        have s38 : aF.tmps.getD 38 undef = (.int .i64 (bl x.m)) := F.done 13 38 (by kernel_rfl) rfl
        have sg : aF.tmps.getD 30 undef = (.bool false) := F.done 5 30 (by kernel_rfl) rfl
        exact step_val ((wanted_guard rfl rfl sg).trans rfl) (by go_simp) rfl),
          (fun aF wF F => by
        have s35 : aF.tmps.getD 35 undef = (.int .i64 j) := F.done 10 35 (by kernel_rfl) rfl
        have s39 : aF.tmps.getD 39 undef = (.int .i64 (4097 - (bl x.m : Int))) := F.done 14 39 (by kernel_rfl) rfl
        have sg : aF.tmps.getD 30 undef = (.bool false) := F.done 5 30 (by kernel_rfl) rfl
        exact step_val ((wanted_guard rfl rfl sg).trans rfl) (by go_simp) rfl),
          (fun aF wF F => by
        have s30 : aF.tmps.getD 30 undef = (.bool false) := F.done 5 30 (by kernel_rfl) rfl
        have s40 : aF.tmps.getD 40 undef = (.bool bb) := F.done 15 40 (by kernel_rfl) rfl
        exact step_val (by simp [Region.wanted]) (by go_simp) rfl),
          (fun aF wF F => by
        have s41 : aF.tmps.getD 41 undef = (.bool bb) := F.done 16 41 (by kernel_rfl) rfl
        exact step_call (by simp [Region.wanted]) (by go_simp) (must_if bb 2 _) (fun e w2 h => h.imp (fun ⟨v, he, hk, hv⟩ => ⟨v, he, hk, hv⟩) (fun ⟨c, he, h0, hc, hw2⟩ => ⟨c, he, F.defers, by subst hc; exact HP.out w2 (hw2 ▸ F.kept) h0⟩))),
          trivial⟩) ?_
      intro u w1 k1 hu
      have e25 : u 0 = (.pointer (some ⟨w.heap.size, 2, none⟩)) := hu 0 (by decide)
      have e26 : u 1 = (.int .i64 x.e) := hu 1 (by decide)
      have e27 : u 2 = (.pointer (some ⟨w.heap.size + 1, 2, none⟩)) := hu 2 (by decide)
      have e28 : u 3 = (.int .i64 y.e) := hu 3 (by decide)
      have e29 : u 4 = (.bool false) := hu 4 (by decide)
      have e30 : u 5 = (.bool false) := hu 5 (by decide)
      have e31 : u 6 = (.pointer (some ⟨w.heap.size, 2, none⟩)) := hu 6 (by decide)
      have e32 : u 7 = (.int .i64 x.e) := hu 7 (by decide)
      have e33 : u 8 = (.pointer (some ⟨w.heap.size + 1, 2, none⟩)) := hu 8 (by decide)
      have e34 : u 9 = (.int .i64 y.e) := hu 9 (by decide)
      have e35 : u 10 = (.int .i64 j) := hu 10 (by decide)
      have e36 : u 11 = (.pointer (some ⟨w.heap.size, 1, none⟩)) := hu 11 (by decide)
      have e37 : u 12 = (.slice A l c) := hu 12 (by decide)
      have e38 : u 13 = (.int .i64 (bl x.m)) := hu 13 (by decide)
      have e39 : u 14 = (.int .i64 (4097 - (bl x.m : Int))) := hu 14 (by decide)
      have e40 : u 15 = (.bool bb) := hu 15 (by decide)
      have e41 : u 16 = (.bool bb) := hu 16 (by decide)
      have p42 := hu 17 (by decide)
      clear hu
      simp only [puts, slotOf, if_true, Act.put, List.setIfInBounds_toArray, List.set_cons_zero, List.set_cons_succ, List.getElem?_toArray, List.getElem?_cons_zero, List.getElem?_cons_succ, Option.bind_some, e25, e26, e27, e28, e29, e30, e31, e32, e33, e34, e35, e36, e37, e38, e39, e40, e41]
      clear e25 e26 e27 e28 e29 e30 e31 e32 e33 e34 e35 e36 e37 e38 e39 e40 e41
      generalize u 17 = v42 at *
      try simp only [VL, List.getD_cons_zero, List.getD_cons_succ] at p42
      have hj0 : j ≤ 4097 := by
        have := p42.1
        rw [this] at hbb
        simp at hbb
        omega
      have hsc : sumC x y = if x.neg = y.neg then fitD x.neg (x.m * 2 ^ j + y.m) y.e else if y.m ≤ x.m * 2 ^ j then fitD x.neg (x.m * 2 ^ j - y.m) y.e else fitD y.neg (y.m - x.m * 2 ^ j) y.e := by
        unfold sumC
        rw [if_neg, HT.out]
        intro hc
        have h1 := p42.1
        have h2 := HJ.out
        rw [h1] at hbb
        simp at hbb
        omega
      have HSC := Lib.hid (HO.out.trans hsc)
      clear HJ
      have HJ := Lib.hid hj0
      clear he' u p42 hsc hj0 hbb HE HT HB AB HP hwt
      by_cases hn : x.neg = y.neg
      · have hso := HSC.out
        rw [if_pos hn] at hso
        subst hso
        have hnb : (x.neg == y.neg) = true := by simp [hn]
        clear hn
        obtain ⟨-, a0, a1, a2, -⟩ := (HS.out.box.b0.kept k1).facts
        obtain ⟨-, b0, b1, b2, -⟩ := (HS.out.box.b1.kept k1).facts
        have K1 := Lib.hid k1
        clear k1
        go_wp2_with (first
          | (go_at_call 92; refine (HS.out.left K1.out HJ.out).mono ?_; clear a0 a1 a2 b0 b1 b2; rintro e w2 ⟨X, rfl, hX, q2⟩; have LX := Lib.hid hX; have KX := Lib.hid (K1.out.trans q2); obtain ⟨-, a0, a1, a2, -⟩ := (HS.out.box.b0.kept KX.out).facts; obtain ⟨-, b0, b1, b2, -⟩ := (HS.out.box.b1.kept KX.out).facts; clear hX q2)
          | (go_at_call 97; refine (HS.out.order KX.out HJ.out LX.out).mono ?_; rintro e w2 ⟨rfl, q, rfl⟩; replace LX := Lib.hid (LX.out.drewN q); replace KX := Lib.hid (Kept.drewN KX.out q)))
        clear hnb a0 a1 a2 b0 b1 b2
        refine region_lin1 (m := 9) (V := VL [
            (fun v _ => v = (.pointer (some ⟨w.heap.size, 0, none⟩))),
            (fun v _ => v = (.bool x.neg)),
            (fun v _ => v = X),
            (fun v _ => v = (.pointer (some ⟨w.heap.size + 1, 1, none⟩))),
            (fun v _ => v = (.slice A2 l2 c2)),
            (fun v wv => Lim wv v (limbs (x.m * 2 ^ j + y.m))),
            (fun v _ => v = (.pointer (some ⟨w.heap.size + 1, 2, none⟩))),
            (fun v _ => v = (.int .i64 y.e)),
            (fun v wv => ((fitD x.neg (x.m * 2 ^ j + y.m) y.e).raw).k = 0 ∧ DyR wv v ((fitD x.neg (x.m * 2 ^ j + y.m) y.e).raw).v)])
          (by kernel_rfl) rfl rfl rfl (by kernel_rfl) (by kernel_rfl) (by kernel_rfl) (by kernel_rfl) (mono_of _ ⟨mono_eq _, mono_eq _, mono_eq _, mono_eq _, mono_eq _, fun v w w' k h => by first | exact h | exact h.kept k | exact ⟨h.1, h.2.kept k⟩, mono_eq _, mono_eq _, fun v w w' k h => by first | exact h | exact h.kept k | exact ⟨h.1, h.2.kept k⟩, trivial⟩) (steps_of ⟨
            (fun aF wF F => by
          have s2 : aF.tmps.getD 2 undef = (.pointer (some ⟨w.heap.size, 0, none⟩)) := F.old 2 (by kernel_rfl)
          exact step_val (by simp [Region.wanted]) (by go_simp) rfl),
            (fun aF wF F => by
          have s57 : aF.tmps.getD 57 undef = (.pointer (some ⟨w.heap.size, 0, none⟩)) := F.done 0 57 (by kernel_rfl) rfl
          have c0 := cell_at (HS.out.box.b0.kept KX.out) F.kept 0 _ rfl
          exact step_val (by simp [Region.wanted]) (by go_simp) rfl),
            (fun aF wF F => by
          have s5 : aF.tmps.getD 5 undef = X := F.old 5 (by kernel_rfl)
          exact step_val (by simp [Region.wanted]) (by go_simp) rfl),
            (fun aF wF F => by
          have s3 : aF.tmps.getD 3 undef = (.pointer (some ⟨w.heap.size + 1, 0, none⟩)) := F.old 3 (by kernel_rfl)
          exact step_val (by simp [Region.wanted]) (by go_simp) rfl),
            (fun aF wF F => by
          have s60 : aF.tmps.getD 60 undef = (.pointer (some ⟨w.heap.size + 1, 1, none⟩)) := F.done 3 60 (by kernel_rfl) rfl
          have c0 := cell_at (HS.out.box.b1.kept KX.out) F.kept 1 _ rfl
          exact step_val (by simp [Region.wanted]) (by go_simp) rfl),
            (fun aF wF F => by
          have s59 : aF.tmps.getD 59 undef = X := F.done 2 59 (by kernel_rfl) rfl
          have s61 : aF.tmps.getD 61 undef = (.slice A2 l2 c2) := F.done 4 61 (by kernel_rfl) rfl
          exact step_good (by simp [Region.wanted]) (by go_simp) (HS.out.plus (KX.out.trans F.kept) HJ.out (LX.out.kept F.kept)) (fun _ _ h => RetLim.good h) (fun _ _ h => h)),
            (fun aF wF F => by
          have s3 : aF.tmps.getD 3 undef = (.pointer (some ⟨w.heap.size + 1, 0, none⟩)) := F.old 3 (by kernel_rfl)
          exact step_val (by simp [Region.wanted]) (by go_simp) rfl),
            (fun aF wF F => by
          have s63 : aF.tmps.getD 63 undef = (.pointer (some ⟨w.heap.size + 1, 2, none⟩)) := F.done 6 63 (by kernel_rfl) rfl
          have c0 := cell_at (HS.out.box.b1.kept KX.out) F.kept 2 _ rfl
          exact step_val (by simp [Region.wanted]) (by go_simp) rfl),
            (fun aF wF F => by
          have s58 : aF.tmps.getD 58 undef = (.bool x.neg) := F.done 1 58 (by kernel_rfl) rfl
          have s62 : (fun v wv => Lim wv v (limbs (x.m * 2 ^ j + y.m))) (aF.tmps.getD 62 undef) wF := F.done 5 62 (by kernel_rfl) rfl
          have s64 : aF.tmps.getD 64 undef = (.int .i64 y.e) := F.done 7 64 (by kernel_rfl) rfl
          exact step_goes (by simp [Region.wanted]) (by go_simp) (HS.out.fits (KX.out.trans F.kept) (HS.out.blSum HJ.out) s62 x.neg) (fun _ _ _ h0 h => ⟨h0, h⟩) (fun w2 k2 h0 => ⟨F.defers, ⟨HS.out.kept.trans (KX.out.trans (F.kept.trans k2)), .inr ⟨h0, rfl⟩⟩⟩)),
            trivial⟩) ?_
        intro u w1 k1 hu
        have e57 : u 0 = (.pointer (some ⟨w.heap.size, 0, none⟩)) := hu 0 (by decide)
        have e58 : u 1 = (.bool x.neg) := hu 1 (by decide)
        have e59 : u 2 = X := hu 2 (by decide)
        have e60 : u 3 = (.pointer (some ⟨w.heap.size + 1, 1, none⟩)) := hu 3 (by decide)
        have e61 : u 4 = (.slice A2 l2 c2) := hu 4 (by decide)
        have p62 := hu 5 (by decide)
        have e63 : u 6 = (.pointer (some ⟨w.heap.size + 1, 2, none⟩)) := hu 6 (by decide)
        have e64 : u 7 = (.int .i64 y.e) := hu 7 (by decide)
        have p65 := hu 8 (by decide)
        clear hu
        simp only [puts, slotOf, if_true, Act.put, List.setIfInBounds_toArray, List.set_cons_zero, List.set_cons_succ, List.getElem?_toArray, List.getElem?_cons_zero, List.getElem?_cons_succ, Option.bind_some, e57, e58, e59, e60, e61, e63, e64]
        clear e57 e58 e59 e60 e61 e63 e64
        generalize u 5 = v62 at *
        try simp only [VL, List.getD_cons_zero, List.getD_cons_succ] at p62
        generalize u 8 = v65 at *
        try simp only [VL, List.getD_cons_zero, List.getD_cons_succ] at p65
        obtain ⟨h0, hd⟩ := p65
        obtain ⟨A', l', c', rfl, hd, g1, g2⟩ := dyR_parts hd
        have hr := HS.out.close (Kept.trans KX.out k1) h0 hd g1 g2
        have hb := HS.out.box.b2.kept (Kept.trans KX.out k1)
        have HR := Lib.hid hr
        have HB := Lib.hid hb
        clear hr hd g1 g2 h0
        obtain ⟨_, c0, c1, c2, f0, f1, f2⟩ := hb.facts
        clear hb
        go_simp
        go_wp2_with fail
        exact ret_dy (HB.out.laid _ _ _) rfl rfl rfl HR.out
      · have hso := HSC.out
        rw [if_neg hn] at hso
        have hnb : (x.neg == y.neg) = false := by simp [hn]
        clear hn
        by_cases hle : y.m ≤ x.m * 2 ^ j
        · rw [if_pos hle] at hso
          subst hso
          have hcm : decide (0 ≤ cmpN (x.m * 2 ^ j) y.m) = true := by unfold cmpN; rw [if_neg (by omega)]; split <;> rfl
          have HL := Lib.hid hle
          clear hle
          obtain ⟨-, a0, a1, a2, -⟩ := (HS.out.box.b0.kept k1).facts
          obtain ⟨-, b0, b1, b2, -⟩ := (HS.out.box.b1.kept k1).facts
          have K1 := Lib.hid k1
          clear k1
          go_wp2_with (first
            | (go_at_call 92; refine (HS.out.left K1.out HJ.out).mono ?_; clear a0 a1 a2 b0 b1 b2; rintro e w2 ⟨X, rfl, hX, q2⟩; have LX := Lib.hid hX; have KX := Lib.hid (K1.out.trans q2); obtain ⟨-, a0, a1, a2, -⟩ := (HS.out.box.b0.kept KX.out).facts; obtain ⟨-, b0, b1, b2, -⟩ := (HS.out.box.b1.kept KX.out).facts; clear hX q2)
            | (go_at_call 97; refine (HS.out.order KX.out HJ.out LX.out).mono ?_; rintro e w2 ⟨rfl, q, rfl⟩; replace LX := Lib.hid (LX.out.drewN q); replace KX := Lib.hid (Kept.drewN KX.out q)))
          clear hnb hcm a0 a1 a2 b0 b1 b2
          refine region_lin1 (m := 9) (V := VL [
              (fun v _ => v = (.pointer (some ⟨w.heap.size, 0, none⟩))),
              (fun v _ => v = (.bool x.neg)),
              (fun v _ => v = X),
              (fun v _ => v = (.pointer (some ⟨w.heap.size + 1, 1, none⟩))),
              (fun v _ => v = (.slice A2 l2 c2)),
              (fun v wv => Lim wv v (limbs (x.m * 2 ^ j - y.m))),
              (fun v _ => v = (.pointer (some ⟨w.heap.size + 1, 2, none⟩))),
              (fun v _ => v = (.int .i64 y.e)),
              (fun v wv => ((fitD x.neg (x.m * 2 ^ j - y.m) y.e).raw).k = 0 ∧ DyR wv v ((fitD x.neg (x.m * 2 ^ j - y.m) y.e).raw).v)])
            (by kernel_rfl) rfl rfl rfl (by kernel_rfl) (by kernel_rfl) (by kernel_rfl) (by kernel_rfl) (mono_of _ ⟨mono_eq _, mono_eq _, mono_eq _, mono_eq _, mono_eq _, fun v w w' k h => by first | exact h | exact h.kept k | exact ⟨h.1, h.2.kept k⟩, mono_eq _, mono_eq _, fun v w w' k h => by first | exact h | exact h.kept k | exact ⟨h.1, h.2.kept k⟩, trivial⟩) (steps_of ⟨
              (fun aF wF F => by
            have s2 : aF.tmps.getD 2 undef = (.pointer (some ⟨w.heap.size, 0, none⟩)) := F.old 2 (by kernel_rfl)
            exact step_val (by simp [Region.wanted]) (by go_simp) rfl),
              (fun aF wF F => by
            have s72 : aF.tmps.getD 72 undef = (.pointer (some ⟨w.heap.size, 0, none⟩)) := F.done 0 72 (by kernel_rfl) rfl
            have c0 := cell_at (HS.out.box.b0.kept KX.out) F.kept 0 _ rfl
            exact step_val (by simp [Region.wanted]) (by go_simp) rfl),
              (fun aF wF F => by
            have s5 : aF.tmps.getD 5 undef = X := F.old 5 (by kernel_rfl)
            exact step_val (by simp [Region.wanted]) (by go_simp) rfl),
              (fun aF wF F => by
            have s3 : aF.tmps.getD 3 undef = (.pointer (some ⟨w.heap.size + 1, 0, none⟩)) := F.old 3 (by kernel_rfl)
            exact step_val (by simp [Region.wanted]) (by go_simp) rfl),
              (fun aF wF F => by
            have s75 : aF.tmps.getD 75 undef = (.pointer (some ⟨w.heap.size + 1, 1, none⟩)) := F.done 3 75 (by kernel_rfl) rfl
            have c0 := cell_at (HS.out.box.b1.kept KX.out) F.kept 1 _ rfl
            exact step_val (by simp [Region.wanted]) (by go_simp) rfl),
              (fun aF wF F => by
            have s74 : aF.tmps.getD 74 undef = X := F.done 2 74 (by kernel_rfl) rfl
            have s76 : aF.tmps.getD 76 undef = (.slice A2 l2 c2) := F.done 4 76 (by kernel_rfl) rfl
            exact step_good (by simp [Region.wanted]) (by go_simp) (HS.out.minus (KX.out.trans F.kept) HJ.out (LX.out.kept F.kept) HL.out) (fun _ _ h => RetLim.good h) (fun _ _ h => h)),
              (fun aF wF F => by
            have s3 : aF.tmps.getD 3 undef = (.pointer (some ⟨w.heap.size + 1, 0, none⟩)) := F.old 3 (by kernel_rfl)
            exact step_val (by simp [Region.wanted]) (by go_simp) rfl),
              (fun aF wF F => by
            have s78 : aF.tmps.getD 78 undef = (.pointer (some ⟨w.heap.size + 1, 2, none⟩)) := F.done 6 78 (by kernel_rfl) rfl
            have c0 := cell_at (HS.out.box.b1.kept KX.out) F.kept 2 _ rfl
            exact step_val (by simp [Region.wanted]) (by go_simp) rfl),
              (fun aF wF F => by
            have s73 : aF.tmps.getD 73 undef = (.bool x.neg) := F.done 1 73 (by kernel_rfl) rfl
            have s77 : (fun v wv => Lim wv v (limbs (x.m * 2 ^ j - y.m))) (aF.tmps.getD 77 undef) wF := F.done 5 77 (by kernel_rfl) rfl
            have s79 : aF.tmps.getD 79 undef = (.int .i64 y.e) := F.done 7 79 (by kernel_rfl) rfl
            exact step_goes (by simp [Region.wanted]) (by go_simp) (HS.out.fits (KX.out.trans F.kept) (Nat.le_trans (bl_mono (Nat.sub_le _ _)) (Nat.le_succ_of_le (HS.out.blX HJ.out))) s77 x.neg) (fun _ _ _ h0 h => ⟨h0, h⟩) (fun w2 k2 h0 => ⟨F.defers, ⟨HS.out.kept.trans (KX.out.trans (F.kept.trans k2)), .inr ⟨h0, rfl⟩⟩⟩)),
              trivial⟩) ?_
          intro u w1 k1 hu
          have e72 : u 0 = (.pointer (some ⟨w.heap.size, 0, none⟩)) := hu 0 (by decide)
          have e73 : u 1 = (.bool x.neg) := hu 1 (by decide)
          have e74 : u 2 = X := hu 2 (by decide)
          have e75 : u 3 = (.pointer (some ⟨w.heap.size + 1, 1, none⟩)) := hu 3 (by decide)
          have e76 : u 4 = (.slice A2 l2 c2) := hu 4 (by decide)
          have p77 := hu 5 (by decide)
          have e78 : u 6 = (.pointer (some ⟨w.heap.size + 1, 2, none⟩)) := hu 6 (by decide)
          have e79 : u 7 = (.int .i64 y.e) := hu 7 (by decide)
          have p80 := hu 8 (by decide)
          clear hu
          simp only [puts, slotOf, if_true, Act.put, List.setIfInBounds_toArray, List.set_cons_zero, List.set_cons_succ, List.getElem?_toArray, List.getElem?_cons_zero, List.getElem?_cons_succ, Option.bind_some, e72, e73, e74, e75, e76, e78, e79]
          clear e72 e73 e74 e75 e76 e78 e79
          generalize u 5 = v77 at *
          try simp only [VL, List.getD_cons_zero, List.getD_cons_succ] at p77
          generalize u 8 = v80 at *
          try simp only [VL, List.getD_cons_zero, List.getD_cons_succ] at p80
          obtain ⟨h0, hd⟩ := p80
          obtain ⟨A', l', c', rfl, hd, g1, g2⟩ := dyR_parts hd
          have hr := HS.out.close (Kept.trans KX.out k1) h0 hd g1 g2
          have hb := HS.out.box.b2.kept (Kept.trans KX.out k1)
          have HR := Lib.hid hr
          have HB := Lib.hid hb
          clear hr hd g1 g2 h0
          obtain ⟨_, c0, c1, c2, f0, f1, f2⟩ := hb.facts
          clear hb
          go_simp
          go_wp2_with fail
          exact ret_dy (HB.out.laid _ _ _) rfl rfl rfl HR.out
        · rw [if_neg hle] at hso
          subst hso
          have hcm : decide (0 ≤ cmpN (x.m * 2 ^ j) y.m) = false := by unfold cmpN; rw [if_pos (by omega)]; rfl
          have HL := Lib.hid (show x.m * 2 ^ j ≤ y.m by omega)
          clear hle
          obtain ⟨-, a0, a1, a2, -⟩ := (HS.out.box.b0.kept k1).facts
          obtain ⟨-, b0, b1, b2, -⟩ := (HS.out.box.b1.kept k1).facts
          have K1 := Lib.hid k1
          clear k1
          go_wp2_with (first
            | (go_at_call 92; refine (HS.out.left K1.out HJ.out).mono ?_; clear a0 a1 a2 b0 b1 b2; rintro e w2 ⟨X, rfl, hX, q2⟩; have LX := Lib.hid hX; have KX := Lib.hid (K1.out.trans q2); obtain ⟨-, a0, a1, a2, -⟩ := (HS.out.box.b0.kept KX.out).facts; obtain ⟨-, b0, b1, b2, -⟩ := (HS.out.box.b1.kept KX.out).facts; clear hX q2)
            | (go_at_call 97; refine (HS.out.order KX.out HJ.out LX.out).mono ?_; rintro e w2 ⟨rfl, q, rfl⟩; replace LX := Lib.hid (LX.out.drewN q); replace KX := Lib.hid (Kept.drewN KX.out q)))
          clear hnb hcm a0 a1 a2 b0 b1 b2
          refine region_lin1 (m := 9) (V := VL [
              (fun v _ => v = (.pointer (some ⟨w.heap.size + 1, 0, none⟩))),
              (fun v _ => v = (.bool y.neg)),
              (fun v _ => v = (.pointer (some ⟨w.heap.size + 1, 1, none⟩))),
              (fun v _ => v = (.slice A2 l2 c2)),
              (fun v _ => v = X),
              (fun v wv => Lim wv v (limbs (y.m - x.m * 2 ^ j))),
              (fun v _ => v = (.pointer (some ⟨w.heap.size + 1, 2, none⟩))),
              (fun v _ => v = (.int .i64 y.e)),
              (fun v wv => ((fitD y.neg (y.m - x.m * 2 ^ j) y.e).raw).k = 0 ∧ DyR wv v ((fitD y.neg (y.m - x.m * 2 ^ j) y.e).raw).v)])
            (by kernel_rfl) rfl rfl rfl (by kernel_rfl) (by kernel_rfl) (by kernel_rfl) (by kernel_rfl) (mono_of _ ⟨mono_eq _, mono_eq _, mono_eq _, mono_eq _, mono_eq _, fun v w w' k h => by first | exact h | exact h.kept k | exact ⟨h.1, h.2.kept k⟩, mono_eq _, mono_eq _, fun v w w' k h => by first | exact h | exact h.kept k | exact ⟨h.1, h.2.kept k⟩, trivial⟩) (steps_of ⟨
              (fun aF wF F => by
            have s3 : aF.tmps.getD 3 undef = (.pointer (some ⟨w.heap.size + 1, 0, none⟩)) := F.old 3 (by kernel_rfl)
            exact step_val (by simp [Region.wanted]) (by go_simp) rfl),
              (fun aF wF F => by
            have s81 : aF.tmps.getD 81 undef = (.pointer (some ⟨w.heap.size + 1, 0, none⟩)) := F.done 0 81 (by kernel_rfl) rfl
            have c0 := cell_at (HS.out.box.b1.kept KX.out) F.kept 0 _ rfl
            exact step_val (by simp [Region.wanted]) (by go_simp) rfl),
              (fun aF wF F => by
            have s3 : aF.tmps.getD 3 undef = (.pointer (some ⟨w.heap.size + 1, 0, none⟩)) := F.old 3 (by kernel_rfl)
            exact step_val (by simp [Region.wanted]) (by go_simp) rfl),
              (fun aF wF F => by
            have s83 : aF.tmps.getD 83 undef = (.pointer (some ⟨w.heap.size + 1, 1, none⟩)) := F.done 2 83 (by kernel_rfl) rfl
            have c0 := cell_at (HS.out.box.b1.kept KX.out) F.kept 1 _ rfl
            exact step_val (by simp [Region.wanted]) (by go_simp) rfl),
              (fun aF wF F => by
            have s5 : aF.tmps.getD 5 undef = X := F.old 5 (by kernel_rfl)
            exact step_val (by simp [Region.wanted]) (by go_simp) rfl),
              (fun aF wF F => by
            have s84 : aF.tmps.getD 84 undef = (.slice A2 l2 c2) := F.done 3 84 (by kernel_rfl) rfl
            have s85 : aF.tmps.getD 85 undef = X := F.done 4 85 (by kernel_rfl) rfl
            exact step_good (by simp [Region.wanted]) (by go_simp) (HS.out.minus' (KX.out.trans F.kept) (LX.out.kept F.kept) HL.out) (fun _ _ h => RetLim.good h) (fun _ _ h => h)),
              (fun aF wF F => by
            have s3 : aF.tmps.getD 3 undef = (.pointer (some ⟨w.heap.size + 1, 0, none⟩)) := F.old 3 (by kernel_rfl)
            exact step_val (by simp [Region.wanted]) (by go_simp) rfl),
              (fun aF wF F => by
            have s87 : aF.tmps.getD 87 undef = (.pointer (some ⟨w.heap.size + 1, 2, none⟩)) := F.done 6 87 (by kernel_rfl) rfl
            have c0 := cell_at (HS.out.box.b1.kept KX.out) F.kept 2 _ rfl
            exact step_val (by simp [Region.wanted]) (by go_simp) rfl),
              (fun aF wF F => by
            have s82 : aF.tmps.getD 82 undef = (.bool y.neg) := F.done 1 82 (by kernel_rfl) rfl
            have s86 : (fun v wv => Lim wv v (limbs (y.m - x.m * 2 ^ j))) (aF.tmps.getD 86 undef) wF := F.done 5 86 (by kernel_rfl) rfl
            have s88 : aF.tmps.getD 88 undef = (.int .i64 y.e) := F.done 7 88 (by kernel_rfl) rfl
            exact step_goes (by simp [Region.wanted]) (by go_simp) (HS.out.fits (KX.out.trans F.kept) (Nat.le_trans (bl_of_len y.m 64 HS.out.okb.len |> fun h => Nat.le_trans (bl_mono (Nat.sub_le _ _)) h) (by decide)) s86 y.neg) (fun _ _ _ h0 h => ⟨h0, h⟩) (fun w2 k2 h0 => ⟨F.defers, ⟨HS.out.kept.trans (KX.out.trans (F.kept.trans k2)), .inr ⟨h0, rfl⟩⟩⟩)),
              trivial⟩) ?_
          intro u w1 k1 hu
          have e81 : u 0 = (.pointer (some ⟨w.heap.size + 1, 0, none⟩)) := hu 0 (by decide)
          have e82 : u 1 = (.bool y.neg) := hu 1 (by decide)
          have e83 : u 2 = (.pointer (some ⟨w.heap.size + 1, 1, none⟩)) := hu 2 (by decide)
          have e84 : u 3 = (.slice A2 l2 c2) := hu 3 (by decide)
          have e85 : u 4 = X := hu 4 (by decide)
          have p86 := hu 5 (by decide)
          have e87 : u 6 = (.pointer (some ⟨w.heap.size + 1, 2, none⟩)) := hu 6 (by decide)
          have e88 : u 7 = (.int .i64 y.e) := hu 7 (by decide)
          have p89 := hu 8 (by decide)
          clear hu
          simp only [puts, slotOf, if_true, Act.put, List.setIfInBounds_toArray, List.set_cons_zero, List.set_cons_succ, List.getElem?_toArray, List.getElem?_cons_zero, List.getElem?_cons_succ, Option.bind_some, e81, e82, e83, e84, e85, e87, e88]
          clear e81 e82 e83 e84 e85 e87 e88
          generalize u 5 = v86 at *
          try simp only [VL, List.getD_cons_zero, List.getD_cons_succ] at p86
          generalize u 8 = v89 at *
          try simp only [VL, List.getD_cons_zero, List.getD_cons_succ] at p89
          obtain ⟨h0, hd⟩ := p89
          obtain ⟨A', l', c', rfl, hd, g1, g2⟩ := dyR_parts hd
          have hr := HS.out.close (Kept.trans KX.out k1) h0 hd g1 g2
          have hb := HS.out.box.b2.kept (Kept.trans KX.out k1)
          have HR := Lib.hid hr
          have HB := Lib.hid hb
          clear hr hd g1 g2 h0
          obtain ⟨_, c0, c1, c2, f0, f1, f2⟩ := hb.facts
          clear hb
          go_simp
          go_wp2_with fail
          exact ret_dy (HB.out.laid _ _ _) rfl rfl rfl HR.out

end Go.Proofs.YtjdplcenniogdaaDoor
