/- Contracts of package sluicewayref1, fourth part: size, CmpDyad; sluicewayref5: May. -/
import Derived.Test.YtjdplcenniogdaaDoorZDgE
import Derived.Test.YtjdplcenniogdaaDoorClaimTurnsp20
import Derived.Test.YtjdplcenniogdaaDoorClaimTurnsp28
import Derived.Deep.CutBlock
namespace Go.Proofs.YtjdplcenniogdaaDoor
open Go.RowKit

theorem Dg.len_bl (n : Nat) : (Dg.limbs n).length ≤ bl n := by
  rw [Dg.length_limbs]
  unfold bl
  split <;> omega
theorem Dg.box_nn (w : World) (x y z p q r : Value) : ∃ W, W = (w.alloc (.cells #[x, y, z] 54)).alloc (.cells #[p, q, r] 54) ∧
    Kept w W ∧ Dg.Blk W w.heap.size x y z ∧ Dg.Blk W (w.heap.size + 1) p q r := by
  refine ⟨_, rfl, (kept_alloc _ _).trans (kept_alloc _ _), (Dg.blk_new _ _ _ _).kept (kept_alloc _ _), ?_⟩
  have := Dg.blk_new (w.alloc (.cells #[x, y, z] 54)) p q r
  simpa using this

set_option maxHeartbeats 2000000 in
set_option maxRecDepth 100000 in
theorem qsize_c {w : World} {va vb : Value} {x y : Dy} (ha : Dg.DN w va x.neg x.m x.e) (hb : Dg.DN w vb y.neg y.m y.e) (hx : x.Ok) (hy : y.Ok) (hx0 : x.m ≠ 0) (hy0 : y.m ≠ 0) :
    Calls Tryd.prog 38 #[va, vb] w (RetK (.int .i64 (sizeD x y)) w) := by
  obtain ⟨A, l, c, rfl, ha⟩ := ha
  obtain ⟨A2, l2, c2, rfl, hb⟩ := hb
  have bx := bl_of_len x.m 64 hx.len
  have bY := bl_of_len y.m 64 hy.len
  have lx := Dg.len_bl x.m
  have ly := Dg.len_bl y.m
  have hs1 := fun w1 (k : Kept w w1) => Dg.bits_c (ha.kept k) (by omega)
  have hs2 := fun w1 (k : Kept w w1) => Dg.bits_c (hb.kept k) (by omega)
  have x1 := hx.lo
  have x2 := hx.hi
  have y1 := hy.lo
  have y2 := hy.hi
  obtain ⟨j1, hj1⟩ : ∃ j : Nat, x.e - min x.e y.e = j := ⟨(x.e - min x.e y.e).toNat, by omega⟩
  obtain ⟨j2, hj2⟩ : ∃ j : Nat, y.e - min x.e y.e = j := ⟨(y.e - min x.e y.e).toNat, by omega⟩
  have b1 : j1 ≤ 2097152 := by omega
  have b2 : j2 ≤ 2097152 := by omega
  have hl1 := fun w1 (k : Kept w w1) => Dg.shl_c (ha.kept k) j1 (by omega) (by omega)
  have hl2 := fun w1 (k : Kept w w1) => Dg.shl_c (hb.kept k) j2 (by omega) (by omega)
  have kx : (Dg.limbs (x.m * 2 ^ j1)).length ≤ 40000000 := by have := Dg.len_bl (x.m * 2 ^ j1); rw [bl_mul_pow _ _ hx0] at this; omega
  have ky : (Dg.limbs (y.m * 2 ^ j2)).length ≤ 40000000 := by have := Dg.len_bl (y.m * 2 ^ j2); rw [bl_mul_pow _ _ hy0] at this; omega
  have ho := fun w1 v u (h1 : Dg.Lim w1 v (Dg.limbs (x.m * 2 ^ j1))) (h2 : Dg.Lim w1 u (Dg.limbs (y.m * 2 ^ j2))) => Dg.cmp_c h1 h2 (by omega) (by omega)
  have hwx : IntKind.i64.wrap ((bl x.m : Int) + x.e) = (bl x.m : Int) + x.e := by simp [IntKind.wrap_i64]; omega
  have hwy : IntKind.i64.wrap ((bl y.m : Int) + y.e) = (bl y.m : Int) + y.e := by simp [IntKind.wrap_i64]; omega
  have hw1 : IntKind.i64.wrap (x.e - min x.e y.e) = (j1 : Int) := by rw [hj1]; simp [IntKind.wrap_i64]; omega
  have hw2 : IntKind.i64.wrap (y.e - min x.e y.e) = (j2 : Int) := by rw [hj2]; simp [IntKind.wrap_i64]; omega
  have hD : sizeD x y = if (bl x.m : Int) + x.e < bl y.m + y.e then -1 else if (bl y.m : Int) + y.e < bl x.m + x.e then 1 else cmpN (x.m * 2 ^ j1) (y.m * 2 ^ j2) := by
    unfold sizeD; rw [hj1, hj2]; rfl
  have HD := Lib.hid hD
  have H1 := Lib.hid hs1
  have H2 := Lib.hid hs2
  have L1 := Lib.hid hl1
  have L2 := Lib.hid hl2
  have HO := Lib.hid ho
  clear hD hs1 hs2 hl1 hl2 ho lx ly kx ky ha hb bx bY x1 x2 y1 y2 hx hy hx0 hy0 b1 b2 hj1 hj2
  generalize Dg.limbs (x.m * 2 ^ j1) = xs at *
  generalize Dg.limbs (y.m * 2 ^ j2) = ys at *
  generalize cmpN (x.m * 2 ^ j1) (y.m * 2 ^ j2) = cc at *
  obtain ⟨sx, hsx⟩ : ∃ sx, (bl x.m : Int) + x.e = sx := ⟨_, rfl⟩
  obtain ⟨sy, hsy⟩ : ∃ sy, (bl y.m : Int) + y.e = sy := ⟨_, rfl⟩
  rw [hsx, hsy] at HD
  rw [hsx] at hwx
  rw [hsy] at hwy
  have HX := Lib.hid hsx
  have HY := Lib.hid hsy
  clear hsx hsy
  obtain ⟨lo, hlo⟩ : ∃ lo, min x.e y.e = lo := ⟨_, rfl⟩
  rw [hlo] at hw1 hw2
  have HL := Lib.hid hlo
  clear hlo
  generalize bl x.m = bx at *
  generalize bl y.m = bY at *
  have hsz := HD.out
  generalize sizeD x y = res at *
  generalize x.neg = n1 at *
  generalize x.e = e1 at *
  generalize y.neg = n2 at *
  generalize y.e = e2 at *
  clear HD
  obtain ⟨W, hW, kW, B0, B1⟩ := Dg.box_nn w (.bool n1) (.slice A l c) (.int .i64 e1) (.bool n2) (.slice A2 l2 c2) (.int .i64 e2)
  have HW := Lib.hid hW
  have HK := Lib.hid kW
  have HB0 := Lib.hid B0
  have HB1' := Lib.hid B1
  clear hW kW B0 B1
  by_cases h1 : sx < sy
  · rw [if_pos h1] at hsz
    subst hsz
    have d1 : decide (sx < sy) = true := by simp [h1]
    have d0 : (sx != sy) = true := by simp; omega
    clear h1
    go_enter Tryd.func38, Tryd.ntmps38
    go_wp2_with fail
    rw [← HW.out]
    refine region_lin (m := 14) (V := VL [
        (fun v _ => v = (.pointer (some ⟨w.heap.size, 1, none⟩))),
        (fun v _ => v = (.slice A l c)),
        (fun v _ => v = (.int .i64 bx)),
        (fun v _ => v = (.pointer (some ⟨w.heap.size, 2, none⟩))),
        (fun v _ => v = (.int .i64 e1)),
        (fun v _ => v = (.int .i64 sx)),
        (fun v _ => v = (.pointer (some ⟨w.heap.size + 1, 1, none⟩))),
        (fun v _ => v = (.slice A2 l2 c2)),
        (fun v _ => v = (.int .i64 bY)),
        (fun v _ => v = (.pointer (some ⟨w.heap.size + 1, 2, none⟩))),
        (fun v _ => v = (.int .i64 e2)),
        (fun v _ => v = (.int .i64 sy)),
        (fun v _ => v = (.int .i64 sx)),
        (fun v _ => v = (.int .i64 sy))])
      (by kernel_rfl) rfl (by kernel_rfl) (by kernel_rfl) (by kernel_rfl) (mono_of _ ⟨mono_eq _, mono_eq _, mono_eq _, mono_eq _, mono_eq _, mono_eq _, mono_eq _, mono_eq _, mono_eq _, mono_eq _, mono_eq _, mono_eq _, mono_eq _, mono_eq _, trivial⟩) (steps_of ⟨
        (fun aF wF F => by
      have s2 : aF.tmps.getD 2 undef = (.pointer (some ⟨w.heap.size, 0, none⟩)) := F.old 2 (by kernel_rfl)
      exact step_val (by simp [Region.wanted]) (by go_simp) rfl),
        (fun aF wF F => by
      have s8 : aF.tmps.getD 8 undef = (.pointer (some ⟨w.heap.size, 1, none⟩)) := F.done 0 8 (by kernel_rfl) rfl
      have c0 := cell_at HB0.out F.kept 1 _ rfl
      exact step_val (by simp [Region.wanted]) (by go_simp) rfl),
        (fun aF wF F => by
      have s9 : aF.tmps.getD 9 undef = (.slice A l c) := F.done 1 9 (by kernel_rfl) rfl
      exact step_good (by simp [Region.wanted]) (by go_simp) (H1.out _ (HK.out.trans F.kept)) (fun _ _ h => RetQ.good h) (fun _ _ h => h)),
        (fun aF wF F => by
      have s2 : aF.tmps.getD 2 undef = (.pointer (some ⟨w.heap.size, 0, none⟩)) := F.old 2 (by kernel_rfl)
      exact step_val (by simp [Region.wanted]) (by go_simp) rfl),
        (fun aF wF F => by
      have s11 : aF.tmps.getD 11 undef = (.pointer (some ⟨w.heap.size, 2, none⟩)) := F.done 3 11 (by kernel_rfl) rfl
      have c0 := cell_at HB0.out F.kept 2 _ rfl
      exact step_val (by simp [Region.wanted]) (by go_simp) rfl),
        (fun aF wF F => by
      have s10 : aF.tmps.getD 10 undef = (.int .i64 bx) := F.done 2 10 (by kernel_rfl) rfl
      have s12 : aF.tmps.getD 12 undef = (.int .i64 e1) := F.done 4 12 (by kernel_rfl) rfl
      exact step_val (by simp [Region.wanted]) (by have := HX.out; go_simp) rfl),
        (fun aF wF F => by
      have s3 : aF.tmps.getD 3 undef = (.pointer (some ⟨w.heap.size + 1, 0, none⟩)) := F.old 3 (by kernel_rfl)
      exact step_val (by simp [Region.wanted]) (by go_simp) rfl),
        (fun aF wF F => by
      have s14 : aF.tmps.getD 14 undef = (.pointer (some ⟨w.heap.size + 1, 1, none⟩)) := F.done 6 14 (by kernel_rfl) rfl
      have c0 := cell_at HB1'.out F.kept 1 _ rfl
      exact step_val (by simp [Region.wanted]) (by go_simp) rfl),
        (fun aF wF F => by
      have s15 : aF.tmps.getD 15 undef = (.slice A2 l2 c2) := F.done 7 15 (by kernel_rfl) rfl
      exact step_good (by simp [Region.wanted]) (by go_simp) (H2.out _ (HK.out.trans F.kept)) (fun _ _ h => RetQ.good h) (fun _ _ h => h)),
        (fun aF wF F => by
      have s3 : aF.tmps.getD 3 undef = (.pointer (some ⟨w.heap.size + 1, 0, none⟩)) := F.old 3 (by kernel_rfl)
      exact step_val (by simp [Region.wanted]) (by go_simp) rfl),
        (fun aF wF F => by
      have s17 : aF.tmps.getD 17 undef = (.pointer (some ⟨w.heap.size + 1, 2, none⟩)) := F.done 9 17 (by kernel_rfl) rfl
      have c0 := cell_at HB1'.out F.kept 2 _ rfl
      exact step_val (by simp [Region.wanted]) (by go_simp) rfl),
        (fun aF wF F => by
      have s16 : aF.tmps.getD 16 undef = (.int .i64 bY) := F.done 8 16 (by kernel_rfl) rfl
      have s18 : aF.tmps.getD 18 undef = (.int .i64 e2) := F.done 10 18 (by kernel_rfl) rfl
      exact step_val (by simp [Region.wanted]) (by have := HY.out; go_simp) rfl),
        (fun aF wF F => by
      have s13 : aF.tmps.getD 13 undef = (.int .i64 sx) := F.done 5 13 (by kernel_rfl) rfl
      exact step_val (by simp [Region.wanted]) (by go_simp) rfl),
        (fun aF wF F => by
      have s19 : aF.tmps.getD 19 undef = (.int .i64 sy) := F.done 11 19 (by kernel_rfl) rfl
      exact step_val (by simp [Region.wanted]) (by go_simp) rfl),
        trivial⟩) ?_
    intro u w1 k1 hu
    have e8 : u 0 = (.pointer (some ⟨w.heap.size, 1, none⟩)) := hu 0 (by decide)
    have e9 : u 1 = (.slice A l c) := hu 1 (by decide)
    have e10 : u 2 = (.int .i64 bx) := hu 2 (by decide)
    have e11 : u 3 = (.pointer (some ⟨w.heap.size, 2, none⟩)) := hu 3 (by decide)
    have e12 : u 4 = (.int .i64 e1) := hu 4 (by decide)
    have e13 : u 5 = (.int .i64 sx) := hu 5 (by decide)
    have e14 : u 6 = (.pointer (some ⟨w.heap.size + 1, 1, none⟩)) := hu 6 (by decide)
    have e15 : u 7 = (.slice A2 l2 c2) := hu 7 (by decide)
    have e16 : u 8 = (.int .i64 bY) := hu 8 (by decide)
    have e17 : u 9 = (.pointer (some ⟨w.heap.size + 1, 2, none⟩)) := hu 9 (by decide)
    have e18 : u 10 = (.int .i64 e2) := hu 10 (by decide)
    have e19 : u 11 = (.int .i64 sy) := hu 11 (by decide)
    have e5 : u 12 = (.int .i64 sx) := hu 12 (by decide)
    have e6 : u 13 = (.int .i64 sy) := hu 13 (by decide)
    clear hu
    simp only [puts, slotOf, if_true, Act.put, List.setIfInBounds_toArray, List.set_cons_zero, List.set_cons_succ, List.getElem?_toArray, List.getElem?_cons_zero, List.getElem?_cons_succ, Option.bind_some, e8, e9, e10, e11, e12, e13, e14, e15, e16, e17, e18, e19, e5, e6]
    clear e8 e9 e10 e11 e12 e13 e14 e15 e16 e17 e18 e19 e5 e6
    go_wp2_with fail
    go_ret
    exact ⟨rfl, HK.out.trans k1⟩
  · rw [if_neg h1] at hsz
    have d1 : decide (sx < sy) = false := by simp; omega
    by_cases h2 : sy < sx
    · rw [if_pos h2] at hsz
      subst hsz
      have d0 : (sx != sy) = true := by simp; omega
      clear h1 h2
      go_enter Tryd.func38, Tryd.ntmps38
      go_wp2_with fail
      rw [← HW.out]
      refine region_lin (m := 14) (V := VL [
          (fun v _ => v = (.pointer (some ⟨w.heap.size, 1, none⟩))),
          (fun v _ => v = (.slice A l c)),
          (fun v _ => v = (.int .i64 bx)),
          (fun v _ => v = (.pointer (some ⟨w.heap.size, 2, none⟩))),
          (fun v _ => v = (.int .i64 e1)),
          (fun v _ => v = (.int .i64 sx)),
          (fun v _ => v = (.pointer (some ⟨w.heap.size + 1, 1, none⟩))),
          (fun v _ => v = (.slice A2 l2 c2)),
          (fun v _ => v = (.int .i64 bY)),
          (fun v _ => v = (.pointer (some ⟨w.heap.size + 1, 2, none⟩))),
          (fun v _ => v = (.int .i64 e2)),
          (fun v _ => v = (.int .i64 sy)),
          (fun v _ => v = (.int .i64 sx)),
          (fun v _ => v = (.int .i64 sy))])
        (by kernel_rfl) rfl (by kernel_rfl) (by kernel_rfl) (by kernel_rfl) (mono_of _ ⟨mono_eq _, mono_eq _, mono_eq _, mono_eq _, mono_eq _, mono_eq _, mono_eq _, mono_eq _, mono_eq _, mono_eq _, mono_eq _, mono_eq _, mono_eq _, mono_eq _, trivial⟩) (steps_of ⟨
          (fun aF wF F => by
        have s2 : aF.tmps.getD 2 undef = (.pointer (some ⟨w.heap.size, 0, none⟩)) := F.old 2 (by kernel_rfl)
        exact step_val (by simp [Region.wanted]) (by go_simp) rfl),
          (fun aF wF F => by
        have s8 : aF.tmps.getD 8 undef = (.pointer (some ⟨w.heap.size, 1, none⟩)) := F.done 0 8 (by kernel_rfl) rfl
        have c0 := cell_at HB0.out F.kept 1 _ rfl
        exact step_val (by simp [Region.wanted]) (by go_simp) rfl),
          (fun aF wF F => by
        have s9 : aF.tmps.getD 9 undef = (.slice A l c) := F.done 1 9 (by kernel_rfl) rfl
        exact step_good (by simp [Region.wanted]) (by go_simp) (H1.out _ (HK.out.trans F.kept)) (fun _ _ h => RetQ.good h) (fun _ _ h => h)),
          (fun aF wF F => by
        have s2 : aF.tmps.getD 2 undef = (.pointer (some ⟨w.heap.size, 0, none⟩)) := F.old 2 (by kernel_rfl)
        exact step_val (by simp [Region.wanted]) (by go_simp) rfl),
          (fun aF wF F => by
        have s11 : aF.tmps.getD 11 undef = (.pointer (some ⟨w.heap.size, 2, none⟩)) := F.done 3 11 (by kernel_rfl) rfl
        have c0 := cell_at HB0.out F.kept 2 _ rfl
        exact step_val (by simp [Region.wanted]) (by go_simp) rfl),
          (fun aF wF F => by
        have s10 : aF.tmps.getD 10 undef = (.int .i64 bx) := F.done 2 10 (by kernel_rfl) rfl
        have s12 : aF.tmps.getD 12 undef = (.int .i64 e1) := F.done 4 12 (by kernel_rfl) rfl
        exact step_val (by simp [Region.wanted]) (by have := HX.out; go_simp) rfl),
          (fun aF wF F => by
        have s3 : aF.tmps.getD 3 undef = (.pointer (some ⟨w.heap.size + 1, 0, none⟩)) := F.old 3 (by kernel_rfl)
        exact step_val (by simp [Region.wanted]) (by go_simp) rfl),
          (fun aF wF F => by
        have s14 : aF.tmps.getD 14 undef = (.pointer (some ⟨w.heap.size + 1, 1, none⟩)) := F.done 6 14 (by kernel_rfl) rfl
        have c0 := cell_at HB1'.out F.kept 1 _ rfl
        exact step_val (by simp [Region.wanted]) (by go_simp) rfl),
          (fun aF wF F => by
        have s15 : aF.tmps.getD 15 undef = (.slice A2 l2 c2) := F.done 7 15 (by kernel_rfl) rfl
        exact step_good (by simp [Region.wanted]) (by go_simp) (H2.out _ (HK.out.trans F.kept)) (fun _ _ h => RetQ.good h) (fun _ _ h => h)),
          (fun aF wF F => by
        have s3 : aF.tmps.getD 3 undef = (.pointer (some ⟨w.heap.size + 1, 0, none⟩)) := F.old 3 (by kernel_rfl)
        exact step_val (by simp [Region.wanted]) (by go_simp) rfl),
          (fun aF wF F => by
        have s17 : aF.tmps.getD 17 undef = (.pointer (some ⟨w.heap.size + 1, 2, none⟩)) := F.done 9 17 (by kernel_rfl) rfl
        have c0 := cell_at HB1'.out F.kept 2 _ rfl
        exact step_val (by simp [Region.wanted]) (by go_simp) rfl),
          (fun aF wF F => by
        have s16 : aF.tmps.getD 16 undef = (.int .i64 bY) := F.done 8 16 (by kernel_rfl) rfl
        have s18 : aF.tmps.getD 18 undef = (.int .i64 e2) := F.done 10 18 (by kernel_rfl) rfl
        exact step_val (by simp [Region.wanted]) (by have := HY.out; go_simp) rfl),
          (fun aF wF F => by
        have s13 : aF.tmps.getD 13 undef = (.int .i64 sx) := F.done 5 13 (by kernel_rfl) rfl
        exact step_val (by simp [Region.wanted]) (by go_simp) rfl),
          (fun aF wF F => by
        have s19 : aF.tmps.getD 19 undef = (.int .i64 sy) := F.done 11 19 (by kernel_rfl) rfl
        exact step_val (by simp [Region.wanted]) (by go_simp) rfl),
          trivial⟩) ?_
      intro u w1 k1 hu
      have e8 : u 0 = (.pointer (some ⟨w.heap.size, 1, none⟩)) := hu 0 (by decide)
      have e9 : u 1 = (.slice A l c) := hu 1 (by decide)
      have e10 : u 2 = (.int .i64 bx) := hu 2 (by decide)
      have e11 : u 3 = (.pointer (some ⟨w.heap.size, 2, none⟩)) := hu 3 (by decide)
      have e12 : u 4 = (.int .i64 e1) := hu 4 (by decide)
      have e13 : u 5 = (.int .i64 sx) := hu 5 (by decide)
      have e14 : u 6 = (.pointer (some ⟨w.heap.size + 1, 1, none⟩)) := hu 6 (by decide)
      have e15 : u 7 = (.slice A2 l2 c2) := hu 7 (by decide)
      have e16 : u 8 = (.int .i64 bY) := hu 8 (by decide)
      have e17 : u 9 = (.pointer (some ⟨w.heap.size + 1, 2, none⟩)) := hu 9 (by decide)
      have e18 : u 10 = (.int .i64 e2) := hu 10 (by decide)
      have e19 : u 11 = (.int .i64 sy) := hu 11 (by decide)
      have e5 : u 12 = (.int .i64 sx) := hu 12 (by decide)
      have e6 : u 13 = (.int .i64 sy) := hu 13 (by decide)
      clear hu
      simp only [puts, slotOf, if_true, Act.put, List.setIfInBounds_toArray, List.set_cons_zero, List.set_cons_succ, List.getElem?_toArray, List.getElem?_cons_zero, List.getElem?_cons_succ, Option.bind_some, e8, e9, e10, e11, e12, e13, e14, e15, e16, e17, e18, e19, e5, e6]
      clear e8 e9 e10 e11 e12 e13 e14 e15 e16 e17 e18 e19 e5 e6
      go_wp2_with fail
      go_ret
      exact ⟨rfl, HK.out.trans k1⟩
    · rw [if_neg h2] at hsz
      subst hsz
      have d0 : (sx != sy) = false := by simp; omega
      clear h1 h2
      go_enter Tryd.func38, Tryd.ntmps38
      go_wp2_with fail
      rw [← HW.out]
      refine region_lin (m := 14) (V := VL [
          (fun v _ => v = (.pointer (some ⟨w.heap.size, 1, none⟩))),
          (fun v _ => v = (.slice A l c)),
          (fun v _ => v = (.int .i64 bx)),
          (fun v _ => v = (.pointer (some ⟨w.heap.size, 2, none⟩))),
          (fun v _ => v = (.int .i64 e1)),
          (fun v _ => v = (.int .i64 sx)),
          (fun v _ => v = (.pointer (some ⟨w.heap.size + 1, 1, none⟩))),
          (fun v _ => v = (.slice A2 l2 c2)),
          (fun v _ => v = (.int .i64 bY)),
          (fun v _ => v = (.pointer (some ⟨w.heap.size + 1, 2, none⟩))),
          (fun v _ => v = (.int .i64 e2)),
          (fun v _ => v = (.int .i64 sy)),
          (fun v _ => v = (.int .i64 sx)),
          (fun v _ => v = (.int .i64 sy))])
        (by kernel_rfl) rfl (by kernel_rfl) (by kernel_rfl) (by kernel_rfl) (mono_of _ ⟨mono_eq _, mono_eq _, mono_eq _, mono_eq _, mono_eq _, mono_eq _, mono_eq _, mono_eq _, mono_eq _, mono_eq _, mono_eq _, mono_eq _, mono_eq _, mono_eq _, trivial⟩) (steps_of ⟨
          (fun aF wF F => by
        have s2 : aF.tmps.getD 2 undef = (.pointer (some ⟨w.heap.size, 0, none⟩)) := F.old 2 (by kernel_rfl)
        exact step_val (by simp [Region.wanted]) (by go_simp) rfl),
          (fun aF wF F => by
        have s8 : aF.tmps.getD 8 undef = (.pointer (some ⟨w.heap.size, 1, none⟩)) := F.done 0 8 (by kernel_rfl) rfl
        have c0 := cell_at HB0.out F.kept 1 _ rfl
        exact step_val (by simp [Region.wanted]) (by go_simp) rfl),
          (fun aF wF F => by
        have s9 : aF.tmps.getD 9 undef = (.slice A l c) := F.done 1 9 (by kernel_rfl) rfl
        exact step_good (by simp [Region.wanted]) (by go_simp) (H1.out _ (HK.out.trans F.kept)) (fun _ _ h => RetQ.good h) (fun _ _ h => h)),
          (fun aF wF F => by
        have s2 : aF.tmps.getD 2 undef = (.pointer (some ⟨w.heap.size, 0, none⟩)) := F.old 2 (by kernel_rfl)
        exact step_val (by simp [Region.wanted]) (by go_simp) rfl),
          (fun aF wF F => by
        have s11 : aF.tmps.getD 11 undef = (.pointer (some ⟨w.heap.size, 2, none⟩)) := F.done 3 11 (by kernel_rfl) rfl
        have c0 := cell_at HB0.out F.kept 2 _ rfl
        exact step_val (by simp [Region.wanted]) (by go_simp) rfl),
          (fun aF wF F => by
        have s10 : aF.tmps.getD 10 undef = (.int .i64 bx) := F.done 2 10 (by kernel_rfl) rfl
        have s12 : aF.tmps.getD 12 undef = (.int .i64 e1) := F.done 4 12 (by kernel_rfl) rfl
        exact step_val (by simp [Region.wanted]) (by have := HX.out; go_simp) rfl),
          (fun aF wF F => by
        have s3 : aF.tmps.getD 3 undef = (.pointer (some ⟨w.heap.size + 1, 0, none⟩)) := F.old 3 (by kernel_rfl)
        exact step_val (by simp [Region.wanted]) (by go_simp) rfl),
          (fun aF wF F => by
        have s14 : aF.tmps.getD 14 undef = (.pointer (some ⟨w.heap.size + 1, 1, none⟩)) := F.done 6 14 (by kernel_rfl) rfl
        have c0 := cell_at HB1'.out F.kept 1 _ rfl
        exact step_val (by simp [Region.wanted]) (by go_simp) rfl),
          (fun aF wF F => by
        have s15 : aF.tmps.getD 15 undef = (.slice A2 l2 c2) := F.done 7 15 (by kernel_rfl) rfl
        exact step_good (by simp [Region.wanted]) (by go_simp) (H2.out _ (HK.out.trans F.kept)) (fun _ _ h => RetQ.good h) (fun _ _ h => h)),
          (fun aF wF F => by
        have s3 : aF.tmps.getD 3 undef = (.pointer (some ⟨w.heap.size + 1, 0, none⟩)) := F.old 3 (by kernel_rfl)
        exact step_val (by simp [Region.wanted]) (by go_simp) rfl),
          (fun aF wF F => by
        have s17 : aF.tmps.getD 17 undef = (.pointer (some ⟨w.heap.size + 1, 2, none⟩)) := F.done 9 17 (by kernel_rfl) rfl
        have c0 := cell_at HB1'.out F.kept 2 _ rfl
        exact step_val (by simp [Region.wanted]) (by go_simp) rfl),
          (fun aF wF F => by
        have s16 : aF.tmps.getD 16 undef = (.int .i64 bY) := F.done 8 16 (by kernel_rfl) rfl
        have s18 : aF.tmps.getD 18 undef = (.int .i64 e2) := F.done 10 18 (by kernel_rfl) rfl
        exact step_val (by simp [Region.wanted]) (by have := HY.out; go_simp) rfl),
          (fun aF wF F => by
        have s13 : aF.tmps.getD 13 undef = (.int .i64 sx) := F.done 5 13 (by kernel_rfl) rfl
        exact step_val (by simp [Region.wanted]) (by go_simp) rfl),
          (fun aF wF F => by
        have s19 : aF.tmps.getD 19 undef = (.int .i64 sy) := F.done 11 19 (by kernel_rfl) rfl
        exact step_val (by simp [Region.wanted]) (by go_simp) rfl),
          trivial⟩) ?_
      intro u w1 k1 hu
      have e8 : u 0 = (.pointer (some ⟨w.heap.size, 1, none⟩)) := hu 0 (by decide)
      have e9 : u 1 = (.slice A l c) := hu 1 (by decide)
      have e10 : u 2 = (.int .i64 bx) := hu 2 (by decide)
      have e11 : u 3 = (.pointer (some ⟨w.heap.size, 2, none⟩)) := hu 3 (by decide)
      have e12 : u 4 = (.int .i64 e1) := hu 4 (by decide)
      have e13 : u 5 = (.int .i64 sx) := hu 5 (by decide)
      have e14 : u 6 = (.pointer (some ⟨w.heap.size + 1, 1, none⟩)) := hu 6 (by decide)
      have e15 : u 7 = (.slice A2 l2 c2) := hu 7 (by decide)
      have e16 : u 8 = (.int .i64 bY) := hu 8 (by decide)
      have e17 : u 9 = (.pointer (some ⟨w.heap.size + 1, 2, none⟩)) := hu 9 (by decide)
      have e18 : u 10 = (.int .i64 e2) := hu 10 (by decide)
      have e19 : u 11 = (.int .i64 sy) := hu 11 (by decide)
      have e5 : u 12 = (.int .i64 sx) := hu 12 (by decide)
      have e6 : u 13 = (.int .i64 sy) := hu 13 (by decide)
      clear hu
      simp only [puts, slotOf, if_true, Act.put, List.setIfInBounds_toArray, List.set_cons_zero, List.set_cons_succ, List.getElem?_toArray, List.getElem?_cons_zero, List.getElem?_cons_succ, Option.bind_some, e8, e9, e10, e11, e12, e13, e14, e15, e16, e17, e18, e19, e5, e6]
      clear e8 e9 e10 e11 e12 e13 e14 e15 e16 e17 e18 e19 e5 e6
      obtain ⟨-, a0, a1, a2, -⟩ := (HB0.out.kept k1).facts
      obtain ⟨-, b0, b1, b2, -⟩ := (HB1'.out.kept k1).facts
      go_wp2_with fail
      rw [HL.out]
      have K1 := Lib.hid k1
      clear a0 a1 a2 b0 b1 b2 k1 hwx hwy d1 d0
      refine region_lin (m := 16) (V := VL [
          (fun v _ => v = (.pointer (some ⟨w.heap.size, 1, none⟩))),
          (fun v _ => v = (.slice A l c)),
          (fun v _ => v = (.pointer (some ⟨w.heap.size, 2, none⟩))),
          (fun v _ => v = (.int .i64 e1)),
          (fun v _ => v = (.int .i64 lo)),
          (fun v _ => v = (.int .i64 j1)),
          (fun v wv => Dg.Lim wv v xs),
          (fun v _ => v = (.pointer (some ⟨w.heap.size + 1, 1, none⟩))),
          (fun v _ => v = (.slice A2 l2 c2)),
          (fun v _ => v = (.pointer (some ⟨w.heap.size + 1, 2, none⟩))),
          (fun v _ => v = (.int .i64 e2)),
          (fun v _ => v = (.int .i64 lo)),
          (fun v _ => v = (.int .i64 j2)),
          (fun v wv => Dg.Lim wv v ys),
          (fun v _ => v = (.int .i64 res)),
          (fun v _ => v = (.int .i64 res))])
        (by kernel_rfl) rfl (by kernel_rfl) (by kernel_rfl) (by kernel_rfl) (mono_of _ ⟨mono_eq _, mono_eq _, mono_eq _, mono_eq _, mono_eq _, mono_eq _, fun v w w' k h => by first | exact h | exact h.kept k | exact ⟨h.1, h.2.kept k⟩, mono_eq _, mono_eq _, mono_eq _, mono_eq _, mono_eq _, mono_eq _, fun v w w' k h => by first | exact h | exact h.kept k | exact ⟨h.1, h.2.kept k⟩, mono_eq _, mono_eq _, trivial⟩) (steps_of ⟨
          (fun aF wF F => by
        have s2 : aF.tmps.getD 2 undef = (.pointer (some ⟨w.heap.size, 0, none⟩)) := F.old 2 (by kernel_rfl)
        exact step_val (by simp [Region.wanted]) (by go_simp) rfl),
          (fun aF wF F => by
        have s31 : aF.tmps.getD 31 undef = (.pointer (some ⟨w.heap.size, 1, none⟩)) := F.done 0 31 (by kernel_rfl) rfl
        have c0 := cell_at (HB0.out.kept K1.out) F.kept 1 _ rfl
        exact step_val (by simp [Region.wanted]) (by go_simp) rfl),
          (fun aF wF F => by
        have s2 : aF.tmps.getD 2 undef = (.pointer (some ⟨w.heap.size, 0, none⟩)) := F.old 2 (by kernel_rfl)
        exact step_val (by simp [Region.wanted]) (by go_simp) rfl),
          (fun aF wF F => by
        have s33 : aF.tmps.getD 33 undef = (.pointer (some ⟨w.heap.size, 2, none⟩)) := F.done 2 33 (by kernel_rfl) rfl
        have c0 := cell_at (HB0.out.kept K1.out) F.kept 2 _ rfl
        exact step_val (by simp [Region.wanted]) (by go_simp) rfl),
          (fun aF wF F => by
        have s7 : aF.tmps.getD 7 undef = (.int .i64 lo) := F.old 7 (by kernel_rfl)
        exact step_val (by simp [Region.wanted]) (by go_simp) rfl),
          (fun aF wF F => by
        have s34 : aF.tmps.getD 34 undef = (.int .i64 e1) := F.done 3 34 (by kernel_rfl) rfl
        have s35 : aF.tmps.getD 35 undef = (.int .i64 lo) := F.done 4 35 (by kernel_rfl) rfl
        exact step_val (by simp [Region.wanted]) (by go_simp) rfl),
          (fun aF wF F => by
        have s32 : aF.tmps.getD 32 undef = (.slice A l c) := F.done 1 32 (by kernel_rfl) rfl
        have s36 : aF.tmps.getD 36 undef = (.int .i64 j1) := F.done 5 36 (by kernel_rfl) rfl
        exact step_good (by simp [Region.wanted]) (by go_simp) (L1.out _ (HK.out.trans (K1.out.trans F.kept))) (fun _ _ h => Dg.RetLim.good h) (fun _ _ h => h)),
          (fun aF wF F => by
        have s3 : aF.tmps.getD 3 undef = (.pointer (some ⟨w.heap.size + 1, 0, none⟩)) := F.old 3 (by kernel_rfl)
        exact step_val (by simp [Region.wanted]) (by go_simp) rfl),
          (fun aF wF F => by
        have s38 : aF.tmps.getD 38 undef = (.pointer (some ⟨w.heap.size + 1, 1, none⟩)) := F.done 7 38 (by kernel_rfl) rfl
        have c0 := cell_at (HB1'.out.kept K1.out) F.kept 1 _ rfl
        exact step_val (by simp [Region.wanted]) (by go_simp) rfl),
          (fun aF wF F => by
        have s3 : aF.tmps.getD 3 undef = (.pointer (some ⟨w.heap.size + 1, 0, none⟩)) := F.old 3 (by kernel_rfl)
        exact step_val (by simp [Region.wanted]) (by go_simp) rfl),
          (fun aF wF F => by
        have s40 : aF.tmps.getD 40 undef = (.pointer (some ⟨w.heap.size + 1, 2, none⟩)) := F.done 9 40 (by kernel_rfl) rfl
        have c0 := cell_at (HB1'.out.kept K1.out) F.kept 2 _ rfl
        exact step_val (by simp [Region.wanted]) (by go_simp) rfl),
          (fun aF wF F => by
        have s7 : aF.tmps.getD 7 undef = (.int .i64 lo) := F.old 7 (by kernel_rfl)
        exact step_val (by simp [Region.wanted]) (by go_simp) rfl),
          (fun aF wF F => by
        have s41 : aF.tmps.getD 41 undef = (.int .i64 e2) := F.done 10 41 (by kernel_rfl) rfl
        have s42 : aF.tmps.getD 42 undef = (.int .i64 lo) := F.done 11 42 (by kernel_rfl) rfl
        exact step_val (by simp [Region.wanted]) (by go_simp) rfl),
          (fun aF wF F => by
        have s39 : aF.tmps.getD 39 undef = (.slice A2 l2 c2) := F.done 8 39 (by kernel_rfl) rfl
        have s43 : aF.tmps.getD 43 undef = (.int .i64 j2) := F.done 12 43 (by kernel_rfl) rfl
        exact step_good (by simp [Region.wanted]) (by go_simp) (L2.out _ (HK.out.trans (K1.out.trans F.kept))) (fun _ _ h => Dg.RetLim.good h) (fun _ _ h => h)),
          (fun aF wF F => by
        have s37 : (fun v wv => Dg.Lim wv v xs) (aF.tmps.getD 37 undef) wF := F.done 6 37 (by kernel_rfl) rfl
        have s44 : (fun v wv => Dg.Lim wv v ys) (aF.tmps.getD 44 undef) wF := F.done 13 44 (by kernel_rfl) rfl
        exact step_good (by simp [Region.wanted]) (by go_simp) (HO.out _ _ _ s37 s44) (fun _ _ h => RetQ.good h) (fun _ _ h => h)),
          (fun aF wF F => by
        have s45 : aF.tmps.getD 45 undef = (.int .i64 res) := F.done 14 45 (by kernel_rfl) rfl
        exact step_val (by simp [Region.wanted]) (by go_simp) rfl),
          trivial⟩) ?_
      intro u w1 k1 hu
      have e31 : u 0 = (.pointer (some ⟨w.heap.size, 1, none⟩)) := hu 0 (by decide)
      have e32 : u 1 = (.slice A l c) := hu 1 (by decide)
      have e33 : u 2 = (.pointer (some ⟨w.heap.size, 2, none⟩)) := hu 2 (by decide)
      have e34 : u 3 = (.int .i64 e1) := hu 3 (by decide)
      have e35 : u 4 = (.int .i64 lo) := hu 4 (by decide)
      have e36 : u 5 = (.int .i64 j1) := hu 5 (by decide)
      have p37 := hu 6 (by decide)
      have e38 : u 7 = (.pointer (some ⟨w.heap.size + 1, 1, none⟩)) := hu 7 (by decide)
      have e39 : u 8 = (.slice A2 l2 c2) := hu 8 (by decide)
      have e40 : u 9 = (.pointer (some ⟨w.heap.size + 1, 2, none⟩)) := hu 9 (by decide)
      have e41 : u 10 = (.int .i64 e2) := hu 10 (by decide)
      have e42 : u 11 = (.int .i64 lo) := hu 11 (by decide)
      have e43 : u 12 = (.int .i64 j2) := hu 12 (by decide)
      have p44 := hu 13 (by decide)
      have e45 : u 14 = (.int .i64 res) := hu 14 (by decide)
      have e4 : u 15 = (.int .i64 res) := hu 15 (by decide)
      clear hu
      simp only [puts, slotOf, if_true, Act.put, List.setIfInBounds_toArray, List.set_cons_zero, List.set_cons_succ, List.getElem?_toArray, List.getElem?_cons_zero, List.getElem?_cons_succ, Option.bind_some, e31, e32, e33, e34, e35, e36, e38, e39, e40, e41, e42, e43, e45, e4]
      clear e31 e32 e33 e34 e35 e36 e38 e39 e40 e41 e42 e43 e45 e4
      generalize u 6 = v37 at *
      try simp only [VL, List.getD_cons_zero, List.getD_cons_succ] at p37
      generalize u 13 = v44 at *
      try simp only [VL, List.getD_cons_zero, List.getD_cons_succ] at p44
      clear p37 p44
      go_wp2_with fail
      go_ret
      exact ⟨rfl, HK.out.trans (K1.out.trans k1)⟩

set_option maxHeartbeats 2000000 in
set_option maxRecDepth 100000 in
theorem qcmp_c {w : World} {va vb : Value} {x y : Dy} (ha : DyR w va x.raw) (hb : DyR w vb y.raw) (hx : x.Ok) (hy : y.Ok) :
    Calls Tryd.prog 10 #[va, vb] w (RetK (.int .i64 (cmpQ x.q y.q)) w) := by
  have lx := dy_len hx
  have ly := dy_len hy
  have s1 := fun w1 (k : Kept w w1) => qsign_c (ha.kept k) (by omega)
  have s2 := fun w1 (k : Kept w w1) => qsign_c (hb.kept k) (by omega)
  have m1 := fun w1 (k : Kept w w1) => qmay_c (ha.kept k) (by omega)
  have m2 := fun w1 (k : Kept w w1) => qmay_c (hb.kept k) (by omega)
  have o1 := fun w1 (k : Kept w w1) => Dg.of_c (ha.kept k) (by omega)
  have o2 := fun w1 (k : Kept w w1) => Dg.of_c (hb.kept k) (by omega)
  have hsz := fun w1 v u (hv : Dg.DN w1 v x.neg x.m x.e) (hu : Dg.DN w1 u y.neg y.m y.e) (h1 : x.m ≠ 0) (h2 : y.m ≠ 0) => qsize_c hv hu hx hy h1 h2
  rw [show Go.Proofs.YtjdplcenniogdaaDoor.val x.raw.m = x.m from val_limbs _] at o1
  rw [show Go.Proofs.YtjdplcenniogdaaDoor.val y.raw.m = y.m from val_limbs _] at o2
  rw [sgnR_raw x hx] at s1
  rw [sgnR_raw y hy] at s2
  rw [hx.may] at m1
  rw [hy.may] at m2
  have g1 := @cmp_lt x y
  have g2 := @cmp_gt x y
  have g3 := @cmp_same x y
  have c1 := sg_cases x
  have c2 := sg_cases y
  have z1 : sg x ≠ 0 → x.m ≠ 0 := fun h h0 => h (by unfold sg; rw [if_pos h0])
  have z2 : sg y ≠ 0 → y.m ≠ 0 := fun h h0 => h (by unfold sg; rw [if_pos h0])
  have hsr : sizeD x y = -1 ∨ sizeD x y = 0 ∨ sizeD x y = 1 := by
    unfold sizeD cmpN
    split
    · exact .inl rfl
    · split
      · exact .inr (.inr rfl)
      · split
        · exact .inl rfl
        · split
          · exact .inr (.inl rfl)
          · exact .inr (.inr rfl)
  obtain ⟨A, l, c, rfl, -, ha, -, -⟩ := ha.shape
  obtain ⟨A2, l2, c2', rfl, -, hb, -, -⟩ := hb.shape
  have S1 := Lib.hid s1
  have S2 := Lib.hid s2
  have M1 := Lib.hid m1
  have M2 := Lib.hid m2
  have O1 := Lib.hid o1
  have O2 := Lib.hid o2
  have HZ := Lib.hid hsz
  have G1 := Lib.hid g1
  have G2 := Lib.hid g2
  have G3 := Lib.hid g3
  have Z1 := Lib.hid z1
  have Z2 := Lib.hid z2
  have C1 := Lib.hid c1
  have C2 := Lib.hid c2
  have HR := Lib.hid hsr
  clear s1 s2 m1 m2 o1 o2 hsz g1 g2 g3 z1 z2 c1 c2 hsr ha hb lx ly hx hy
  generalize cmpQ x.q y.q = res at *
  simp only [Dy.raw] at *
  generalize x.neg = n1 at *
  generalize x.e = e1 at *
  generalize y.neg = n2 at *
  generalize y.e = e2 at *
  generalize sizeD x y = zz at *
  generalize sg x = g at *
  generalize sg y = g' at *
  generalize x.m = nx at *
  generalize y.m = ny at *
  obtain ⟨W, hW, kW, B0, B1⟩ := boxes2 w (.bool n1) (.slice A l c) (.int .i64 e1) (.bool n2) (.slice A2 l2 c2') (.int .i64 e2)
  have HW := Lib.hid hW
  have HK := Lib.hid kW
  have HB0 := Lib.hid B0
  have HB1' := Lib.hid B1
  clear hW kW B0 B1
  by_cases h1 : g < g'
  · have hr := G1.out h1
    subst hr
    have d1 : (g != g') = true := by simp; omega
    have d2 : decide (g < g') = true := by simp [h1]
    clear h1
    go_enter Tryd.func10, Tryd.ntmps10
    go_upto_region 1 with fail
    rw [← HW.out]
    obtain ⟨-, a0, a1, a2, -⟩ := HB0.out.facts
    obtain ⟨-, b0, b1, b2, -⟩ := HB1'.out.facts
    go_wp2_with fail
    refine (M1.out _ HK.out).mono ?_
    rintro e w2 ⟨rfl, q⟩
    have KX := Lib.hid q
    clear a0 a1 a2 b0 b1 b2 q
    obtain ⟨-, a0, a1, a2, -⟩ := (HB0.out.kept KX.out).facts
    obtain ⟨-, b0, b1, b2, -⟩ := (HB1'.out.kept KX.out).facts
    simp only []
    go_wp2_with fail
    refine (M2.out _ (HK.out.trans KX.out)).mono ?_
    rintro e w3 ⟨rfl, q⟩
    replace KX := Lib.hid (KX.out.trans q)
    clear a0 a1 a2 b0 b1 b2 q
    simp only []
    go_wp2_with fail
    refine region_lin (m := 6) (V := VL [
        (fun v _ => v = (.agg #[.bool n1, .slice A l c, .int .i64 e1])),
        (fun v _ => v = (.int .i64 g)),
        (fun v _ => v = (.agg #[.bool n2, .slice A2 l2 c2', .int .i64 e2])),
        (fun v _ => v = (.int .i64 g')),
        (fun v _ => v = (.int .i64 g)),
        (fun v _ => v = (.int .i64 g'))])
      (by kernel_rfl) rfl (by kernel_rfl) (by kernel_rfl) (by kernel_rfl) (mono_of _ ⟨mono_eq _, mono_eq _, mono_eq _, mono_eq _, mono_eq _, mono_eq _, trivial⟩) (steps_of ⟨
        (fun aF wF F => by
      have s2 : aF.tmps.getD 2 undef = (.pointer (some ⟨w.heap.size, 0, none⟩)) := F.old 2 (by kernel_rfl)
      have c0 := cell_at (HB0.out.kept KX.out) F.kept 0 _ rfl
      have c1 := cell_at (HB0.out.kept KX.out) F.kept 1 _ rfl
      have c2 := cell_at (HB0.out.kept KX.out) F.kept 2 _ rfl
      exact step_val (by simp [Region.wanted]) (by go_simp) rfl),
        (fun aF wF F => by
      have s15 : aF.tmps.getD 15 undef = (.agg #[.bool n1, .slice A l c, .int .i64 e1]) := F.done 0 15 (by kernel_rfl) rfl
      exact step_good (by simp [Region.wanted]) (by go_simp) (S1.out _ (HK.out.trans (KX.out.trans F.kept))) (fun _ _ h => RetK.good h) (fun _ _ h => h)),
        (fun aF wF F => by
      have s3 : aF.tmps.getD 3 undef = (.pointer (some ⟨w.heap.size + 1, 0, none⟩)) := F.old 3 (by kernel_rfl)
      have c0 := cell_at (HB1'.out.kept KX.out) F.kept 0 _ rfl
      have c1 := cell_at (HB1'.out.kept KX.out) F.kept 1 _ rfl
      have c2 := cell_at (HB1'.out.kept KX.out) F.kept 2 _ rfl
      exact step_val (by simp [Region.wanted]) (by go_simp) rfl),
        (fun aF wF F => by
      have s17 : aF.tmps.getD 17 undef = (.agg #[.bool n2, .slice A2 l2 c2', .int .i64 e2]) := F.done 2 17 (by kernel_rfl) rfl
      exact step_good (by simp [Region.wanted]) (by go_simp) (S2.out _ (HK.out.trans (KX.out.trans F.kept))) (fun _ _ h => RetK.good h) (fun _ _ h => h)),
        (fun aF wF F => by
      have s16 : aF.tmps.getD 16 undef = (.int .i64 g) := F.done 1 16 (by kernel_rfl) rfl
      exact step_val (by simp [Region.wanted]) (by go_simp) rfl),
        (fun aF wF F => by
      have s18 : aF.tmps.getD 18 undef = (.int .i64 g') := F.done 3 18 (by kernel_rfl) rfl
      exact step_val (by simp [Region.wanted]) (by go_simp) rfl),
        trivial⟩) ?_
    intro u w1 k1 hu
    have e15 : u 0 = (.agg #[.bool n1, .slice A l c, .int .i64 e1]) := hu 0 (by decide)
    have e16 : u 1 = (.int .i64 g) := hu 1 (by decide)
    have e17 : u 2 = (.agg #[.bool n2, .slice A2 l2 c2', .int .i64 e2]) := hu 2 (by decide)
    have e18 : u 3 = (.int .i64 g') := hu 3 (by decide)
    have e5 : u 4 = (.int .i64 g) := hu 4 (by decide)
    have e6 : u 5 = (.int .i64 g') := hu 5 (by decide)
    clear hu
    simp only [puts, slotOf, if_true, Act.put, List.setIfInBounds_toArray, List.set_cons_zero, List.set_cons_succ, List.getElem?_toArray, List.getElem?_cons_zero, List.getElem?_cons_succ, Option.bind_some, e15, e16, e17, e18, e5, e6]
    clear e15 e16 e17 e18 e5 e6
    replace KX := Lib.hid (KX.out.trans k1)
    clear k1 u
    obtain ⟨-, a0, a1, a2, -⟩ := (HB0.out.kept KX.out).facts
    obtain ⟨-, b0, b1, b2, -⟩ := (HB1'.out.kept KX.out).facts
    go_wp2_with fail
    go_ret
    exact ⟨rfl, HK.out.trans KX.out⟩
  · have d2 : decide (g < g') = false := by simp; omega
    by_cases h2 : g = g'
    · have hr := G3.out h2
      obtain rfl := h2
      have d1 : (g != g) = false := by simp
      have d4 : decide (g < g) = false := by simp
      by_cases h3 : g = 0
      · rw [if_pos h3] at hr
        subst hr
        have d3 : (g == 0) = true := by rw [beq_iff_eq]; exact h3
        clear h1 h3
        go_enter Tryd.func10, Tryd.ntmps10
        go_upto_region 1 with fail
        rw [← HW.out]
        obtain ⟨-, a0, a1, a2, -⟩ := HB0.out.facts
        obtain ⟨-, b0, b1, b2, -⟩ := HB1'.out.facts
        go_wp2_with fail
        refine (M1.out _ HK.out).mono ?_
        rintro e w2 ⟨rfl, q⟩
        have KX := Lib.hid q
        clear a0 a1 a2 b0 b1 b2 q
        obtain ⟨-, a0, a1, a2, -⟩ := (HB0.out.kept KX.out).facts
        obtain ⟨-, b0, b1, b2, -⟩ := (HB1'.out.kept KX.out).facts
        simp only []
        go_wp2_with fail
        refine (M2.out _ (HK.out.trans KX.out)).mono ?_
        rintro e w3 ⟨rfl, q⟩
        replace KX := Lib.hid (KX.out.trans q)
        clear a0 a1 a2 b0 b1 b2 q
        simp only []
        go_wp2_with fail
        refine region_lin (m := 6) (V := VL [
            (fun v _ => v = (.agg #[.bool n1, .slice A l c, .int .i64 e1])),
            (fun v _ => v = (.int .i64 g)),
            (fun v _ => v = (.agg #[.bool n2, .slice A2 l2 c2', .int .i64 e2])),
            (fun v _ => v = (.int .i64 g)),
            (fun v _ => v = (.int .i64 g)),
            (fun v _ => v = (.int .i64 g))])
          (by kernel_rfl) rfl (by kernel_rfl) (by kernel_rfl) (by kernel_rfl) (mono_of _ ⟨mono_eq _, mono_eq _, mono_eq _, mono_eq _, mono_eq _, mono_eq _, trivial⟩) (steps_of ⟨
            (fun aF wF F => by
          have s2 : aF.tmps.getD 2 undef = (.pointer (some ⟨w.heap.size, 0, none⟩)) := F.old 2 (by kernel_rfl)
          have c0 := cell_at (HB0.out.kept KX.out) F.kept 0 _ rfl
          have c1 := cell_at (HB0.out.kept KX.out) F.kept 1 _ rfl
          have c2 := cell_at (HB0.out.kept KX.out) F.kept 2 _ rfl
          exact step_val (by simp [Region.wanted]) (by go_simp) rfl),
            (fun aF wF F => by
          have s15 : aF.tmps.getD 15 undef = (.agg #[.bool n1, .slice A l c, .int .i64 e1]) := F.done 0 15 (by kernel_rfl) rfl
          exact step_good (by simp [Region.wanted]) (by go_simp) (S1.out _ (HK.out.trans (KX.out.trans F.kept))) (fun _ _ h => RetK.good h) (fun _ _ h => h)),
            (fun aF wF F => by
          have s3 : aF.tmps.getD 3 undef = (.pointer (some ⟨w.heap.size + 1, 0, none⟩)) := F.old 3 (by kernel_rfl)
          have c0 := cell_at (HB1'.out.kept KX.out) F.kept 0 _ rfl
          have c1 := cell_at (HB1'.out.kept KX.out) F.kept 1 _ rfl
          have c2 := cell_at (HB1'.out.kept KX.out) F.kept 2 _ rfl
          exact step_val (by simp [Region.wanted]) (by go_simp) rfl),
            (fun aF wF F => by
          have s17 : aF.tmps.getD 17 undef = (.agg #[.bool n2, .slice A2 l2 c2', .int .i64 e2]) := F.done 2 17 (by kernel_rfl) rfl
          exact step_good (by simp [Region.wanted]) (by go_simp) (S2.out _ (HK.out.trans (KX.out.trans F.kept))) (fun _ _ h => RetK.good h) (fun _ _ h => h)),
            (fun aF wF F => by
          have s16 : aF.tmps.getD 16 undef = (.int .i64 g) := F.done 1 16 (by kernel_rfl) rfl
          exact step_val (by simp [Region.wanted]) (by go_simp) rfl),
            (fun aF wF F => by
          have s18 : aF.tmps.getD 18 undef = (.int .i64 g) := F.done 3 18 (by kernel_rfl) rfl
          exact step_val (by simp [Region.wanted]) (by go_simp) rfl),
            trivial⟩) ?_
        intro u w1 k1 hu
        have e15 : u 0 = (.agg #[.bool n1, .slice A l c, .int .i64 e1]) := hu 0 (by decide)
        have e16 : u 1 = (.int .i64 g) := hu 1 (by decide)
        have e17 : u 2 = (.agg #[.bool n2, .slice A2 l2 c2', .int .i64 e2]) := hu 2 (by decide)
        have e18 : u 3 = (.int .i64 g) := hu 3 (by decide)
        have e5 : u 4 = (.int .i64 g) := hu 4 (by decide)
        have e6 : u 5 = (.int .i64 g) := hu 5 (by decide)
        clear hu
        simp only [puts, slotOf, if_true, Act.put, List.setIfInBounds_toArray, List.set_cons_zero, List.set_cons_succ, List.getElem?_toArray, List.getElem?_cons_zero, List.getElem?_cons_succ, Option.bind_some, e15, e16, e17, e18, e5, e6]
        clear e15 e16 e17 e18 e5 e6
        replace KX := Lib.hid (KX.out.trans k1)
        clear k1 u
        obtain ⟨-, a0, a1, a2, -⟩ := (HB0.out.kept KX.out).facts
        obtain ⟨-, b0, b1, b2, -⟩ := (HB1'.out.kept KX.out).facts
        go_wp2_with fail
        go_ret
        exact ⟨rfl, HK.out.trans KX.out⟩
      · rw [if_neg h3] at hr
        subst hr
        have d3 : (g == 0) = false := by rw [beq_eq_false_iff_ne]; exact h3
        have hz := fun w1 v u hv hu => HZ.out w1 v u hv hu (Z1.out h3) (Z2.out h3)
        have hw : IntKind.i64.wrap (g * zz) = g * zz := by
          rcases C1.out with h | h | h <;> rcases HR.out with h' | h' | h' <;> rw [h, h'] <;> first | rfl | decide
        clear HZ
        have HZ := Lib.hid hz
        have HWW := Lib.hid hw
        clear h1 h3 hz hw
        go_enter Tryd.func10, Tryd.ntmps10
        go_upto_region 1 with fail
        rw [← HW.out]
        obtain ⟨-, a0, a1, a2, -⟩ := HB0.out.facts
        obtain ⟨-, b0, b1, b2, -⟩ := HB1'.out.facts
        go_wp2_with fail
        refine (M1.out _ HK.out).mono ?_
        rintro e w2 ⟨rfl, q⟩
        have KX := Lib.hid q
        clear a0 a1 a2 b0 b1 b2 q
        obtain ⟨-, a0, a1, a2, -⟩ := (HB0.out.kept KX.out).facts
        obtain ⟨-, b0, b1, b2, -⟩ := (HB1'.out.kept KX.out).facts
        simp only []
        go_wp2_with fail
        refine (M2.out _ (HK.out.trans KX.out)).mono ?_
        rintro e w3 ⟨rfl, q⟩
        replace KX := Lib.hid (KX.out.trans q)
        clear a0 a1 a2 b0 b1 b2 q
        simp only []
        go_wp2_with fail
        refine region_lin (m := 6) (V := VL [
            (fun v _ => v = (.agg #[.bool n1, .slice A l c, .int .i64 e1])),
            (fun v _ => v = (.int .i64 g)),
            (fun v _ => v = (.agg #[.bool n2, .slice A2 l2 c2', .int .i64 e2])),
            (fun v _ => v = (.int .i64 g)),
            (fun v _ => v = (.int .i64 g)),
            (fun v _ => v = (.int .i64 g))])
          (by kernel_rfl) rfl (by kernel_rfl) (by kernel_rfl) (by kernel_rfl) (mono_of _ ⟨mono_eq _, mono_eq _, mono_eq _, mono_eq _, mono_eq _, mono_eq _, trivial⟩) (steps_of ⟨
            (fun aF wF F => by
          have s2 : aF.tmps.getD 2 undef = (.pointer (some ⟨w.heap.size, 0, none⟩)) := F.old 2 (by kernel_rfl)
          have c0 := cell_at (HB0.out.kept KX.out) F.kept 0 _ rfl
          have c1 := cell_at (HB0.out.kept KX.out) F.kept 1 _ rfl
          have c2 := cell_at (HB0.out.kept KX.out) F.kept 2 _ rfl
          exact step_val (by simp [Region.wanted]) (by go_simp) rfl),
            (fun aF wF F => by
          have s15 : aF.tmps.getD 15 undef = (.agg #[.bool n1, .slice A l c, .int .i64 e1]) := F.done 0 15 (by kernel_rfl) rfl
          exact step_good (by simp [Region.wanted]) (by go_simp) (S1.out _ (HK.out.trans (KX.out.trans F.kept))) (fun _ _ h => RetK.good h) (fun _ _ h => h)),
            (fun aF wF F => by
          have s3 : aF.tmps.getD 3 undef = (.pointer (some ⟨w.heap.size + 1, 0, none⟩)) := F.old 3 (by kernel_rfl)
          have c0 := cell_at (HB1'.out.kept KX.out) F.kept 0 _ rfl
          have c1 := cell_at (HB1'.out.kept KX.out) F.kept 1 _ rfl
          have c2 := cell_at (HB1'.out.kept KX.out) F.kept 2 _ rfl
          exact step_val (by simp [Region.wanted]) (by go_simp) rfl),
            (fun aF wF F => by
          have s17 : aF.tmps.getD 17 undef = (.agg #[.bool n2, .slice A2 l2 c2', .int .i64 e2]) := F.done 2 17 (by kernel_rfl) rfl
          exact step_good (by simp [Region.wanted]) (by go_simp) (S2.out _ (HK.out.trans (KX.out.trans F.kept))) (fun _ _ h => RetK.good h) (fun _ _ h => h)),
            (fun aF wF F => by
          have s16 : aF.tmps.getD 16 undef = (.int .i64 g) := F.done 1 16 (by kernel_rfl) rfl
          exact step_val (by simp [Region.wanted]) (by go_simp) rfl),
            (fun aF wF F => by
          have s18 : aF.tmps.getD 18 undef = (.int .i64 g) := F.done 3 18 (by kernel_rfl) rfl
          exact step_val (by simp [Region.wanted]) (by go_simp) rfl),
            trivial⟩) ?_
        intro u w1 k1 hu
        have e15 : u 0 = (.agg #[.bool n1, .slice A l c, .int .i64 e1]) := hu 0 (by decide)
        have e16 : u 1 = (.int .i64 g) := hu 1 (by decide)
        have e17 : u 2 = (.agg #[.bool n2, .slice A2 l2 c2', .int .i64 e2]) := hu 2 (by decide)
        have e18 : u 3 = (.int .i64 g) := hu 3 (by decide)
        have e5 : u 4 = (.int .i64 g) := hu 4 (by decide)
        have e6 : u 5 = (.int .i64 g) := hu 5 (by decide)
        clear hu
        simp only [puts, slotOf, if_true, Act.put, List.setIfInBounds_toArray, List.set_cons_zero, List.set_cons_succ, List.getElem?_toArray, List.getElem?_cons_zero, List.getElem?_cons_succ, Option.bind_some, e15, e16, e17, e18, e5, e6]
        clear e15 e16 e17 e18 e5 e6
        replace KX := Lib.hid (KX.out.trans k1)
        clear k1 u
        obtain ⟨-, a0, a1, a2, -⟩ := (HB0.out.kept KX.out).facts
        obtain ⟨-, b0, b1, b2, -⟩ := (HB1'.out.kept KX.out).facts
        go_wp2_with fail
        clear a0 a1 a2 b0 b1 b2 d1 d2 d3 d4
        refine region_lin (m := 8) (V := VL [
            (fun v _ => v = .int .i64 g),
            (fun v _ => v = (.agg #[.bool n1, .slice A l c, .int .i64 e1])),
            (fun v wv => Dg.DN wv v n1 nx e1),
            (fun v _ => v = (.agg #[.bool n2, .slice A2 l2 c2', .int .i64 e2])),
            (fun v wv => Dg.DN wv v n2 ny e2),
            (fun v _ => v = (.int .i64 zz)),
            (fun v _ => v = (.int .i64 (g * zz))),
            (fun v _ => v = (.int .i64 (g * zz)))])
          (by kernel_rfl) rfl (by kernel_rfl) (by kernel_rfl) (by kernel_rfl) (mono_of _ ⟨mono_eq _, mono_eq _, fun v w w' k h => by first | exact h | exact h.kept k | exact ⟨h.1, h.2.kept k⟩, mono_eq _, fun v w w' k h => by first | exact h | exact h.kept k | exact ⟨h.1, h.2.kept k⟩, mono_eq _, mono_eq _, mono_eq _, trivial⟩) (steps_of ⟨
            (fun aF wF F => by
          have s5 : aF.tmps.getD 5 undef = .int .i64 g := F.old 5 (by kernel_rfl)
          exact step_val (by simp [Region.wanted]) (by go_simp) rfl),
            (fun aF wF F => by
          have s2 : aF.tmps.getD 2 undef = (.pointer (some ⟨w.heap.size, 0, none⟩)) := F.old 2 (by kernel_rfl)
          have c0 := cell_at (HB0.out.kept KX.out) F.kept 0 _ rfl
          have c1 := cell_at (HB0.out.kept KX.out) F.kept 1 _ rfl
          have c2 := cell_at (HB0.out.kept KX.out) F.kept 2 _ rfl
          exact step_val (by simp [Region.wanted]) (by go_simp) rfl),
            (fun aF wF F => by
          have s33 : aF.tmps.getD 33 undef = (.agg #[.bool n1, .slice A l c, .int .i64 e1]) := F.done 1 33 (by kernel_rfl) rfl
          exact step_good (by simp [Region.wanted]) (by go_simp) (O1.out _ (HK.out.trans (KX.out.trans F.kept))) (fun _ _ h => Dg.RetN.good h) (fun _ _ h => h)),
            (fun aF wF F => by
          have s3 : aF.tmps.getD 3 undef = (.pointer (some ⟨w.heap.size + 1, 0, none⟩)) := F.old 3 (by kernel_rfl)
          have c0 := cell_at (HB1'.out.kept KX.out) F.kept 0 _ rfl
          have c1 := cell_at (HB1'.out.kept KX.out) F.kept 1 _ rfl
          have c2 := cell_at (HB1'.out.kept KX.out) F.kept 2 _ rfl
          exact step_val (by simp [Region.wanted]) (by go_simp) rfl),
            (fun aF wF F => by
          have s35 : aF.tmps.getD 35 undef = (.agg #[.bool n2, .slice A2 l2 c2', .int .i64 e2]) := F.done 3 35 (by kernel_rfl) rfl
          exact step_good (by simp [Region.wanted]) (by go_simp) (O2.out _ (HK.out.trans (KX.out.trans F.kept))) (fun _ _ h => Dg.RetN.good h) (fun _ _ h => h)),
            (fun aF wF F => by
          have s34 : (fun v wv => Dg.DN wv v n1 nx e1) (aF.tmps.getD 34 undef) wF := F.done 2 34 (by kernel_rfl) rfl
          have s36 : (fun v wv => Dg.DN wv v n2 ny e2) (aF.tmps.getD 36 undef) wF := F.done 4 36 (by kernel_rfl) rfl
          exact step_good (by simp [Region.wanted]) (by go_simp) (HZ.out _ _ _ s34 s36) (fun _ _ h => RetK.good h) (fun _ _ h => h)),
            (fun aF wF F => by
          have s32 : aF.tmps.getD 32 undef = .int .i64 g := F.done 0 32 (by kernel_rfl) rfl
          have s37 : aF.tmps.getD 37 undef = (.int .i64 zz) := F.done 5 37 (by kernel_rfl) rfl
          exact step_val (by simp [Region.wanted]) (by (go_simp; exact HWW.out)) rfl),
            (fun aF wF F => by
          have s38 : aF.tmps.getD 38 undef = (.int .i64 (g * zz)) := F.done 6 38 (by kernel_rfl) rfl
          exact step_val (by simp [Region.wanted]) (by go_simp) rfl),
            trivial⟩) ?_
        intro u w1 k1 hu
        have e32 : u 0 = .int .i64 g := hu 0 (by decide)
        have e33 : u 1 = (.agg #[.bool n1, .slice A l c, .int .i64 e1]) := hu 1 (by decide)
        have p34 := hu 2 (by decide)
        have e35 : u 3 = (.agg #[.bool n2, .slice A2 l2 c2', .int .i64 e2]) := hu 3 (by decide)
        have p36 := hu 4 (by decide)
        have e37 : u 5 = (.int .i64 zz) := hu 5 (by decide)
        have e38 : u 6 = (.int .i64 (g * zz)) := hu 6 (by decide)
        have e4 : u 7 = (.int .i64 (g * zz)) := hu 7 (by decide)
        clear hu
        simp only [puts, slotOf, if_true, Act.put, List.setIfInBounds_toArray, List.set_cons_zero, List.set_cons_succ, List.getElem?_toArray, List.getElem?_cons_zero, List.getElem?_cons_succ, Option.bind_some, e32, e33, e35, e37, e38, e4]
        clear e32 e33 e35 e37 e38 e4
        generalize u 2 = v34 at *
        try simp only [VL, List.getD_cons_zero, List.getD_cons_succ] at p34
        generalize u 4 = v36 at *
        try simp only [VL, List.getD_cons_zero, List.getD_cons_succ] at p36
        clear p34 p36
        go_wp2_with fail
        go_ret
        exact ⟨rfl, HK.out.trans (KX.out.trans k1)⟩
    · have hr := G2.out (by omega)
      subst hr
      have d1 : (g != g') = true := by simp; omega
      have d3 : decide (g' < g) = true := by simp; omega
      clear h1 h2
      go_enter Tryd.func10, Tryd.ntmps10
      go_upto_region 1 with fail
      rw [← HW.out]
      obtain ⟨-, a0, a1, a2, -⟩ := HB0.out.facts
      obtain ⟨-, b0, b1, b2, -⟩ := HB1'.out.facts
      go_wp2_with fail
      refine (M1.out _ HK.out).mono ?_
      rintro e w2 ⟨rfl, q⟩
      have KX := Lib.hid q
      clear a0 a1 a2 b0 b1 b2 q
      obtain ⟨-, a0, a1, a2, -⟩ := (HB0.out.kept KX.out).facts
      obtain ⟨-, b0, b1, b2, -⟩ := (HB1'.out.kept KX.out).facts
      simp only []
      go_wp2_with fail
      refine (M2.out _ (HK.out.trans KX.out)).mono ?_
      rintro e w3 ⟨rfl, q⟩
      replace KX := Lib.hid (KX.out.trans q)
      clear a0 a1 a2 b0 b1 b2 q
      simp only []
      go_wp2_with fail
      refine region_lin (m := 6) (V := VL [
          (fun v _ => v = (.agg #[.bool n1, .slice A l c, .int .i64 e1])),
          (fun v _ => v = (.int .i64 g)),
          (fun v _ => v = (.agg #[.bool n2, .slice A2 l2 c2', .int .i64 e2])),
          (fun v _ => v = (.int .i64 g')),
          (fun v _ => v = (.int .i64 g)),
          (fun v _ => v = (.int .i64 g'))])
        (by kernel_rfl) rfl (by kernel_rfl) (by kernel_rfl) (by kernel_rfl) (mono_of _ ⟨mono_eq _, mono_eq _, mono_eq _, mono_eq _, mono_eq _, mono_eq _, trivial⟩) (steps_of ⟨
          (fun aF wF F => by
        have s2 : aF.tmps.getD 2 undef = (.pointer (some ⟨w.heap.size, 0, none⟩)) := F.old 2 (by kernel_rfl)
        have c0 := cell_at (HB0.out.kept KX.out) F.kept 0 _ rfl
        have c1 := cell_at (HB0.out.kept KX.out) F.kept 1 _ rfl
        have c2 := cell_at (HB0.out.kept KX.out) F.kept 2 _ rfl
        exact step_val (by simp [Region.wanted]) (by go_simp) rfl),
          (fun aF wF F => by
        have s15 : aF.tmps.getD 15 undef = (.agg #[.bool n1, .slice A l c, .int .i64 e1]) := F.done 0 15 (by kernel_rfl) rfl
        exact step_good (by simp [Region.wanted]) (by go_simp) (S1.out _ (HK.out.trans (KX.out.trans F.kept))) (fun _ _ h => RetK.good h) (fun _ _ h => h)),
          (fun aF wF F => by
        have s3 : aF.tmps.getD 3 undef = (.pointer (some ⟨w.heap.size + 1, 0, none⟩)) := F.old 3 (by kernel_rfl)
        have c0 := cell_at (HB1'.out.kept KX.out) F.kept 0 _ rfl
        have c1 := cell_at (HB1'.out.kept KX.out) F.kept 1 _ rfl
        have c2 := cell_at (HB1'.out.kept KX.out) F.kept 2 _ rfl
        exact step_val (by simp [Region.wanted]) (by go_simp) rfl),
          (fun aF wF F => by
        have s17 : aF.tmps.getD 17 undef = (.agg #[.bool n2, .slice A2 l2 c2', .int .i64 e2]) := F.done 2 17 (by kernel_rfl) rfl
        exact step_good (by simp [Region.wanted]) (by go_simp) (S2.out _ (HK.out.trans (KX.out.trans F.kept))) (fun _ _ h => RetK.good h) (fun _ _ h => h)),
          (fun aF wF F => by
        have s16 : aF.tmps.getD 16 undef = (.int .i64 g) := F.done 1 16 (by kernel_rfl) rfl
        exact step_val (by simp [Region.wanted]) (by go_simp) rfl),
          (fun aF wF F => by
        have s18 : aF.tmps.getD 18 undef = (.int .i64 g') := F.done 3 18 (by kernel_rfl) rfl
        exact step_val (by simp [Region.wanted]) (by go_simp) rfl),
          trivial⟩) ?_
      intro u w1 k1 hu
      have e15 : u 0 = (.agg #[.bool n1, .slice A l c, .int .i64 e1]) := hu 0 (by decide)
      have e16 : u 1 = (.int .i64 g) := hu 1 (by decide)
      have e17 : u 2 = (.agg #[.bool n2, .slice A2 l2 c2', .int .i64 e2]) := hu 2 (by decide)
      have e18 : u 3 = (.int .i64 g') := hu 3 (by decide)
      have e5 : u 4 = (.int .i64 g) := hu 4 (by decide)
      have e6 : u 5 = (.int .i64 g') := hu 5 (by decide)
      clear hu
      simp only [puts, slotOf, if_true, Act.put, List.setIfInBounds_toArray, List.set_cons_zero, List.set_cons_succ, List.getElem?_toArray, List.getElem?_cons_zero, List.getElem?_cons_succ, Option.bind_some, e15, e16, e17, e18, e5, e6]
      clear e15 e16 e17 e18 e5 e6
      replace KX := Lib.hid (KX.out.trans k1)
      clear k1 u
      obtain ⟨-, a0, a1, a2, -⟩ := (HB0.out.kept KX.out).facts
      obtain ⟨-, b0, b1, b2, -⟩ := (HB1'.out.kept KX.out).facts
      go_wp2_with fail
      go_ret
      exact ⟨rfl, HK.out.trans KX.out⟩

set_option maxHeartbeats 2000000 in
set_option maxRecDepth 100000 in
theorem q5may_c {w : World} {v : Value} {a : RawI} (hv : IvR w v a) (hl : a.lens 17592186044416) :
    Calls Tryd.prog 13 #[v] w (RetK (.bool (mayI a)) w) := by
  obtain ⟨A, l, c, A', l', c', rfl, h1, h2⟩ := ivR_split hv
  have M1 := Lib.hid (fun w1 (k : Kept w w1) => qmay_c (h1.kept k) hl.1)
  have M2 := Lib.hid (fun w1 (k : Kept w w1) => qmay_c (h2.kept k) hl.2)
  have hc : (mayD a.lo && mayD a.hi) = true → ∀ w1, Kept w w1 → Calls Tryd.prog 10 #[.agg #[.bool a.lo.neg, .slice A l c, .int .i64 a.lo.e], .agg #[.bool a.hi.neg, .slice A' l' c', .int .i64 a.hi.e]] w1 (RetK (.int .i64 (cmpQ a.lo.dy.q a.hi.dy.q)) w1) := by
    intro d w1 k
    simp only [Bool.and_eq_true] at d
    obtain ⟨e1, o1⟩ := mayD_clean (raw_small h1) d.1
    obtain ⟨e2, o2⟩ := mayD_clean (raw_small h2) d.2
    have g1 := h1.kept k
    have g2 := h2.kept k
    exact qcmp_c (x := a.lo.dy) (y := a.hi.dy) (by rw [e1]; exact g1) (by rw [e2]; exact g2) o1 o2
  unfold mayI
  have HC := Lib.hid hc
  clear hc h1 h2 hv hl
  generalize a.lo.neg = n1 at *
  generalize a.lo.e = e1 at *
  generalize a.hi.neg = n2 at *
  generalize a.hi.e = e2 at *
  generalize cmpQ a.lo.dy.q a.hi.dy.q = cc at *
  generalize mayD a.lo = b1 at *
  generalize mayD a.hi = b2 at *
  obtain ⟨b3, h3⟩ : ∃ b3, decide (cc ≤ 0) = b3 := ⟨_, rfl⟩
  rw [h3]
  have H3 := Lib.hid h3
  clear h3
  obtain ⟨W, hW, kW, BI⟩ := box1i w (.bool n1) (.slice A l c) (.int .i64 e1) (.bool n2) (.slice A' l' c') (.int .i64 e2)
  have HW := Lib.hid hW
  have K := Lib.hid kW
  have HB := Lib.hid BI
  clear hW kW BI
  go_enter Tryd.func13, Tryd.ntmps13
  go_upto_region 1 with fail
  rw [← HW.out]
  refine region_seq (m := 17) (V := VL [
      (fun v _ => v = (.pointer (some ⟨w.heap.size, 0, none⟩))),
      (fun v _ => v = (.agg #[.bool n1, .slice A l c, .int .i64 e1])),
      (fun v _ => v = (.bool b1)),
      (fun v _ => v = (.bool b1)),
      (fun v wv => (b1 = true → (fun v _ => v = (.pointer (some ⟨w.heap.size, 3, none⟩))) v wv) ∧ (b1 = false → v = undef)),
      (fun v wv => (b1 = true → (fun v _ => v = (.agg #[.bool n2, .slice A' l' c', .int .i64 e2])) v wv) ∧ (b1 = false → v = undef)),
      (fun v wv => (b1 = true → (fun v _ => v = (.bool b2)) v wv) ∧ (b1 = false → v = undef)),
      (fun v _ => v = (.bool (b1 && b2))),
      (fun v _ => v = (.bool (b1 && b2))),
      (fun v wv => ((b1 && b2) = true → (fun v _ => v = (.pointer (some ⟨w.heap.size, 0, none⟩))) v wv) ∧ ((b1 && b2) = false → v = undef)),
      (fun v wv => ((b1 && b2) = true → (fun v _ => v = (.agg #[.bool n1, .slice A l c, .int .i64 e1])) v wv) ∧ ((b1 && b2) = false → v = undef)),
      (fun v wv => ((b1 && b2) = true → (fun v _ => v = (.pointer (some ⟨w.heap.size, 3, none⟩))) v wv) ∧ ((b1 && b2) = false → v = undef)),
      (fun v wv => ((b1 && b2) = true → (fun v _ => v = (.agg #[.bool n2, .slice A' l' c', .int .i64 e2])) v wv) ∧ ((b1 && b2) = false → v = undef)),
      (fun v wv => ((b1 && b2) = true → (fun v _ => v = (.int .i64 cc)) v wv) ∧ ((b1 && b2) = false → v = undef)),
      (fun v wv => ((b1 && b2) = true → (fun v _ => v = (.bool b3)) v wv) ∧ ((b1 && b2) = false → v = undef)),
      (fun v _ => v = (.bool (b1 && b2 && b3))),
      (fun v _ => v = (.bool (b1 && b2 && b3)))])
    rfl (by kernel_rfl) (by kernel_rfl) (by kernel_rfl) (mono_of _ ⟨mono_eq _, mono_eq _, mono_eq _, mono_eq _, fun v w w' k h => ⟨fun hC => (fun v w w' k h => by first | exact h | exact h.kept k | exact ⟨h.1, h.2.kept k⟩) v w w' k (h.1 hC), h.2⟩, fun v w w' k h => ⟨fun hC => (fun v w w' k h => by first | exact h | exact h.kept k | exact ⟨h.1, h.2.kept k⟩) v w w' k (h.1 hC), h.2⟩, fun v w w' k h => ⟨fun hC => (fun v w w' k h => by first | exact h | exact h.kept k | exact ⟨h.1, h.2.kept k⟩) v w w' k (h.1 hC), h.2⟩, mono_eq _, mono_eq _, fun v w w' k h => ⟨fun hC => (fun v w w' k h => by first | exact h | exact h.kept k | exact ⟨h.1, h.2.kept k⟩) v w w' k (h.1 hC), h.2⟩, fun v w w' k h => ⟨fun hC => (fun v w w' k h => by first | exact h | exact h.kept k | exact ⟨h.1, h.2.kept k⟩) v w w' k (h.1 hC), h.2⟩, fun v w w' k h => ⟨fun hC => (fun v w w' k h => by first | exact h | exact h.kept k | exact ⟨h.1, h.2.kept k⟩) v w w' k (h.1 hC), h.2⟩, fun v w w' k h => ⟨fun hC => (fun v w w' k h => by first | exact h | exact h.kept k | exact ⟨h.1, h.2.kept k⟩) v w w' k (h.1 hC), h.2⟩, fun v w w' k h => ⟨fun hC => (fun v w w' k h => by first | exact h | exact h.kept k | exact ⟨h.1, h.2.kept k⟩) v w w' k (h.1 hC), h.2⟩, fun v w w' k h => ⟨fun hC => (fun v w w' k h => by first | exact h | exact h.kept k | exact ⟨h.1, h.2.kept k⟩) v w w' k (h.1 hC), h.2⟩, mono_eq _, mono_eq _, trivial⟩) (steps_of ⟨
      (fun aF wF F => by
    have s1 : aF.tmps.getD 1 undef = (.pointer (some ⟨w.heap.size, 0, none⟩)) := F.old 1 (by kernel_rfl)
    exact step_val (by simp [Region.wanted]) (by go_simp) rfl),
      (fun aF wF F => by
    have s3 : aF.tmps.getD 3 undef = (.pointer (some ⟨w.heap.size, 0, none⟩)) := F.done 0 3 (by kernel_rfl) rfl
    have c0 := cell_at HB.out F.kept 0 _ rfl
    have c1 := cell_at HB.out F.kept 1 _ rfl
    have c2 := cell_at HB.out F.kept 2 _ rfl
    exact step_val (by simp [Region.wanted]) (by go_simp) rfl),
      (fun aF wF F => by
    have s4 : aF.tmps.getD 4 undef = (.agg #[.bool n1, .slice A l c, .int .i64 e1]) := F.done 1 4 (by kernel_rfl) rfl
    exact step_good (by simp [Region.wanted]) (by go_simp) (M1.out _ (K.out.trans F.kept)) (fun _ _ h => RetK.good h) (fun _ _ h => h)),
      (fun aF wF F => by
    have s5 : aF.tmps.getD 5 undef = (.bool b1) := F.done 2 5 (by kernel_rfl) rfl
    exact step_val (by simp [Region.wanted]) (by go_simp) rfl),
      (fun aF wF F => by
    have sg : aF.tmps.getD 6 undef = (.bool b1) := F.done 3 6 (by kernel_rfl) rfl
    have s1 : aF.tmps.getD 1 undef = (.pointer (some ⟨w.heap.size, 0, none⟩)) := F.old 1 (by kernel_rfl)
    rcases bools b1 with hC | hC
    · refine step_imp (V1 := fun _ => (fun v _ => v = (.pointer (some ⟨w.heap.size, 3, none⟩)))) ?_ (fun _ _ h => ⟨fun _ => h, fun hN => absurd (hC.symm.trans hN) (by decide)⟩)
      exact step_val ((wanted_guard rfl rfl sg).trans (by first | rfl | simp [hC])) (by go_simp) rfl
    · exact step_out ((wanted_guard rfl rfl sg).trans (by first | rfl | simp [hC])) ⟨fun h => absurd (hC.symm.trans h) (by decide), fun _ => rfl⟩),
      (fun aF wF F => by
    have sg : aF.tmps.getD 6 undef = (.bool b1) := F.done 3 6 (by kernel_rfl) rfl
    have s7 : (b1 = true → aF.tmps.getD 7 undef = (.pointer (some ⟨w.heap.size, 3, none⟩))) ∧ (b1 = false → aF.tmps.getD 7 undef = undef) := F.done 4 7 (by kernel_rfl) rfl
    have c0 := cell_at HB.out F.kept 3 _ rfl
    have c1 := cell_at HB.out F.kept 4 _ rfl
    have c2 := cell_at HB.out F.kept 5 _ rfl
    rcases bools b1 with hC | hC
    · refine step_imp (V1 := fun _ => (fun v _ => v = (.agg #[.bool n2, .slice A' l' c', .int .i64 e2]))) ?_ (fun _ _ h => ⟨fun _ => h, fun hN => absurd (hC.symm.trans hN) (by decide)⟩)
      replace s7 := s7.1 hC
      exact step_val ((wanted_guard rfl rfl sg).trans (by first | rfl | simp [hC])) (by go_simp) rfl
    · exact step_out ((wanted_guard rfl rfl sg).trans (by first | rfl | simp [hC])) ⟨fun h => absurd (hC.symm.trans h) (by decide), fun _ => rfl⟩),
      (fun aF wF F => by
    have sg : aF.tmps.getD 6 undef = (.bool b1) := F.done 3 6 (by kernel_rfl) rfl
    have s8 : (b1 = true → aF.tmps.getD 8 undef = (.agg #[.bool n2, .slice A' l' c', .int .i64 e2])) ∧ (b1 = false → aF.tmps.getD 8 undef = undef) := F.done 5 8 (by kernel_rfl) rfl
    rcases bools b1 with hC | hC
    · refine step_imp (V1 := fun _ => (fun v _ => v = (.bool b2))) ?_ (fun _ _ h => ⟨fun _ => h, fun hN => absurd (hC.symm.trans hN) (by decide)⟩)
      replace s8 := s8.1 hC
      exact step_good ((wanted_guard rfl rfl sg).trans (by first | rfl | simp [hC])) (by go_simp) (M2.out _ (K.out.trans F.kept)) (fun _ _ h => RetK.good h) (fun _ _ h => h)
    · exact step_out ((wanted_guard rfl rfl sg).trans (by first | rfl | simp [hC])) ⟨fun h => absurd (hC.symm.trans h) (by decide), fun _ => rfl⟩),
      (fun aF wF F => by
    have s6 : aF.tmps.getD 6 undef = (.bool b1) := F.done 3 6 (by kernel_rfl) rfl
    have s9 : (b1 = true → aF.tmps.getD 9 undef = (.bool b2)) ∧ (b1 = false → aF.tmps.getD 9 undef = undef) := F.done 6 9 (by kernel_rfl) rfl
    rcases bools b1 with hE | hE
    · replace s9 := s9.1 hE
      exact step_val (by simp [Region.wanted]) (by first | (go_simp; done) | (go_simp; simp_all; done) | (simp_all; done)) rfl
    · exact step_val (by simp [Region.wanted]) (by first | (go_simp; done) | (go_simp; simp_all; done) | (simp_all; done)) rfl),
      (fun aF wF F => by
    have s10 : aF.tmps.getD 10 undef = (.bool (b1 && b2)) := F.done 7 10 (by kernel_rfl) rfl
    exact step_val (by simp [Region.wanted]) (by go_simp) rfl),
      (fun aF wF F => by
    have sg : aF.tmps.getD 11 undef = (.bool (b1 && b2)) := F.done 8 11 (by kernel_rfl) rfl
    have s1 : aF.tmps.getD 1 undef = (.pointer (some ⟨w.heap.size, 0, none⟩)) := F.old 1 (by kernel_rfl)
    rcases bools (b1 && b2) with hC | hC
    · refine step_imp (V1 := fun _ => (fun v _ => v = (.pointer (some ⟨w.heap.size, 0, none⟩)))) ?_ (fun _ _ h => ⟨fun _ => h, fun hN => absurd (hC.symm.trans hN) (by decide)⟩)
      exact step_val ((wanted_guard rfl rfl sg).trans (by first | rfl | simp [hC])) (by go_simp) rfl
    · exact step_out ((wanted_guard rfl rfl sg).trans (by first | rfl | simp [hC])) ⟨fun h => absurd (hC.symm.trans h) (by decide), fun _ => rfl⟩),
      (fun aF wF F => by
    have sg : aF.tmps.getD 11 undef = (.bool (b1 && b2)) := F.done 8 11 (by kernel_rfl) rfl
    have s12 : ((b1 && b2) = true → aF.tmps.getD 12 undef = (.pointer (some ⟨w.heap.size, 0, none⟩))) ∧ ((b1 && b2) = false → aF.tmps.getD 12 undef = undef) := F.done 9 12 (by kernel_rfl) rfl
    have c0 := cell_at HB.out F.kept 0 _ rfl
    have c1 := cell_at HB.out F.kept 1 _ rfl
    have c2 := cell_at HB.out F.kept 2 _ rfl
    rcases bools (b1 && b2) with hC | hC
    · refine step_imp (V1 := fun _ => (fun v _ => v = (.agg #[.bool n1, .slice A l c, .int .i64 e1]))) ?_ (fun _ _ h => ⟨fun _ => h, fun hN => absurd (hC.symm.trans hN) (by decide)⟩)
      replace s12 := s12.1 hC
      exact step_val ((wanted_guard rfl rfl sg).trans (by first | rfl | simp [hC])) (by go_simp) rfl
    · exact step_out ((wanted_guard rfl rfl sg).trans (by first | rfl | simp [hC])) ⟨fun h => absurd (hC.symm.trans h) (by decide), fun _ => rfl⟩),
      (fun aF wF F => by
    have sg : aF.tmps.getD 11 undef = (.bool (b1 && b2)) := F.done 8 11 (by kernel_rfl) rfl
    have s1 : aF.tmps.getD 1 undef = (.pointer (some ⟨w.heap.size, 0, none⟩)) := F.old 1 (by kernel_rfl)
    rcases bools (b1 && b2) with hC | hC
    · refine step_imp (V1 := fun _ => (fun v _ => v = (.pointer (some ⟨w.heap.size, 3, none⟩)))) ?_ (fun _ _ h => ⟨fun _ => h, fun hN => absurd (hC.symm.trans hN) (by decide)⟩)
      exact step_val ((wanted_guard rfl rfl sg).trans (by first | rfl | simp [hC])) (by go_simp) rfl
    · exact step_out ((wanted_guard rfl rfl sg).trans (by first | rfl | simp [hC])) ⟨fun h => absurd (hC.symm.trans h) (by decide), fun _ => rfl⟩),
      (fun aF wF F => by
    have sg : aF.tmps.getD 11 undef = (.bool (b1 && b2)) := F.done 8 11 (by kernel_rfl) rfl
    have s14 : ((b1 && b2) = true → aF.tmps.getD 14 undef = (.pointer (some ⟨w.heap.size, 3, none⟩))) ∧ ((b1 && b2) = false → aF.tmps.getD 14 undef = undef) := F.done 11 14 (by kernel_rfl) rfl
    have c0 := cell_at HB.out F.kept 3 _ rfl
    have c1 := cell_at HB.out F.kept 4 _ rfl
    have c2 := cell_at HB.out F.kept 5 _ rfl
    rcases bools (b1 && b2) with hC | hC
    · refine step_imp (V1 := fun _ => (fun v _ => v = (.agg #[.bool n2, .slice A' l' c', .int .i64 e2]))) ?_ (fun _ _ h => ⟨fun _ => h, fun hN => absurd (hC.symm.trans hN) (by decide)⟩)
      replace s14 := s14.1 hC
      exact step_val ((wanted_guard rfl rfl sg).trans (by first | rfl | simp [hC])) (by go_simp) rfl
    · exact step_out ((wanted_guard rfl rfl sg).trans (by first | rfl | simp [hC])) ⟨fun h => absurd (hC.symm.trans h) (by decide), fun _ => rfl⟩),
      (fun aF wF F => by
    have sg : aF.tmps.getD 11 undef = (.bool (b1 && b2)) := F.done 8 11 (by kernel_rfl) rfl
    have s13 : ((b1 && b2) = true → aF.tmps.getD 13 undef = (.agg #[.bool n1, .slice A l c, .int .i64 e1])) ∧ ((b1 && b2) = false → aF.tmps.getD 13 undef = undef) := F.done 10 13 (by kernel_rfl) rfl
    have s15 : ((b1 && b2) = true → aF.tmps.getD 15 undef = (.agg #[.bool n2, .slice A' l' c', .int .i64 e2])) ∧ ((b1 && b2) = false → aF.tmps.getD 15 undef = undef) := F.done 12 15 (by kernel_rfl) rfl
    rcases bools (b1 && b2) with hC | hC
    · refine step_imp (V1 := fun _ => (fun v _ => v = (.int .i64 cc))) ?_ (fun _ _ h => ⟨fun _ => h, fun hN => absurd (hC.symm.trans hN) (by decide)⟩)
      replace s13 := s13.1 hC
      replace s15 := s15.1 hC
      exact step_good ((wanted_guard rfl rfl sg).trans (by first | rfl | simp [hC])) (by go_simp) (HC.out hC _ (K.out.trans F.kept)) (fun _ _ h => RetK.good h) (fun _ _ h => h)
    · exact step_out ((wanted_guard rfl rfl sg).trans (by first | rfl | simp [hC])) ⟨fun h => absurd (hC.symm.trans h) (by decide), fun _ => rfl⟩),
      (fun aF wF F => by
    have sg : aF.tmps.getD 11 undef = (.bool (b1 && b2)) := F.done 8 11 (by kernel_rfl) rfl
    have s16 : ((b1 && b2) = true → aF.tmps.getD 16 undef = (.int .i64 cc)) ∧ ((b1 && b2) = false → aF.tmps.getD 16 undef = undef) := F.done 13 16 (by kernel_rfl) rfl
    rcases bools (b1 && b2) with hC | hC
    · refine step_imp (V1 := fun _ => (fun v _ => v = (.bool b3))) ?_ (fun _ _ h => ⟨fun _ => h, fun hN => absurd (hC.symm.trans hN) (by decide)⟩)
      replace s16 := s16.1 hC
      exact step_val ((wanted_guard rfl rfl sg).trans (by first | rfl | simp [hC])) (by (go_simp; exact H3.out)) rfl
    · exact step_out ((wanted_guard rfl rfl sg).trans (by first | rfl | simp [hC])) ⟨fun h => absurd (hC.symm.trans h) (by decide), fun _ => rfl⟩),
      (fun aF wF F => by
    have s11 : aF.tmps.getD 11 undef = (.bool (b1 && b2)) := F.done 8 11 (by kernel_rfl) rfl
    have s17 : ((b1 && b2) = true → aF.tmps.getD 17 undef = (.bool b3)) ∧ ((b1 && b2) = false → aF.tmps.getD 17 undef = undef) := F.done 14 17 (by kernel_rfl) rfl
    rcases bools (b1 && b2) with hE | hE
    · replace s17 := s17.1 hE
      exact step_val (by simp [Region.wanted]) (by first | (go_simp; done) | (go_simp; simp_all; done) | (simp_all; done)) rfl
    · exact step_val (by simp [Region.wanted]) (by first | (go_simp; done) | (go_simp; simp_all; done) | (simp_all; done)) rfl),
      (fun aF wF F => by
    have s18 : aF.tmps.getD 18 undef = (.bool (b1 && b2 && b3)) := F.done 15 18 (by kernel_rfl) rfl
    exact step_val (by simp [Region.wanted]) (by go_simp) rfl),
      trivial⟩) ?_
  intro u w1 k1 hu
  have e3 : u 0 = (.pointer (some ⟨w.heap.size, 0, none⟩)) := hu 0 (by decide)
  have e4 : u 1 = (.agg #[.bool n1, .slice A l c, .int .i64 e1]) := hu 1 (by decide)
  have e5 : u 2 = (.bool b1) := hu 2 (by decide)
  have e6 : u 3 = (.bool b1) := hu 3 (by decide)
  have p7 := hu 4 (by decide)
  have p8 := hu 5 (by decide)
  have p9 := hu 6 (by decide)
  have e10 : u 7 = (.bool (b1 && b2)) := hu 7 (by decide)
  have e11 : u 8 = (.bool (b1 && b2)) := hu 8 (by decide)
  have p12 := hu 9 (by decide)
  have p13 := hu 10 (by decide)
  have p14 := hu 11 (by decide)
  have p15 := hu 12 (by decide)
  have p16 := hu 13 (by decide)
  have p17 := hu 14 (by decide)
  have e18 : u 15 = (.bool (b1 && b2 && b3)) := hu 15 (by decide)
  have e2 : u 16 = (.bool (b1 && b2 && b3)) := hu 16 (by decide)
  clear hu
  simp only [puts, slotOf, if_true, Act.put, List.setIfInBounds_toArray, List.set_cons_zero, List.set_cons_succ, List.getElem?_toArray, List.getElem?_cons_zero, List.getElem?_cons_succ, Option.bind_some, e3, e4, e5, e6, e10, e11, e18, e2]
  clear e3 e4 e5 e6 e10 e11 e18 e2
  generalize u 4 = v7 at *
  try simp only [VL, List.getD_cons_zero, List.getD_cons_succ] at p7
  generalize u 5 = v8 at *
  try simp only [VL, List.getD_cons_zero, List.getD_cons_succ] at p8
  generalize u 6 = v9 at *
  try simp only [VL, List.getD_cons_zero, List.getD_cons_succ] at p9
  generalize u 9 = v12 at *
  try simp only [VL, List.getD_cons_zero, List.getD_cons_succ] at p12
  generalize u 10 = v13 at *
  try simp only [VL, List.getD_cons_zero, List.getD_cons_succ] at p13
  generalize u 11 = v14 at *
  try simp only [VL, List.getD_cons_zero, List.getD_cons_succ] at p14
  generalize u 12 = v15 at *
  try simp only [VL, List.getD_cons_zero, List.getD_cons_succ] at p15
  generalize u 13 = v16 at *
  try simp only [VL, List.getD_cons_zero, List.getD_cons_succ] at p16
  generalize u 14 = v17 at *
  try simp only [VL, List.getD_cons_zero, List.getD_cons_succ] at p17
  clear p7 p8 p9 p12 p13 p14 p15 p16 p17
  go_wp2_with fail
  go_ret
  exact ⟨rfl, K.out.trans k1⟩




end Go.Proofs.YtjdplcenniogdaaDoor
