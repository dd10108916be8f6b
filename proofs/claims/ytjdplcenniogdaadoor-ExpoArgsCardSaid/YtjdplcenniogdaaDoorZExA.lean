/- Contracts: dyad.Shift; expo: sure, top, round. -/
import Derived.Test.YtjdplcenniogdaaDoorClaimTurnsp22
import Derived.Test.YtjdplcenniogdaaDoorClaimTurnsp23
import Derived.Test.YtjdplcenniogdaaDoorClaimTurnsp14
import Derived.Test.YtjdplcenniogdaaDoorClaimTurnsp28
import Derived.Test.YtjdplcenniogdaaDoorClaimTurnsp26
import Derived.Deep.CutBlock
namespace Go.Proofs.YtjdplcenniogdaaDoor
open Go.RowKit

set_option maxHeartbeats 2000000 in
set_option maxRecDepth 100000 in
theorem shift1_c {w : World} {b0 b1 : Nat} {d : Dy} {n : Int} {A : Option Addr} {l c : Nat} (hb : Blk w b0 (.bool d.neg) (.slice A l c) (.int .i64 d.e)) (hd : Lim w (.slice A l c) (limbs d.m)) (c1 : w.cell? ⟨b1, 0, none⟩ = some (.int .i64 n))
    (ok : d.Ok) (n1 : -2097152 ≤ n) (n2 : n ≤ 2097152) (hT : Tab w) :
    Calls Tryd.prog 124 #[.pointer (some ⟨b0, 0, none⟩), .pointer (some ⟨b1, 0, none⟩)] w (Goes 111 (shiftD d n).raw w) := by
  have hlen := hd.len
  have hdy : DyR w (.agg #[.bool d.neg, .slice A l c, .int .i64 d.e]) d.raw := hd.dyR (r := d.raw) (by show (-9223372036854775808 : Int) ≤ d.e; have := ok.lo; omega) (by show d.e ≤ 9223372036854775807; have := ok.hi; omega)
  have hm := fun w1 (k : Kept w w1) => mayT_c (hdy.kept k) ok
  have M := Lib.hid hm
  have HB := Lib.hid hb
  have HC := Lib.hid c1
  have hl1 := lt_of_cell c1
  simp only at hl1
  have e1 := ok.lo
  have e2 := ok.hi
  have hf := fun w1 (k : Kept w w1) => fit_c (neg := d.neg) (n := d.m) (e := d.e + n) (hd.kept k) (by have := dy_len ok; show (limbs d.m).length ≤ _; have h2 : (limbs d.m).length ≤ 64 := ok.len; omega) (by omega) (by omega) (hT.kept k)
  have F := Lib.hid hf
  have hwr : IntKind.i64.wrap (d.e + n) = d.e + n := by simp [IntKind.wrap_i64]; omega
  unfold shiftD
  by_cases h0 : d.m = 0
  · rw [if_pos h0]
    have hl0 : l = 0 := by rw [hlen, h0, limbs_zero]; rfl
    subst hl0
    have HD := Lib.hid hd
    clear hf hm hdy hb hd c1 hlen hT F hwr
    show Calls _ _ _ _ (Goes _ ⟨d.raw, 0⟩ w)
    have RR : Hid (d.raw = ⟨d.neg, limbs d.m, d.e⟩) := rfl
    rw [RR.out]
    clear RR ok h0
    generalize d.neg = n1 at *
    generalize d.e = e at *
    generalize limbs d.m = xs at *
    obtain ⟨hlt0, a0, a1, a2, -⟩ := HB.out.facts
    go_enter Tryd.func124, Tryd.ntmps124
    go_wp2_with fail
    refine (M.out _ (kept_alloc _ _)).mono ?_
    rintro _ w1 ⟨rfl, q⟩
    simp only []
    have KK := Lib.hid ((kept_alloc _ _).trans q)
    have B2 := Lib.hid ((blk_new _ _ _ _).kept q)
    clear q a0 a1 a2
    obtain ⟨-, a0, a1, a2, -⟩ := (HB.out.kept KK.out).facts
    go_wp2_with fail
    refine (must_c _ _ _).mono ?_
    rintro ee w2 ⟨he, rfl⟩
    obtain rfl : ee = .returned (.tuple #[]) := he
    simp only []
    obtain ⟨-, x0, x1, x2, f0, f1, f2⟩ := B2.out.facts
    go_wp2_with fail
    exact ret_dy (B2.out.laid _ _ _) rfl rfl rfl ⟨dyW_kept KK.out (Nat.le_refl _), .inl ⟨rfl, _, rfl, ((HD.out.kept KK.out).dyW B2.out (noLimb_bool _) (noLimb_slice _ _ _) (noLimb_i64 _)).dyR (r := ⟨n1, xs, e⟩) (by show (-9223372036854775808 : Int) ≤ e; omega) (by show e ≤ 9223372036854775807; omega)⟩⟩
  · rw [if_neg h0, if_neg (by omega)]
    have hl0 : ((l : Int) == 0) = false := by
      have := length_limbs_pos d.m h0
      rw [beq_eq_false_iff_ne, hlen]; omega
    have d1 : decide (n ≤ 2097152) = true := by simp; omega
    have d2 : decide (-2097152 ≤ n) = true := by simp; omega
    clear hf hm hdy hb hd c1 hlen hT ok h0
    generalize fitD d.neg d.m (d.e + n) = o at *
    generalize d.neg = n1 at *
    generalize d.e = e at *
    obtain ⟨hlt0, a0, a1, a2, -⟩ := HB.out.facts
    have hc1 := HC.out
    go_enter Tryd.func124, Tryd.ntmps124
    go_wp2_with fail
    refine (M.out _ (kept_alloc _ _)).mono ?_
    rintro _ w1 ⟨rfl, q⟩
    simp only []
    have KK := Lib.hid ((kept_alloc _ _).trans q)
    have B2 := Lib.hid ((blk_new _ _ _ _).kept q)
    clear q a0 a1 a2 hc1
    obtain ⟨-, a0, a1, a2, -⟩ := (HB.out.kept KK.out).facts
    have hc1 := cell_kept KK.out HC.out
    go_wp2_with fail
    refine (must_c _ _ _).mono ?_
    rintro ee w2 ⟨he, rfl⟩
    obtain rfl : ee = .returned (.tuple #[]) := he
    simp only []
    go_wp2_with fail
    refine (must_c _ _ _).mono ?_
    rintro ee w2 ⟨he, rfl⟩
    obtain rfl : ee = .returned (.tuple #[]) := he
    simp only []
    go_wp2_with fail
    refine (F.out _ KK.out).mono ?_
    rintro ee w3 ⟨qk, ⟨h0, u, rfl, hd⟩ | ⟨h0, rfl⟩⟩
    · obtain ⟨A', l', c', rfl, -, hd, g1, g2⟩ := hd.shape
      have b2 := B2.out.kept qk
      obtain ⟨-, x0, x1, x2, f0, f1, f2⟩ := b2.facts
      have HD := Lib.hid hd
      have HB2 := Lib.hid b2
      clear hd b2 a0 a1 a2 hc1
      simp only []
      go_wp2_with fail
      exact ret_dy (HB2.out.laid _ _ _) rfl rfl rfl ⟨dyW_kept (KK.out.trans qk) (Nat.le_refl _), .inl ⟨h0, _, rfl, (HD.out.dyW HB2.out (noLimb_bool _) (noLimb_slice _ _ _) (noLimb_i64 _)).dyR g1 g2⟩⟩
    · exact ⟨rfl, KK.out.trans qk, .inr ⟨h0, rfl⟩⟩

theorem blk_new2' (w : World) (o o' : Obj) (x y z : Value) : Blk (((w.alloc o).alloc o').alloc (.cells #[x, y, z] 24)) (w.heap.size + 1 + 1) x y z := by
  have := blk_new ((w.alloc o).alloc o') x y z
  simp only [World.size_alloc] at this
  exact this

set_option maxHeartbeats 2000000 in
set_option maxRecDepth 100000 in
theorem Shift_c {w : World} {v : Value} {d : Dy} {n : Int} (hv : DyR w v d.raw) (ok : d.Ok) (n1 : -2097152 ≤ n) (n2 : n ≤ 2097152) (hT : Tab w) :
    Calls Tryd.prog 113 #[v, .int .i64 n] w (RetE (shiftD d n).raw w) := by
  have hmf : ∀ (fn : Fn) (first cap : Array Value) (w : World), (Instr.makeFunc fn first cap).run Tryd.prog w = .ok (.func fn first cap) w := fun _ _ _ _ => rfl
  obtain ⟨A, l, c, rfl, -, hs, -, -⟩ := hv.shape
  have hf := fun (W : World) (k : Kept w W) (H : Nat) (c0 : Blk W H (.bool d.neg) (.slice A l c) (.int .i64 d.e)) (c1 : W.cell? ⟨H + 1, 0, none⟩ = some (.int .i64 n)) =>
    face_c (w := W) (K := 124) (cap := #[.pointer (some ⟨H, 0, none⟩), .pointer (some ⟨H + 1, 0, none⟩)])
      (fun W1 k1 => shift1_c (c0.kept k1) (hs.kept (k.trans k1)) (cell_kept k1 c1) ok n1 n2 (hT.kept (k.trans k1))) (fun h => by have := (shiftD_ok ok n).2 h; show ((shiftD d n).v).raw = rz; rw [this, dz_raw]) (fun _ => rfl)
  have HF := Lib.hid hf
  clear hf hv hs hT n1 n2
  show Calls _ _ #[.agg #[.bool d.neg, .slice A l c, .int .i64 d.e], _] _ _
  generalize (shiftD d n).raw = o at *
  generalize d.neg = n1 at *
  generalize d.e = e at *
  go_enter Tryd.func113, Tryd.ntmps113
  go_wp2_with fail
  refine (HF.out _ ?k _ ?c0 ?c1).mono ?m
  case k => exact ((kept_alloc _ _).trans (kept_alloc _ _)).trans (kept_alloc _ _)
  case c0 => exact ((blk_new _ _ _ _).kept (kept_alloc _ _)).kept (kept_alloc _ _)
  case c1 => exact cell_kept (kept_alloc _ _) (new1 _ _ _ _)
  case m =>
    rintro e w1 ⟨qk, u, rfl, hd⟩
    obtain ⟨A', l', c', rfl, -, hd, g1, g2⟩ := hd.shape
    have b0 := (blk_new2' _ _ _ _ _ _).kept qk
    obtain ⟨_, c0, c1, c2, f0, f1, f2⟩ := b0.facts
    have HD := Lib.hid hd
    clear hd
    simp only []
    go_wp2_with fail
    exact ret_dy2 (Blk.laid b0 _ _ _) rfl rfl rfl ⟨dyW_kept ((((kept_alloc _ _).trans (kept_alloc _ _)).trans (kept_alloc _ _)).trans qk) (by omega), _, rfl, (HD.out.dyW b0 (noLimb_bool _) (noLimb_slice _ _ _) (noLimb_i64 _)).dyR g1 g2⟩

/- expo. -/
set_option maxHeartbeats 2000000 in
set_option maxRecDepth 100000 in
theorem xsure_c {w : World} {v : Value} {r : Raw} {k : Int} (hv : DyR w v r) : Calls Tryd.prog 83 #[v, .int .i64 k] w (RetD r w) := by
  obtain ⟨A, l, c, rfl, -, hs, g1, g2⟩ := hv.shape
  obtain ⟨W, hW, kW, B0, BR⟩ := boxes1r w (.bool r.neg) (.slice A l c) (.int .i64 r.e)
  have HW := Lib.hid hW
  have K := Lib.hid kW
  have HS := Lib.hid hs
  have HB := Lib.hid BR
  obtain ⟨-, a0, a1, a2, -⟩ := B0.facts
  obtain ⟨-, x0, x1, x2, f0, f1, f2⟩ := BR.facts
  clear hW kW hs hv B0 BR
  go_enter Tryd.func83, Tryd.ntmps83
  go_upto_region 1 with fail
  rw [← HW.out]
  go_wp2_with fail
  exact ret_dy (HB.out.laid _ _ _) rfl rfl rfl ⟨dyW_kept K.out (by omega), _, rfl, ((HS.out.kept K.out).dyW HB.out (noLimb_bool _) (noLimb_slice _ _ _) (noLimb_i64 _)).dyR g1 g2⟩

def topD (d : Dy) : Int := bl d.m + d.e
/-- A number rounded to a side; an error gives nought. -/
def rndS (p : Nat) (up : Bool) (d : Dy) : Dy := (dirD d p up).v
theorem rndS_ok (p : Nat) (up : Bool) (d : Dy) : (rndS p up d).Ok := (dirD_ok d p up).1

set_option maxHeartbeats 2000000 in
set_option maxRecDepth 100000 in
theorem xtop_c {w : World} {v : Value} {d : Dy} (hv : DyR w v d.raw) (ok : d.Ok) : Calls Tryd.prog 111 #[v] w (RetK (.int .i64 (topD d)) w) := by
  obtain ⟨A, l, c, rfl, -, hs, -, -⟩ := hv.shape
  have hc := fun w1 (k : Kept w w1) => size_c (hs.kept k) (by have := ok.len; omega)
  have hb := bl_of_len d.m 64 ok.len
  have e1 := ok.lo
  have e2 := ok.hi
  have hw : IntKind.i64.wrap ((bl d.m : Int) + d.e) = topD d := by unfold topD; simp [IntKind.wrap_i64]; omega
  have C := Lib.hid hc
  have HX := Lib.hid hw
  clear hc hs hv hw hb e1 e2
  show Calls _ _ #[.agg #[.bool d.neg, .slice A l c, .int .i64 d.e]] _ _
  generalize topD d = t at *
  generalize bl d.m = m at *
  generalize d.neg = n1 at *
  generalize d.e = e at *
  go_enter Tryd.func111, Tryd.ntmps111
  go_wp2_with fail
  refine region_lin (m := 7) (V := VL [
      (fun v _ => v = (.pointer (some ⟨w.heap.size, 1, none⟩))),
      (fun v _ => v = (.slice A l c)),
      (fun v _ => v = (.int .i64 m)),
      (fun v _ => v = (.pointer (some ⟨w.heap.size, 2, none⟩))),
      (fun v _ => v = (.int .i64 e)),
      (fun v _ => v = (.int .i64 t)),
      (fun v _ => v = (.int .i64 t))])
    (by kernel_rfl) rfl (by kernel_rfl) (by kernel_rfl) (by kernel_rfl) (mono_of _ ⟨mono_eq _, mono_eq _, mono_eq _, mono_eq _, mono_eq _, mono_eq _, mono_eq _, trivial⟩) (steps_of ⟨
      (fun aF wF F => by
    have s1 : aF.tmps.getD 1 undef = (.pointer (some ⟨w.heap.size, 0, none⟩)) := F.old 1 (by kernel_rfl)
    exact step_val (by simp [Region.wanted]) (by go_simp) rfl),
      (fun aF wF F => by
    have s3 : aF.tmps.getD 3 undef = (.pointer (some ⟨w.heap.size, 1, none⟩)) := F.done 0 3 (by kernel_rfl) rfl
    have c0 := cell_at (blk_new w _ _ _) F.kept 1 _ rfl
    exact step_val (by simp [Region.wanted]) (by go_simp) rfl),
      (fun aF wF F => by
    have s4 : aF.tmps.getD 4 undef = (.slice A l c) := F.done 1 4 (by kernel_rfl) rfl
    exact step_good (by simp [Region.wanted]) (by go_simp) (C.out _ ((kept_alloc _ _).trans F.kept)) (fun _ _ h => RetQ.good h) (fun _ _ h => h)),
      (fun aF wF F => by
    have s1 : aF.tmps.getD 1 undef = (.pointer (some ⟨w.heap.size, 0, none⟩)) := F.old 1 (by kernel_rfl)
    exact step_val (by simp [Region.wanted]) (by go_simp) rfl),
      (fun aF wF F => by
    have s6 : aF.tmps.getD 6 undef = (.pointer (some ⟨w.heap.size, 2, none⟩)) := F.done 3 6 (by kernel_rfl) rfl
    have c0 := cell_at (blk_new w _ _ _) F.kept 2 _ rfl
    exact step_val (by simp [Region.wanted]) (by go_simp) rfl),
      (fun aF wF F => by
    have s5 : aF.tmps.getD 5 undef = (.int .i64 m) := F.done 2 5 (by kernel_rfl) rfl
    have s7 : aF.tmps.getD 7 undef = (.int .i64 e) := F.done 4 7 (by kernel_rfl) rfl
    exact step_val (by simp [Region.wanted]) (by (go_simp; exact HX.out)) rfl),
      (fun aF wF F => by
    have s8 : aF.tmps.getD 8 undef = (.int .i64 t) := F.done 5 8 (by kernel_rfl) rfl
    exact step_val (by simp [Region.wanted]) (by go_simp) rfl),
      trivial⟩) ?_
  intro u w1 k1 hu
  have e3 : u 0 = (.pointer (some ⟨w.heap.size, 1, none⟩)) := hu 0 (by decide)
  have e4 : u 1 = (.slice A l c) := hu 1 (by decide)
  have e5 : u 2 = (.int .i64 m) := hu 2 (by decide)
  have e6 : u 3 = (.pointer (some ⟨w.heap.size, 2, none⟩)) := hu 3 (by decide)
  have e7 : u 4 = (.int .i64 e) := hu 4 (by decide)
  have e8 : u 5 = (.int .i64 t) := hu 5 (by decide)
  have e2 : u 6 = (.int .i64 t) := hu 6 (by decide)
  clear hu
  simp only [puts, slotOf, if_true, Act.put, List.setIfInBounds_toArray, List.set_cons_zero, List.set_cons_succ, List.getElem?_toArray, List.getElem?_cons_zero, List.getElem?_cons_succ, Option.bind_some, e3, e4, e5, e6, e7, e8, e2]
  clear e3 e4 e5 e6 e7 e8 e2
  go_wp2_with fail
  go_ret
  exact ⟨rfl, (kept_alloc _ _).trans k1⟩

end Go.Proofs.YtjdplcenniogdaaDoor
