/- Contracts of package expo: Exp where the first round is enough, and where it tells an error; Over of what may not be. -/
import Derived.Test.YtjdplcenniogdaaDoorZExF
namespace Go.Proofs.YtjdplcenniogdaaDoor
open Go.RowKit

set_option maxHeartbeats 4000000 in
set_option maxRecDepth 100000 in
theorem xexpE_c {w : World} {v : Value} {r : Raw} {p : Int} {up : Bool} (hv : DyR w v r) (hl : r.m.length ≤ 17592186044416) (hT : Tab w) (h0 : mayX r p ≠ 0) :
    Calls Tryd.prog 11 #[v, .int .i64 p, .bool up] w (RetE ⟨rz, mayX r p⟩ w) := by
  have C := Lib.hid (fun w1 (k : Kept w w1) => xmay_c (p := p) (hv.kept k) hl (hT.kept k))
  obtain ⟨A, l, c, rfl, hs⟩ := rawR_split hv
  clear hv hs hl hT
  generalize mayX r p = k at *
  generalize r.neg = n1 at *
  generalize r.e = e1 at *
  have hk : (k != 0) = true := by simpa using h0
  clear h0
  obtain ⟨W, hW, kW, BA, BR⟩ := boxes1r w (.bool n1) (.slice A l c) (.int .i64 e1)
  have HW := Lib.hid hW
  have K := Lib.hid kW
  have HB := Lib.hid BR
  obtain ⟨-, a0, a1, a2, -⟩ := BA.facts
  clear hW kW BA BR
  go_enter Tryd.func11, Tryd.ntmps11
  go_upto_region 1 with fail
  rw [← HW.out]
  go_step3
  go_wp2_with fail
  refine (C.out _ K.out).mono ?_
  rintro ee w1 ⟨rfl, q⟩
  simp only []
  replace K := Lib.hid (K.out.trans q)
  replace HB := Lib.hid (HB.out.kept q)
  clear q a0 a1 a2
  obtain ⟨-, x0, x1, x2, f0, f1, f2⟩ := HB.out.facts
  go_wp2_with fail
  exact ret_dy2 (HB.out.laid _ _ _) rfl rfl rfl ⟨dyW_kept K.out (by omega), _, rfl, dyR_zero _⟩

set_option maxHeartbeats 4000000 in
set_option maxRecDepth 100000 in
theorem xexp0_c {w : World} {v : Value} {d : Dy} {p : Int} {up : Bool} (hv : DyR w v d.raw) (ok : d.Ok) (hT : Tab w) (h0 : mayX d.raw p = 0) (hz : d.m = 0) :
    Calls Tryd.prog 11 #[v, .int .i64 p, .bool up] w (RetE ⟨one.raw, 0⟩ w) := by
  have C := Lib.hid (fun w1 (k : Kept w w1) => xmay_c (p := p) (hv.kept k) (by have := dy_len ok; omega) (hT.kept k))
  rw [h0] at C
  have CO := Lib.hid (fun w1 (k : Kept w w1) => show Calls Tryd.prog 41 #[.int .i64 1, .int .i64 0] w1 (RetE ⟨one.raw, 0⟩ w1) by
    have h := Of_pos (w := w1) (k := 1) (e := 0) (by decide) (by decide) (by decide) (hT.kept k)
    rw [fit_1] at h
    exact h)
  obtain ⟨A, l, c, rfl, hl, -, -, -⟩ := hv.shape
  have hl0 : l = 0 := by rw [hl]; show (limbs d.m).length = 0; rw [hz, limbs_zero]; rfl
  subst hl0
  clear hv hl hT ok hz h0
  generalize d.raw.neg = n1 at *
  generalize d.raw.e = e1 at *
  obtain ⟨W, hW, kW, BA, BR⟩ := boxes1r w (.bool n1) (.slice A 0 c) (.int .i64 e1)
  have HW := Lib.hid hW
  have K := Lib.hid kW
  have HA := Lib.hid BA
  have HB := Lib.hid BR
  obtain ⟨-, a0, a1, a2, -⟩ := BA.facts
  clear hW kW BA BR
  go_enter Tryd.func11, Tryd.ntmps11
  go_upto_region 1 with fail
  rw [← HW.out]
  go_step3
  go_wp2_with fail
  refine (C.out _ K.out).mono ?_
  rintro ee w1 ⟨rfl, q⟩
  simp only []
  replace K := Lib.hid (K.out.trans q)
  replace HA := Lib.hid (HA.out.kept q)
  replace HB := Lib.hid (HB.out.kept q)
  clear q a0 a1 a2
  obtain ⟨-, a0, a1, a2, -⟩ := HA.out.facts
  go_wp2_with fail
  refine (CO.out _ K.out).mono ?_
  rintro ee w2 ⟨q, u, rfl, hd⟩
  obtain ⟨A5, j5, c5, rfl, -, hd, g1, g2⟩ := hd.shape
  simp only []
  replace K := Lib.hid (K.out.trans q)
  replace HB := Lib.hid (HB.out.kept q)
  have HD := Lib.hid hd
  clear q a0 a1 a2 hd
  obtain ⟨-, x0, x1, x2, f0, f1, f2⟩ := HB.out.facts
  go_wp2_with fail
  exact ret_dy2 (HB.out.laid _ _ _) rfl rfl rfl ⟨dyW_kept K.out (by omega), _, rfl, (HD.out.dyW HB.out (noLimb_bool _) (noLimb_slice _ _ _) (noLimb_i64 _)).dyR g1 g2⟩

set_option maxHeartbeats 4000000 in
set_option maxRecDepth 100000 in
theorem xoverE_c {w : World} {v : Value} {a : RawI} {p : Int} (hv : IvR w v a) (hl : a.lens 17592186044416) (h0 : mayI a = false) :
    Calls Tryd.prog 14 #[v, .int .i64 p] w (RetIE ⟨⟨rz, rz⟩, 1⟩ w) := by
  have M := Lib.hid (fun w1 (k : Kept w w1) => imay_c (hv.kept k) hl)
  rw [h0] at M
  obtain ⟨A, l, c, A', l', c', rfl, -, -⟩ := ivR_split hv
  clear hv hl h0
  generalize a.lo.neg = n1 at *
  generalize a.lo.e = e1 at *
  generalize a.hi.neg = n2 at *
  generalize a.hi.e = e2 at *
  obtain ⟨W, hW, kW, BA, BR⟩ := box2ii w (.bool n1) (.slice A l c) (.int .i64 e1) (.bool n2) (.slice A' l' c') (.int .i64 e2) (.bool false) (.slice none 0 0) (.int .i64 0) (.bool false) (.slice none 0 0) (.int .i64 0)
  have HW := Lib.hid hW
  have K := Lib.hid kW
  have HB := Lib.hid BR
  obtain ⟨-, a0, a1, a2, a3, a4, a5⟩ := BA.facts
  clear hW kW BA BR
  go_enter Tryd.func14, Tryd.ntmps14
  go_upto_region 1 with fail
  rw [← HW.out]
  go_wp2_with fail
  refine (M.out _ K.out).mono ?_
  rintro ee w1 ⟨rfl, q⟩
  simp only []
  replace K := Lib.hid (K.out.trans q)
  replace HB := Lib.hid (HB.out.kept q)
  clear q a0 a1 a2 a3 a4 a5
  obtain ⟨-, x0, x1, x2, x3, x4, x5⟩ := HB.out.facts
  obtain ⟨f0, f1, f2, f3, f4, f5⟩ := HB.out.free
  go_wp2_with fail
  exact ret_iv2 (HB.out.laid _ _ _ _ _ _) rfl rfl rfl ⟨ivW_kept K.out (by omega), _, rfl, _, _, _, _, _, _, rfl, dyR_zero _, dyR_zero _⟩

end Go.Proofs.YtjdplcenniogdaaDoor
