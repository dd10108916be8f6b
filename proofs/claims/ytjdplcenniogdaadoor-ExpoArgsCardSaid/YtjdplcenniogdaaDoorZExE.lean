/- Contracts of package expo: bounds. -/
import Derived.Test.YtjdplcenniogdaaDoorZExD
namespace Go.Proofs.YtjdplcenniogdaaDoor
open Go.RowKit

def RetDD (lo hi : Raw) (w : World) (e : Ending) (w' : World) : Prop := Kept w w' ∧ ∃ v u, e = .returned (.tuple #[v, u]) ∧ DyR w' v lo ∧ DyR w' u hi
theorem ret_dyy {fn : Func} {R : Ending → World → Prop} {a : Act} {w : World} {b b' t t' : Nat} {x y z x' y' z' : Value} (h : Blk w b x y z) (h' : Blk w b' x' y' z')
    (hres : fn.results = #[.cell t 24, .cell t' 24]) (ht : a.tmps.getD t undef = .pointer (some ⟨b, 0, none⟩)) (ht' : a.tmps.getD t' undef = .pointer (some ⟨b', 0, none⟩)) (hd : a.defers = [])
    (hR : R (.returned (.tuple #[.agg #[x, y, z], .agg #[x', y', z']])) w) : bodyPost Tryd.prog fn R .ret a w := by
  obtain ⟨_, c0, c1, c2, _⟩ := h.facts
  obtain ⟨_, d0, d1, d2, _⟩ := h'.facts
  refine bodyPost_ret (v := .tuple #[.agg #[x, y, z], .agg #[x', y', z']]) ?_ hd hR
  have ht2 : a.tmps[t]?.getD undef = .pointer (some ⟨b, 0, none⟩) := by simpa using ht
  have ht3 : a.tmps[t']?.getD undef = .pointer (some ⟨b', 0, none⟩) := by simpa using ht'
  simp [results, hres, ht2, ht3, go_sem, c0, c1, c2, d0, d1, d2]

def absD (d : Dy) : Dy := ⟨false, d.m, d.e⟩
theorem absD_ok {d : Dy} (h : d.Ok) : (absD d).Ok := ⟨h.len, fun h0 => ⟨rfl, (h.zero h0).2⟩, h.odd, h.lo, h.hi⟩
def bndD (p : Nat) (up : Bool) (d : Dy) (o : Dy × Dy) : Dy := sqrN p up (bndK (absD d)) (nearD p up o)
def bndsD (p : Nat) (d lo hi : Dy) : Dy × Dy := if d.neg then ((quotZ one hi p false).v, (quotZ one lo p true).v) else (lo, hi)
theorem sqrN_ok (p : Nat) (up : Bool) : ∀ k x, x.Ok → (sqrN p up k x).Ok
  | 0, _, h => h
  | k + 1, _, _ => sqrN_ok p up k _ (rndS_ok _ _ _)

theorem drew_blk {Y : World} {b : Nat} {x y z : Value} (h : Blk Y b x y z) : Blk Y.drew b x y z := h
theorem drew_kept {w Y : World} (k : Kept w Y) : Kept w Y.drew := ⟨k.os, k.tape, k.output, k.size, k.block⟩
theorem drew_dy {Y : World} {v : Value} {r : Raw} (h : DyR Y v r) : DyR Y.drew v r := by
  obtain ⟨s, rfl, ⟨hs, A, c, rfl, hc, hA⟩, h1, h2⟩ := h
  exact ⟨_, rfl, ⟨hs, A, c, rfl, hc, hA⟩, h1, h2⟩
theorem two_end {w X Y : World} {b b' : Nat} {x y : Dy} {A A' : Option Addr} {l c l' c' : Nat} (hY : Y = dyW (dyW X b (.bool x.neg) (.slice A l c) (.int .i64 x.e)) b' (.bool y.neg) (.slice A' l' c') (.int .i64 y.e)) (K : Kept w X) (h : Blk X b (.bool x.neg) (.slice A l c) (.int .i64 x.e)) (h' : Blk X b' (.bool y.neg) (.slice A' l' c') (.int .i64 y.e))
    (z : DyR X (.agg #[.bool x.neg, .slice A l c, .int .i64 x.e]) x.raw) (z' : DyR X (.agg #[.bool y.neg, .slice A' l' c', .int .i64 y.e]) y.raw) (hne : ¬ b = b') (hb : w.heap.size ≤ b) (hb' : w.heap.size ≤ b') :
    Blk Y.drew b (.bool x.neg) (.slice A l c) (.int .i64 x.e) ∧ Blk Y.drew b' (.bool y.neg) (.slice A' l' c') (.int .i64 y.e) ∧
    RetDD x.raw y.raw w (.returned (.tuple #[.agg #[.bool x.neg, .slice A l c, .int .i64 x.e], .agg #[.bool y.neg, .slice A' l' c', .int .i64 y.e]])) Y.drew := by
  have h2 := h'.laid_other (b' := b) (fun e => hne e.symm) (.bool x.neg) (.slice A l c) (.int .i64 x.e)
  have k : Kept w Y := by rw [hY]; exact dyW_kept (dyW_kept K hb) hb'
  have b1 : Blk Y b (.bool x.neg) (.slice A l c) (.int .i64 x.e) := by rw [hY]; exact (h.laid _ _ _).laid_other hne _ _ _
  have b2 : Blk Y b' (.bool y.neg) (.slice A' l' c') (.int .i64 y.e) := by rw [hY]; exact h2.laid _ _ _
  have d1 : DyR Y (.agg #[.bool x.neg, .slice A l c, .int .i64 x.e]) x.raw := by rw [hY]; exact (z.dyW h (noLimb_bool _) (noLimb_slice _ _ _) (noLimb_i64 _) _ _ _).dyW h2 (noLimb_bool _) (noLimb_slice _ _ _) (noLimb_i64 _) _ _ _
  have d2 : DyR Y (.agg #[.bool y.neg, .slice A' l' c', .int .i64 y.e]) y.raw := by rw [hY]; exact (z'.dyW h (noLimb_bool _) (noLimb_slice _ _ _) (noLimb_i64 _) _ _ _).dyW h2 (noLimb_bool _) (noLimb_slice _ _ _) (noLimb_i64 _) _ _ _
  clear hY
  exact ⟨drew_blk b1, drew_blk b2, drew_kept k, _, _, rfl, drew_dy d1, drew_dy d2⟩

set_option maxHeartbeats 4000000 in
set_option maxRecDepth 100000 in
theorem xbounds_c {w : World} {v : Value} {p f : Nat} {d : Dy} {oL oH : Dy × Dy} (hv : DyR w v d.raw) (ok : d.Ok) (p1 : 1 ≤ p) (p2 : p ≤ 2000) (hT : Tab w)
    (hL : nearG p false (bndR (absD d)) f 1 one one = some oL) (hH : nearG p true (bndR (absD d)) f 1 one one = some oH) (hf : f ≤ 1000000) :
    Calls Tryd.prog 42 #[v, .int .i64 (p : Int)] w (RetDD (bndsD p d (bndD p false d oL) (bndD p true d oH)).1.raw (bndsD p d (bndD p false d oL) (bndD p true d oH)).2.raw w) := by
  have T := Lib.hid hT
  obtain ⟨A, l, c, rfl, hs⟩ := dyR_split hv
  have oka := absD_ok ok
  have hsl : DyR w (.agg #[.bool false, .slice A l c, .int .i64 d.e]) (absD d).raw := by
    obtain ⟨s, he, hs, h1, h2⟩ := hs
    simp only [Value.agg.injEq, List.cons.injEq, Array.mk.injEq, and_true] at he
    obtain ⟨-, rfl, -⟩ := he
    exact ⟨_, rfl, hs, h1, h2⟩
  have C1 := Lib.hid (fun w1 v (k : Kept w w1) (h : DyR w1 v (absD d).raw) => show Calls Tryd.prog 82 #[.agg #[.int .i64 (p : Int), .bool false], v] w1 (RetD (bndD p false d oL).raw w1) from xbound_c h oka p1 p2 (T.out.kept k) hL hf)
  have C2 := Lib.hid (fun w1 v (k : Kept w w1) (h : DyR w1 v (absD d).raw) => show Calls Tryd.prog 82 #[.agg #[.int .i64 (p : Int), .bool true], v] w1 (RetD (bndD p true d oH).raw w1) from xbound_c h oka p1 p2 (T.out.kept k) hH hf)
  obtain ⟨lo, hlo⟩ : ∃ lo, lo = bndD p false d oL := ⟨_, rfl⟩
  obtain ⟨hi, hhi⟩ : ∃ hi, hi = bndD p true d oH := ⟨_, rfl⟩
  have okl : lo.Ok := by rw [hlo]; exact sqrN_ok _ _ _ _ (nearD_ok (nearG_ok _ _ _ _ hL d1_ok d1_ok))
  have okh : hi.Ok := by rw [hhi]; exact sqrN_ok _ _ _ _ (nearD_ok (nearG_ok _ _ _ _ hH d1_ok d1_ok))
  rw [← hlo] at C1 ⊢
  rw [← hhi] at C2 ⊢
  have CO := Lib.hid (fun w1 (k : Kept w w1) => show Calls Tryd.prog 41 #[.int .i64 1, .int .i64 0] w1 (RetE ⟨one.raw, 0⟩ w1) by
    have h := Of_pos (w := w1) (k := 1) (e := 0) (by decide) (by decide) (by decide) (T.out.kept k)
    rw [fit_1] at h
    exact h)
  obtain ⟨o3, ho3⟩ : ∃ o, o = (quotZ one hi p false).raw := ⟨_, rfl⟩
  obtain ⟨o4, ho4⟩ : ∃ o, o = (quotZ one lo p true).raw := ⟨_, rfl⟩
  have C3 := Lib.hid (fun w1 v u (k : Kept w w1) (hv : DyR w1 v one.raw) (hu : DyR w1 u hi.raw) => show Calls Tryd.prog 51 #[v, u, .int .i64 (p : Int), .bool false] w1 (RetE o3 w1) by rw [ho3]; exact quot_c hv hu d1_ok okh (T.out.kept k) p1 p2)
  have C4 := Lib.hid (fun w1 v u (k : Kept w w1) (hv : DyR w1 v one.raw) (hu : DyR w1 u lo.raw) => show Calls Tryd.prog 51 #[v, u, .int .i64 (p : Int), .bool true] w1 (RetE o4 w1) by rw [ho4]; exact quot_c hv hu d1_ok okl (T.out.kept k) p1 p2)
  obtain ⟨lo2, hlo2⟩ : ∃ x, x = (quotZ one hi p false).v := ⟨_, rfl⟩
  obtain ⟨hi2, hhi2⟩ : ∃ x, x = (quotZ one lo p true).v := ⟨_, rfl⟩
  have V3 : Hid (o3.v = lo2.raw) := by rw [ho3, hlo2]; rfl
  have V4 : Hid (o4.v = hi2.raw) := by rw [ho4, hhi2]; rfl
  have HR1 : Hid (d.neg = true → bndsD p d lo hi = (lo2, hi2)) := fun h => by unfold bndsD; rw [if_pos h, hlo2, hhi2]
  have HR2 : Hid (d.neg = false → bndsD p d lo hi = (lo, hi)) := fun h => by unfold bndsD; rw [if_neg (by rw [h]; decide)]
  have HSL := Lib.hid hsl
  clear hsl hs hv hT ok oka hL hH hlo hhi okl okh ho3 ho4 hlo2 hhi2
  obtain ⟨res, hres⟩ : ∃ res, bndsD p d lo hi = res := ⟨_, rfl⟩
  rw [hres] at HR1 HR2 ⊢
  clear hres
  generalize (absD d).raw = ra at *
  generalize d.neg = n1 at *
  generalize d.e = e1 at *
  obtain ⟨W, hW, kW, B0, B1, B2⟩ := boxes3 w (.bool n1) (.slice A l c) (.int .i64 e1) (.bool false) (.slice none 0 0) (.int .i64 0)
  have HW := Lib.hid hW
  have K := Lib.hid kW
  have HA := Lib.hid B0
  have H4 := Lib.hid B1
  have H5 := Lib.hid B2
  clear hW kW B1 B2
  obtain ⟨-, a0, a1, a2, -⟩ := B0.facts
  go_enter Tryd.func42, Tryd.ntmps42
  go_upto_region 1 with fail
  rw [← HW.out]
  clear HW
  obtain ⟨V, hV, kV, hb, lV⟩ := boxF W (.bool n1) (.slice A l c) (.int .i64 e1)
  have HV := Lib.hid hV
  have l6 := H5.out.facts.1
  replace K := Lib.hid (K.out.trans kV)
  replace HA := Lib.hid (HA.out.kept kV)
  replace H4 := Lib.hid (H4.out.kept kV)
  replace H5 := Lib.hid (H5.out.kept kV)
  have H6 := Lib.hid hb
  clear hV kV hb B0
  go_upto_region 2 with fail
  rw [← HV.out]
  clear HV a0 a1 a2
  generalize W.heap.size = b6 at *
  obtain ⟨-, y0, y1, y2, f0, f1, f2⟩ := H6.out.facts
  go_upto_region 3 with fail
  obtain ⟨X, hX⟩ : ∃ X, X = V.setCell ⟨b6, 0, none⟩ (.bool false) := ⟨_, rfl⟩
  rw [← hX]
  replace H6 : Hid (Blk X b6 (.bool false) (.slice A l c) (.int .i64 e1)) := by rw [hX]; exact block_setCell H6.out _
  replace HA : Hid (Blk X w.heap.size (.bool n1) (.slice A l c) (.int .i64 e1)) := by rw [hX]; exact block_setCell_other HA.out (by omega) _
  replace H4 : Hid (Blk X (w.heap.size + 1) (.bool false) (.slice none 0 0) (.int .i64 0)) := by rw [hX]; exact block_setCell_other H4.out (by omega) _
  replace H5 : Hid (Blk X (w.heap.size + 1 + 1) (.bool false) (.slice none 0 0) (.int .i64 0)) := by rw [hX]; exact block_setCell_other H5.out (by omega) _
  replace K : Hid (Kept w X) := by rw [hX]; exact K.out.setCell (p := ⟨b6, 0, none⟩) (by show w.heap.size ≤ b6; omega) _
  clear hX y0 y1 y2 f0 f1 f2 lV
  refine region_lin2 (m := 8) (V := VL [
      (fun v _ => v = .int .i64 (p : Int)),
      (fun v _ => v = (.agg #[.int .i64 (p : Int), .bool false])),
      (fun v _ => v = (.agg #[.bool false, .slice A l c, .int .i64 e1])),
      (fun v wv => DyR wv v lo.raw),
      (fun v _ => v = .int .i64 (p : Int)),
      (fun v _ => v = (.agg #[.int .i64 (p : Int), .bool true])),
      (fun v _ => v = (.agg #[.bool false, .slice A l c, .int .i64 e1])),
      (fun v wv => DyR wv v hi.raw)])
    (by kernel_rfl) rfl rfl rfl rfl rfl (by kernel_rfl) (by kernel_rfl) (by kernel_rfl) (by kernel_rfl) (mono_of _ ⟨mono_eq _, mono_eq _, mono_eq _, fun v w w' k h => by first | exact h | exact h.kept k | exact ⟨h.1, h.2.kept k⟩, mono_eq _, mono_eq _, mono_eq _, fun v w w' k h => by first | exact h | exact h.kept k | exact ⟨h.1, h.2.kept k⟩, trivial⟩) (steps_of ⟨
      (fun aF wF F => by
    have s1 : aF.tmps.getD 1 undef = .int .i64 (p : Int) := F.old 1 (by kernel_rfl)
    exact step_val (by simp [Region.wanted]) (by go_simp) rfl),
      (fun aF wF F => by
    have s10 : aF.tmps.getD 10 undef = .int .i64 (p : Int) := F.done 0 10 (by kernel_rfl) rfl
    simp only [Array.getD_eq_getD_getElem?] at s10
    exact step_val (by simp [Region.wanted]) (by go_simp) rfl),
      (fun aF wF F => by
    have s6 : aF.tmps.getD 6 undef = (.pointer (some ⟨b6, 0, none⟩)) := F.old 6 (by kernel_rfl)
    have c0 := cell_at H6.out F.kept 0 _ rfl
    have c1 := cell_at H6.out F.kept 1 _ rfl
    have c2 := cell_at H6.out F.kept 2 _ rfl
    exact step_val (by simp [Region.wanted]) (by go_simp) rfl),
      (fun aF wF F => by
    have s11 : aF.tmps.getD 11 undef = (.agg #[.int .i64 (p : Int), .bool false]) := F.done 1 11 (by kernel_rfl) rfl
    have s12 : aF.tmps.getD 12 undef = (.agg #[.bool false, .slice A l c, .int .i64 e1]) := F.done 2 12 (by kernel_rfl) rfl
    exact step_good (by simp [Region.wanted]) (by go_simp) (C1.out _ _ (K.out.trans F.kept) (HSL.out.kept (K.out.trans F.kept))) (fun _ _ h => RetD.good h) (fun _ _ h => h)),
      (fun aF wF F => by
    have s1 : aF.tmps.getD 1 undef = .int .i64 (p : Int) := F.old 1 (by kernel_rfl)
    exact step_val (by simp [Region.wanted]) (by go_simp) rfl),
      (fun aF wF F => by
    have s14 : aF.tmps.getD 14 undef = .int .i64 (p : Int) := F.done 4 14 (by kernel_rfl) rfl
    simp only [Array.getD_eq_getD_getElem?] at s14
    exact step_val (by simp [Region.wanted]) (by go_simp) rfl),
      (fun aF wF F => by
    have s6 : aF.tmps.getD 6 undef = (.pointer (some ⟨b6, 0, none⟩)) := F.old 6 (by kernel_rfl)
    have c0 := cell_at H6.out F.kept 0 _ rfl
    have c1 := cell_at H6.out F.kept 1 _ rfl
    have c2 := cell_at H6.out F.kept 2 _ rfl
    exact step_val (by simp [Region.wanted]) (by go_simp) rfl),
      (fun aF wF F => by
    have s15 : aF.tmps.getD 15 undef = (.agg #[.int .i64 (p : Int), .bool true]) := F.done 5 15 (by kernel_rfl) rfl
    have s16 : aF.tmps.getD 16 undef = (.agg #[.bool false, .slice A l c, .int .i64 e1]) := F.done 6 16 (by kernel_rfl) rfl
    exact step_good (by simp [Region.wanted]) (by go_simp) (C2.out _ _ (K.out.trans F.kept) (HSL.out.kept (K.out.trans F.kept))) (fun _ _ h => RetD.good h) (fun _ _ h => h)),
      trivial⟩) ?_
  intro u w1 k1 hu
  have e10 : u 0 = .int .i64 (p : Int) := hu 0 (by decide)
  have e11 : u 1 = (.agg #[.int .i64 (p : Int), .bool false]) := hu 1 (by decide)
  have e12 : u 2 = (.agg #[.bool false, .slice A l c, .int .i64 e1]) := hu 2 (by decide)
  have p13 := hu 3 (by decide)
  have e14 : u 4 = .int .i64 (p : Int) := hu 4 (by decide)
  have e15 : u 5 = (.agg #[.int .i64 (p : Int), .bool true]) := hu 5 (by decide)
  have e16 : u 6 = (.agg #[.bool false, .slice A l c, .int .i64 e1]) := hu 6 (by decide)
  have p17 := hu 7 (by decide)
  clear hu
  simp only [puts, slotOf, if_true, Act.put, List.setIfInBounds_toArray, List.set_cons_zero, List.set_cons_succ, List.getElem?_toArray, List.getElem?_cons_zero, List.getElem?_cons_succ, Option.bind_some, e10, e11, e12, e14, e15, e16]
  clear e10 e11 e12 e14 e15 e16
  generalize u 3 = v13 at *
  try simp only [VL, List.getD_cons_zero, List.getD_cons_succ] at p13
  generalize u 7 = v17 at *
  try simp only [VL, List.getD_cons_zero, List.getD_cons_succ] at p17
  refine ⟨?_, .inl (by kernel_rfl)⟩
  obtain ⟨A1, j1, c1, rfl, z1⟩ := dyR_split p13
  obtain ⟨A2, j2, c2, rfl, z2⟩ := dyR_split p17
  clear p13 p17 C1 C2 H6
  have hx4 := H4.out.kept k1
  have hx5 := H5.out.kept k1
  obtain ⟨-, y0, y1, y2, f0, f1, f2⟩ := hx4.facts
  obtain ⟨-, v0, v1, v2, g0, g1, g2⟩ := hx5.facts
  go_simp
  go_upto_region 4 with fail
  change Code.wp _ _ _ _ (dyW (dyW w1 (w.heap.size + 1) (.bool lo.neg) (.slice A1 j1 c1) (.int .i64 lo.e)) (w.heap.size + 1 + 1) (.bool hi.neg) (.slice A2 j2 c2) (.int .i64 hi.e))
  obtain ⟨X, hX⟩ : ∃ X, X = dyW (dyW w1 (w.heap.size + 1) (.bool lo.neg) (.slice A1 j1 c1) (.int .i64 lo.e)) (w.heap.size + 1 + 1) (.bool hi.neg) (.slice A2 j2 c2) (.int .i64 hi.e) := ⟨_, rfl⟩
  rw [← hX]
  replace HA : Hid (Blk X w.heap.size (.bool n1) (.slice A l c) (.int .i64 e1)) := by rw [hX]; exact ((HA.out.kept k1).laid_other (by omega) _ _ _).laid_other (by omega) _ _ _
  have hx5' := hx5.laid_other (b' := w.heap.size + 1) (by omega) (.bool lo.neg) (.slice A1 j1 c1) (.int .i64 lo.e)
  replace H4 : Hid (Blk X (w.heap.size + 1) (.bool lo.neg) (.slice A1 j1 c1) (.int .i64 lo.e)) := by rw [hX]; exact (hx4.laid _ _ _).laid_other (by omega) _ _ _
  replace H5 : Hid (Blk X (w.heap.size + 1 + 1) (.bool hi.neg) (.slice A2 j2 c2) (.int .i64 hi.e)) := by rw [hX]; exact hx5'.laid _ _ _
  have Z4 : Hid (DyR X (.agg #[.bool lo.neg, .slice A1 j1 c1, .int .i64 lo.e]) lo.raw) := by rw [hX]; exact (z1.dyW hx4 (noLimb_bool _) (noLimb_slice _ _ _) (noLimb_i64 _) _ _ _).dyW hx5' (noLimb_bool _) (noLimb_slice _ _ _) (noLimb_i64 _) _ _ _
  have Z5 : Hid (DyR X (.agg #[.bool hi.neg, .slice A2 j2 c2, .int .i64 hi.e]) hi.raw) := by rw [hX]; exact (z2.dyW hx4 (noLimb_bool _) (noLimb_slice _ _ _) (noLimb_i64 _) _ _ _).dyW hx5' (noLimb_bool _) (noLimb_slice _ _ _) (noLimb_i64 _) _ _ _
  replace K : Hid (Kept w X) := by rw [hX]; exact dyW_kept (dyW_kept (K.out.trans k1) (by omega)) (by omega)
  clear hX hx4 hx5 hx5' z1 z2 y0 y1 y2 f0 f1 f2 v0 v1 v2 g0 g1 g2 k1
  obtain ⟨-, a0, a1, a2, -⟩ := HA.out.facts
  cases n1 with
  | false =>
    obtain rfl := HR2.out rfl
    clear HR1 HR2
    obtain ⟨-, y0, y1, y2, f0, f1, f2⟩ := H4.out.facts
    obtain ⟨-, v0, v1, v2, g0, g1, g2⟩ := H5.out.facts
    go_wp2_with fail
    go_region
    all_goals
      go_wp2_with fail
      change bodyPost _ _ _ _ _ (dyW (dyW X (w.heap.size + 1) (.bool lo.neg) (.slice A1 j1 c1) (.int .i64 lo.e)) (w.heap.size + 1 + 1) (.bool hi.neg) (.slice A2 j2 c2) (.int .i64 hi.e)).drew
      obtain ⟨Y, hY⟩ : ∃ Y, Y = dyW (dyW X (w.heap.size + 1) (.bool lo.neg) (.slice A1 j1 c1) (.int .i64 lo.e)) (w.heap.size + 1 + 1) (.bool hi.neg) (.slice A2 j2 c2) (.int .i64 hi.e) := ⟨_, rfl⟩
      rw [← hY]
      have he := two_end hY K.out H4.out H5.out Z4.out Z5.out (by omega) (by omega) (by omega)
      exact ret_dyy he.1 he.2.1 rfl rfl rfl rfl he.2.2
  | true =>
    obtain rfl := HR1.out rfl
    clear HR1 HR2
    go_wp2_with fail
    refine (CO.out _ K.out).mono ?_
    rintro ee w5 ⟨q, u, rfl, hd⟩
    simp only []
    replace K := Lib.hid (K.out.trans q)
    replace HA := Lib.hid (HA.out.kept q)
    replace H4 := Lib.hid (H4.out.kept q)
    replace H5 := Lib.hid (H5.out.kept q)
    replace Z4 := Lib.hid (Z4.out.kept q)
    replace Z5 := Lib.hid (Z5.out.kept q)
    have HD := Lib.hid hd
    clear q hd CO a0 a1 a2
    go_wp2_with fail
    refine (xsure_c HD.out).mono ?_
    rintro ee w6 ⟨q, v6, rfl, hd2⟩
    obtain ⟨A7, j7, c7, rfl, hd3⟩ := dyR_split hd2
    simp only []
    obtain ⟨V2, hV, kV, hb, lV⟩ := boxF w6 (.bool one.neg) (.slice A7 j7 c7) (.int .i64 one.e)
    have HV := Lib.hid hV
    have kk := q.trans kV
    have l7 : w.heap.size + 1 + 1 < w6.heap.size := Nat.lt_of_lt_of_le H5.out.facts.1 q.size
    replace K := Lib.hid (K.out.trans kk)
    replace HA := Lib.hid (HA.out.kept kk)
    replace H4 := Lib.hid (H4.out.kept kk)
    replace H5 := Lib.hid (H5.out.kept kk)
    replace Z4 := Lib.hid (Z4.out.kept kk)
    replace Z5 := Lib.hid (Z5.out.kept kk)
    have H7 := Lib.hid hb
    have Z7 := Lib.hid (hd3.kept kV)
    clear hV kV hb kk q hd2 hd3 HD
    go_upto_region 6 with fail
    rw [← HV.out]
    clear HV
    generalize w6.heap.size = b7 at *
    refine region_lin2 (m := 14) (V := VL [
        (fun v _ => v = (.agg #[.bool one.neg, .slice A7 j7 c7, .int .i64 one.e])),
        (fun v _ => v = (.agg #[.bool hi.neg, .slice A2 j2 c2, .int .i64 hi.e])),
        (fun v _ => v = .int .i64 (p : Int)),
        (fun v wv => ∃ d, v = .tuple #[d, .int .i64 o3.k] ∧ DyR wv d o3.v),
        (fun v wv => DyR wv v o3.v),
        (fun v _ => v = (.int .i64 o3.k)),
        (fun v wv => DyR wv v o3.v),
        (fun v _ => v = (.agg #[.bool one.neg, .slice A7 j7 c7, .int .i64 one.e])),
        (fun v _ => v = (.agg #[.bool lo.neg, .slice A1 j1 c1, .int .i64 lo.e])),
        (fun v _ => v = .int .i64 (p : Int)),
        (fun v wv => ∃ d, v = .tuple #[d, .int .i64 o4.k] ∧ DyR wv d o4.v),
        (fun v wv => DyR wv v o4.v),
        (fun v _ => v = (.int .i64 o4.k)),
        (fun v wv => DyR wv v o4.v)])
      (by kernel_rfl) rfl rfl rfl rfl rfl (by kernel_rfl) (by kernel_rfl) (by kernel_rfl) (by kernel_rfl) (mono_of _ ⟨mono_eq _, mono_eq _, mono_eq _, fun v w w' k h => by obtain ⟨d, h1, h2⟩ := h; exact ⟨d, h1, h2.kept k⟩, fun v w w' k h => by first | exact h | exact h.kept k | exact ⟨h.1, h.2.kept k⟩, mono_eq _, fun v w w' k h => by first | exact h | exact h.kept k | exact ⟨h.1, h.2.kept k⟩, mono_eq _, mono_eq _, mono_eq _, fun v w w' k h => by obtain ⟨d, h1, h2⟩ := h; exact ⟨d, h1, h2.kept k⟩, fun v w w' k h => by first | exact h | exact h.kept k | exact ⟨h.1, h.2.kept k⟩, mono_eq _, fun v w w' k h => by first | exact h | exact h.kept k | exact ⟨h.1, h.2.kept k⟩, trivial⟩) (steps_of ⟨
        (fun aF wF F => by
      have s7 : aF.tmps.getD 7 undef = (.pointer (some ⟨b7, 0, none⟩)) := F.old 7 (by kernel_rfl)
      have c0 := cell_at H7.out F.kept 0 _ rfl
      have c1 := cell_at H7.out F.kept 1 _ rfl
      have c2 := cell_at H7.out F.kept 2 _ rfl
      exact step_val (by simp [Region.wanted]) (by go_simp) rfl),
        (fun aF wF F => by
      have s5 : aF.tmps.getD 5 undef = (.pointer (some ⟨w.heap.size + 1 + 1, 0, none⟩)) := F.old 5 (by kernel_rfl)
      have c0 := cell_at H5.out F.kept 0 _ rfl
      have c1 := cell_at H5.out F.kept 1 _ rfl
      have c2 := cell_at H5.out F.kept 2 _ rfl
      exact step_val (by simp [Region.wanted]) (by go_simp) rfl),
        (fun aF wF F => by
      have s1 : aF.tmps.getD 1 undef = .int .i64 (p : Int) := F.old 1 (by kernel_rfl)
      exact step_val (by simp [Region.wanted]) (by go_simp) rfl),
        (fun aF wF F => by
      have s24 : aF.tmps.getD 24 undef = (.agg #[.bool one.neg, .slice A7 j7 c7, .int .i64 one.e]) := F.done 0 24 (by kernel_rfl) rfl
      have s25 : aF.tmps.getD 25 undef = (.agg #[.bool hi.neg, .slice A2 j2 c2, .int .i64 hi.e]) := F.done 1 25 (by kernel_rfl) rfl
      have s26 : aF.tmps.getD 26 undef = .int .i64 (p : Int) := F.done 2 26 (by kernel_rfl) rfl
      exact step_good (by simp [Region.wanted]) (by go_simp) (C3.out _ _ _ (K.out.trans F.kept) (Z7.out.kept F.kept) (Z5.out.kept F.kept)) (fun _ _ h => RetE.good h) (fun _ _ h => h)),
        (fun aF wF F => by
      have s27 : (fun v wv => ∃ d, v = .tuple #[d, .int .i64 o3.k] ∧ DyR wv d o3.v) (aF.tmps.getD 27 undef) wF := F.done 3 27 (by kernel_rfl) rfl
      obtain ⟨dd, ee, hh⟩ := s27; exact step_val (by simp [Region.wanted]) (by go_simp) hh),
        (fun aF wF F => by
      have s27 : (fun v wv => ∃ d, v = .tuple #[d, .int .i64 o3.k] ∧ DyR wv d o3.v) (aF.tmps.getD 27 undef) wF := F.done 3 27 (by kernel_rfl) rfl
      exact step_val (by simp [Region.wanted]) (by obtain ⟨dd, ee, hh⟩ := s27; go_simp) rfl),
        (fun aF wF F => by
      have s28 : (fun v wv => DyR wv v o3.v) (aF.tmps.getD 28 undef) wF := F.done 4 28 (by kernel_rfl) rfl
      have s29 : aF.tmps.getD 29 undef = (.int .i64 o3.k) := F.done 5 29 (by kernel_rfl) rfl
      exact step_good (by simp [Region.wanted]) (by go_simp) (xsure_c (k := o3.k) s28) (fun _ _ h => RetD.good h) (fun _ _ h => h)),
        (fun aF wF F => by
      have s7 : aF.tmps.getD 7 undef = (.pointer (some ⟨b7, 0, none⟩)) := F.old 7 (by kernel_rfl)
      have c0 := cell_at H7.out F.kept 0 _ rfl
      have c1 := cell_at H7.out F.kept 1 _ rfl
      have c2 := cell_at H7.out F.kept 2 _ rfl
      exact step_val (by simp [Region.wanted]) (by go_simp) rfl),
        (fun aF wF F => by
      have s4 : aF.tmps.getD 4 undef = (.pointer (some ⟨w.heap.size + 1, 0, none⟩)) := F.old 4 (by kernel_rfl)
      have c0 := cell_at H4.out F.kept 0 _ rfl
      have c1 := cell_at H4.out F.kept 1 _ rfl
      have c2 := cell_at H4.out F.kept 2 _ rfl
      exact step_val (by simp [Region.wanted]) (by go_simp) rfl),
        (fun aF wF F => by
      have s1 : aF.tmps.getD 1 undef = .int .i64 (p : Int) := F.old 1 (by kernel_rfl)
      exact step_val (by simp [Region.wanted]) (by go_simp) rfl),
        (fun aF wF F => by
      have s31 : aF.tmps.getD 31 undef = (.agg #[.bool one.neg, .slice A7 j7 c7, .int .i64 one.e]) := F.done 7 31 (by kernel_rfl) rfl
      have s32 : aF.tmps.getD 32 undef = (.agg #[.bool lo.neg, .slice A1 j1 c1, .int .i64 lo.e]) := F.done 8 32 (by kernel_rfl) rfl
      have s33 : aF.tmps.getD 33 undef = .int .i64 (p : Int) := F.done 9 33 (by kernel_rfl) rfl
      exact step_good (by simp [Region.wanted]) (by go_simp) (C4.out _ _ _ (K.out.trans F.kept) (Z7.out.kept F.kept) (Z4.out.kept F.kept)) (fun _ _ h => RetE.good h) (fun _ _ h => h)),
        (fun aF wF F => by
      have s34 : (fun v wv => ∃ d, v = .tuple #[d, .int .i64 o4.k] ∧ DyR wv d o4.v) (aF.tmps.getD 34 undef) wF := F.done 10 34 (by kernel_rfl) rfl
      obtain ⟨dd, ee, hh⟩ := s34; exact step_val (by simp [Region.wanted]) (by go_simp) hh),
        (fun aF wF F => by
      have s34 : (fun v wv => ∃ d, v = .tuple #[d, .int .i64 o4.k] ∧ DyR wv d o4.v) (aF.tmps.getD 34 undef) wF := F.done 10 34 (by kernel_rfl) rfl
      exact step_val (by simp [Region.wanted]) (by obtain ⟨dd, ee, hh⟩ := s34; go_simp) rfl),
        (fun aF wF F => by
      have s35 : (fun v wv => DyR wv v o4.v) (aF.tmps.getD 35 undef) wF := F.done 11 35 (by kernel_rfl) rfl
      have s36 : aF.tmps.getD 36 undef = (.int .i64 o4.k) := F.done 12 36 (by kernel_rfl) rfl
      exact step_good (by simp [Region.wanted]) (by go_simp) (xsure_c (k := o4.k) s35) (fun _ _ h => RetD.good h) (fun _ _ h => h)),
        trivial⟩) ?_
    intro u w1 k1 hu
    have e24 : u 0 = (.agg #[.bool one.neg, .slice A7 j7 c7, .int .i64 one.e]) := hu 0 (by decide)
    have e25 : u 1 = (.agg #[.bool hi.neg, .slice A2 j2 c2, .int .i64 hi.e]) := hu 1 (by decide)
    have e26 : u 2 = .int .i64 (p : Int) := hu 2 (by decide)
    have p27 := hu 3 (by decide)
    have p28 := hu 4 (by decide)
    have e29 : u 5 = (.int .i64 o3.k) := hu 5 (by decide)
    have p30 := hu 6 (by decide)
    have e31 : u 7 = (.agg #[.bool one.neg, .slice A7 j7 c7, .int .i64 one.e]) := hu 7 (by decide)
    have e32 : u 8 = (.agg #[.bool lo.neg, .slice A1 j1 c1, .int .i64 lo.e]) := hu 8 (by decide)
    have e33 : u 9 = .int .i64 (p : Int) := hu 9 (by decide)
    have p34 := hu 10 (by decide)
    have p35 := hu 11 (by decide)
    have e36 : u 12 = (.int .i64 o4.k) := hu 12 (by decide)
    have p37 := hu 13 (by decide)
    clear hu
    simp only [puts, slotOf, if_true, Act.put, List.setIfInBounds_toArray, List.set_cons_zero, List.set_cons_succ, List.getElem?_toArray, List.getElem?_cons_zero, List.getElem?_cons_succ, Option.bind_some, e24, e25, e26, e29, e31, e32, e33, e36]
    clear e24 e25 e26 e29 e31 e32 e33 e36
    generalize u 3 = v27 at *
    try simp only [VL, List.getD_cons_zero, List.getD_cons_succ] at p27
    generalize u 4 = v28 at *
    try simp only [VL, List.getD_cons_zero, List.getD_cons_succ] at p28
    generalize u 6 = v30 at *
    try simp only [VL, List.getD_cons_zero, List.getD_cons_succ] at p30
    generalize u 10 = v34 at *
    try simp only [VL, List.getD_cons_zero, List.getD_cons_succ] at p34
    generalize u 11 = v35 at *
    try simp only [VL, List.getD_cons_zero, List.getD_cons_succ] at p35
    generalize u 13 = v37 at *
    try simp only [VL, List.getD_cons_zero, List.getD_cons_succ] at p37
    refine ⟨?_, .inl (by kernel_rfl)⟩
    rw [V3.out] at p30
    rw [V4.out] at p37
    obtain ⟨A8, j8, c8, rfl, z1⟩ := dyR_split p30
    obtain ⟨A9, j9, c9, rfl, z2⟩ := dyR_split p37
    clear p27 p28 p30 p34 p35 p37 C3 C4 Z4 Z5 H7 Z7 V3 V4
    have hx4 := H4.out.kept k1
    have hx5 := H5.out.kept k1
    obtain ⟨-, y0, y1, y2, f0, f1, f2⟩ := hx4.facts
    obtain ⟨-, v0, v1, v2, g0, g1, g2⟩ := hx5.facts
    go_simp
    go_upto_region 7 with fail
    change Code.wp _ _ _ _ (dyW (dyW w1 (w.heap.size + 1) (.bool lo2.neg) (.slice A8 j8 c8) (.int .i64 lo2.e)) (w.heap.size + 1 + 1) (.bool hi2.neg) (.slice A9 j9 c9) (.int .i64 hi2.e))
    clear X
    obtain ⟨X, hX⟩ : ∃ X, X = dyW (dyW w1 (w.heap.size + 1) (.bool lo2.neg) (.slice A8 j8 c8) (.int .i64 lo2.e)) (w.heap.size + 1 + 1) (.bool hi2.neg) (.slice A9 j9 c9) (.int .i64 hi2.e) := ⟨_, rfl⟩
    rw [← hX]
    replace HA : Hid (Blk X w.heap.size (.bool true) (.slice A l c) (.int .i64 e1)) := by rw [hX]; exact ((HA.out.kept k1).laid_other (by omega) _ _ _).laid_other (by omega) _ _ _
    have hx5' := hx5.laid_other (b' := w.heap.size + 1) (by omega) (.bool lo2.neg) (.slice A8 j8 c8) (.int .i64 lo2.e)
    replace H4 : Hid (Blk X (w.heap.size + 1) (.bool lo2.neg) (.slice A8 j8 c8) (.int .i64 lo2.e)) := by rw [hX]; exact (hx4.laid _ _ _).laid_other (by omega) _ _ _
    replace H5 : Hid (Blk X (w.heap.size + 1 + 1) (.bool hi2.neg) (.slice A9 j9 c9) (.int .i64 hi2.e)) := by rw [hX]; exact hx5'.laid _ _ _
    have Z4 : Hid (DyR X (.agg #[.bool lo2.neg, .slice A8 j8 c8, .int .i64 lo2.e]) lo2.raw) := by rw [hX]; exact (z1.dyW hx4 (noLimb_bool _) (noLimb_slice _ _ _) (noLimb_i64 _) _ _ _).dyW hx5' (noLimb_bool _) (noLimb_slice _ _ _) (noLimb_i64 _) _ _ _
    have Z5 : Hid (DyR X (.agg #[.bool hi2.neg, .slice A9 j9 c9, .int .i64 hi2.e]) hi2.raw) := by rw [hX]; exact (z2.dyW hx4 (noLimb_bool _) (noLimb_slice _ _ _) (noLimb_i64 _) _ _ _).dyW hx5' (noLimb_bool _) (noLimb_slice _ _ _) (noLimb_i64 _) _ _ _
    replace K : Hid (Kept w X) := by rw [hX]; exact dyW_kept (dyW_kept (K.out.trans k1) (by omega)) (by omega)
    clear hX hx4 hx5 hx5' z1 z2 y0 y1 y2 f0 f1 f2 v0 v1 v2 g0 g1 g2 k1
    obtain ⟨-, y0, y1, y2, f0, f1, f2⟩ := H4.out.facts
    obtain ⟨-, v0, v1, v2, g0, g1, g2⟩ := H5.out.facts
    go_region
    all_goals
      go_wp2_with fail
      change bodyPost _ _ _ _ _ (dyW (dyW X (w.heap.size + 1) (.bool lo2.neg) (.slice A8 j8 c8) (.int .i64 lo2.e)) (w.heap.size + 1 + 1) (.bool hi2.neg) (.slice A9 j9 c9) (.int .i64 hi2.e)).drew
      obtain ⟨Y, hY⟩ : ∃ Y, Y = dyW (dyW X (w.heap.size + 1) (.bool lo2.neg) (.slice A8 j8 c8) (.int .i64 lo2.e)) (w.heap.size + 1 + 1) (.bool hi2.neg) (.slice A9 j9 c9) (.int .i64 hi2.e) := ⟨_, rfl⟩
      rw [← hY]
      have he := two_end hY K.out H4.out H5.out Z4.out Z5.out (by omega) (by omega) (by omega)
      exact ret_dyy he.1 he.2.1 rfl rfl rfl rfl he.2.2


end Go.Proofs.YtjdplcenniogdaaDoor
