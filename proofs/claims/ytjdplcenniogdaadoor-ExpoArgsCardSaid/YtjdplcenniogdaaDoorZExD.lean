/- Contracts of package expo: side.bound. -/
import Derived.Test.YtjdplcenniogdaaDoorZExC
namespace Go.Proofs.YtjdplcenniogdaaDoor
open Go.RowKit

def bndK (a : Dy) : Nat := (topD a + 8).toNat
def sqrS (p : Nat) (up : Bool) (x : Dy) : Dy := rndS p up (mulD x x).v
def sqrN (p : Nat) (up : Bool) : Nat → Dy → Dy
  | 0, x => x
  | n + 1, x => sqrN p up n (sqrS p up x)
def bndR (a : Dy) : Dy := (shiftD a (-(bndK a : Int))).v

theorem nearG_ok {p : Nat} {up : Bool} {r : Dy} {o : Dy × Dy} : ∀ f j s t, nearG p up r f j s t = some o → s.Ok → t.Ok → o.1.Ok ∧ o.2.Ok
  | 0, _, _, _, h, _, _ => by simp [nearG] at h
  | f + 1, j, s, t, h, hs, ht => by
    have h1 : (nearS p up s (nearT p up r t j)).Ok := rndS_ok _ _ _
    have h2 : (nearT p up r t j).Ok := (quotZ_ok _ _ _ _).1
    rw [nearG] at h
    split at h
    · obtain rfl := Option.some.inj h
      exact ⟨h1, h2⟩
    · exact nearG_ok f _ _ _ h h1 h2
theorem nearD_ok {p : Nat} {up : Bool} {o : Dy × Dy} (h : o.1.Ok ∧ o.2.Ok) : (nearD p up o).Ok := by
  unfold nearD
  split
  · exact rndS_ok _ _ _
  · exact h.1

set_option maxHeartbeats 4000000 in
set_option maxRecDepth 100000 in
theorem xbound_c {w : World} {v : Value} {p f : Nat} {up : Bool} {d : Dy} {o : Dy × Dy} (hv : DyR w v d.raw) (ok : d.Ok) (p1 : 1 ≤ p) (p2 : p ≤ 2000) (hT : Tab w) (hG : nearG p up (bndR d) f 1 one one = some o) (hf : f ≤ 1000000) :
    Calls Tryd.prog 82 #[.agg #[.int .i64 (p : Int), .bool up], v] w (RetD (sqrN p up (bndK d) (nearD p up o)).raw w) := by
  have T := Lib.hid hT
  have hb4 := bl_of_len d.m 64 ok.len
  have e1 := ok.lo
  have e2 := ok.hi
  have hkb : bndK d ≤ 1100000 := by unfold bndK topD; omega
  have hkw : IntKind.i64.wrap (topD d + 8) = topD d + 8 := wrapS (by unfold topD; omega) (by unfold topD; omega)
  have hkm : max 0 (topD d + 8) = ((bndK d : Nat) : Int) := by unfold bndK; omega
  obtain ⟨A, l, c, rfl, hs⟩ := dyR_split hv
  obtain ⟨r, hr⟩ : ∃ r, r = bndR d := ⟨_, rfl⟩
  have okr : r.Ok := by rw [hr]; exact (shiftD_ok ok _).1
  obtain ⟨x0, hx0⟩ : ∃ x0, x0 = nearD p up o := ⟨_, rfl⟩
  have okn : (nearD p up o).Ok := nearD_ok (nearG_ok _ _ _ _ hG d1_ok d1_ok)
  obtain ⟨o1, ho1⟩ : ∃ o, o = (shiftD d (-(bndK d : Int))).raw := ⟨_, rfl⟩
  have C1 := Lib.hid (fun w1 v (h : DyR w1 v d.raw) => xtop_c h ok)
  have C2 := Lib.hid (fun w1 v (k : Kept w w1) (h : DyR w1 v d.raw) => show Calls Tryd.prog 113 #[v, .int .i64 (-(bndK d : Int))] w1 (RetE o1 w1) by rw [ho1]; exact Shift_c h ok (by omega) (by omega) (T.out.kept k))
  have C3 := Lib.hid (fun w1 v (k : Kept w w1) (h : DyR w1 v o1.v) => show Calls Tryd.prog 112 #[.agg #[.int .i64 (p : Int), .bool up], v] w1 (RetD x0.raw w1) by
    rw [hx0]; rw [ho1] at h; exact xnear_c (r := bndR d) h (by rw [← hr]; exact okr) p1 p2 (T.out.kept k) hG hf)
  rw [← hx0] at okn ⊢
  clear ho1 hG okr hr
  have HS := Lib.hid hs
  have OKN := Lib.hid okn
  clear hv hs hT ok okn hb4 e1 e2 hx0 r
  obtain ⟨out, hout⟩ : ∃ out, out = sqrN p up (bndK d) x0 := ⟨_, rfl⟩
  rw [← hout]
  have HOUT := Lib.hid hout
  clear hout
  generalize bndK d = k at *
  generalize topD d = tt at *
  generalize d.raw = rr at *
  generalize d.neg = n1 at *
  generalize d.e = e1 at *
  obtain ⟨W, hW, kW, BS, BA, BR⟩ := box_s w p up (.bool n1) (.slice A l c) (.int .i64 e1)
  have HW := Lib.hid hW
  have K := Lib.hid kW
  have HB := Lib.hid BR
  have HA := Lib.hid BA
  have HP := Lib.hid BS
  clear hW kW BR BS
  obtain ⟨-, a0, a1, a2, -⟩ := BA.facts
  go_enter Tryd.func82, Tryd.ntmps82
  go_upto_region 1 with fail
  rw [← HW.out]
  clear HW
  go_wp2_with fail
  refine (C1.out _ _ (HS.out.kept K.out)).mono ?_
  rintro ee w1 ⟨rfl, q⟩
  simp only []
  replace K := Lib.hid (K.out.trans q)
  replace HB := Lib.hid (HB.out.kept q)
  replace HA := Lib.hid (HA.out.kept q)
  replace HP := Lib.hid (HP.out.kept q)
  clear q a0 a1 a2 C1 BA
  go_upto_region 2 with fail
  refine region_lin1 (m := 10) (V := VL [
      (fun v _ => v = (.agg #[.int .i64 (p : Int), .bool up])),
      (fun v _ => v = (.agg #[.bool n1, .slice A l c, .int .i64 e1])),
      (fun v _ => v = .int .i64 (k : Int)),
      (fun v _ => v = (.int .i64 (-(k : Int)))),
      (fun v wv => ∃ d, v = .tuple #[d, .int .i64 o1.k] ∧ DyR wv d o1.v),
      (fun v wv => DyR wv v o1.v),
      (fun v _ => v = (.int .i64 o1.k)),
      (fun v wv => DyR wv v o1.v),
      (fun v wv => DyR wv v x0.raw),
      (fun v wv => ∃ b, v = .pointer (some ⟨b, 0, none⟩) ∧ w1.heap.size ≤ b ∧ Blk wv b (.bool false) (.slice none 0 0) (.int .i64 0))])
    (by kernel_rfl) rfl rfl rfl (by kernel_rfl) (by kernel_rfl) (by kernel_rfl) (by kernel_rfl) (mono_of _ ⟨mono_eq _, mono_eq _, mono_eq _, mono_eq _, fun v w w' k h => by obtain ⟨d, h1, h2⟩ := h; exact ⟨d, h1, h2.kept k⟩, fun v w w' k h => by first | exact h | exact h.kept k | exact ⟨h.1, h.2.kept k⟩, mono_eq _, fun v w w' k h => by first | exact h | exact h.kept k | exact ⟨h.1, h.2.kept k⟩, fun v w w' k h => by first | exact h | exact h.kept k | exact ⟨h.1, h.2.kept k⟩, fun v w w' k h => by obtain ⟨b, h1, h2, h3⟩ := h; exact ⟨b, h1, h2, h3.kept k⟩, trivial⟩) (steps_of ⟨
      (fun aF wF F => by
    have s2 : aF.tmps.getD 2 undef = (.pointer (some ⟨w.heap.size, 0, none⟩)) := F.old 2 (by kernel_rfl)
    have c0 := cell_at HP.out F.kept 0 _ rfl
    have c1 := cell_at HP.out F.kept 1 _ rfl
    exact step_val (by simp [Region.wanted]) (by go_simp) rfl),
      (fun aF wF F => by
    have s3 : aF.tmps.getD 3 undef = (.pointer (some ⟨w.heap.size + 1, 0, none⟩)) := F.old 3 (by kernel_rfl)
    have c0 := cell_at HA.out F.kept 0 _ rfl
    have c1 := cell_at HA.out F.kept 1 _ rfl
    have c2 := cell_at HA.out F.kept 2 _ rfl
    exact step_val (by simp [Region.wanted]) (by go_simp) rfl),
      (fun aF wF F => by
    have s5 : aF.tmps.getD 5 undef = .int .i64 (k : Int) := F.old 5 (by kernel_rfl)
    exact step_val (by simp [Region.wanted]) (by go_simp) rfl),
      (fun aF wF F => by
    have s13 : aF.tmps.getD 13 undef = .int .i64 (k : Int) := F.done 2 13 (by kernel_rfl) rfl
    exact step_val (by simp [Region.wanted]) (by (go_simp; exact wrapS (by omega) (by omega))) rfl),
      (fun aF wF F => by
    have s12 : aF.tmps.getD 12 undef = (.agg #[.bool n1, .slice A l c, .int .i64 e1]) := F.done 1 12 (by kernel_rfl) rfl
    have s14 : aF.tmps.getD 14 undef = (.int .i64 (-(k : Int))) := F.done 3 14 (by kernel_rfl) rfl
    exact step_good (by simp [Region.wanted]) (by go_simp) (C2.out _ _ (K.out.trans F.kept) (HS.out.kept (K.out.trans F.kept))) (fun _ _ h => RetE.good h) (fun _ _ h => h)),
      (fun aF wF F => by
    have s15 : (fun v wv => ∃ d, v = .tuple #[d, .int .i64 o1.k] ∧ DyR wv d o1.v) (aF.tmps.getD 15 undef) wF := F.done 4 15 (by kernel_rfl) rfl
    obtain ⟨dd, ee, hh⟩ := s15; exact step_val (by simp [Region.wanted]) (by go_simp) hh),
      (fun aF wF F => by
    have s15 : (fun v wv => ∃ d, v = .tuple #[d, .int .i64 o1.k] ∧ DyR wv d o1.v) (aF.tmps.getD 15 undef) wF := F.done 4 15 (by kernel_rfl) rfl
    exact step_val (by simp [Region.wanted]) (by obtain ⟨dd, ee, hh⟩ := s15; go_simp) rfl),
      (fun aF wF F => by
    have s16 : (fun v wv => DyR wv v o1.v) (aF.tmps.getD 16 undef) wF := F.done 5 16 (by kernel_rfl) rfl
    have s17 : aF.tmps.getD 17 undef = (.int .i64 o1.k) := F.done 6 17 (by kernel_rfl) rfl
    exact step_good (by simp [Region.wanted]) (by go_simp) (xsure_c (k := o1.k) s16) (fun _ _ h => RetD.good h) (fun _ _ h => h)),
      (fun aF wF F => by
    have s11 : aF.tmps.getD 11 undef = (.agg #[.int .i64 (p : Int), .bool up]) := F.done 0 11 (by kernel_rfl) rfl
    have s18 : (fun v wv => DyR wv v o1.v) (aF.tmps.getD 18 undef) wF := F.done 7 18 (by kernel_rfl) rfl
    exact step_good (by simp [Region.wanted]) (by go_simp) (C3.out _ _ (K.out.trans F.kept) s18) (fun _ _ h => RetD.good h) (fun _ _ h => h)),
      (fun aF wF F => by
    exact step_new (by simp [Region.wanted]) (by go_simp) (kept_alloc _ _) ⟨_, rfl, F.kept.size, blk_new0 _⟩),
      trivial⟩) ?_
  intro u w1 k1 hu
  have e11 : u 0 = (.agg #[.int .i64 (p : Int), .bool up]) := hu 0 (by decide)
  have e12 : u 1 = (.agg #[.bool n1, .slice A l c, .int .i64 e1]) := hu 1 (by decide)
  have e13 : u 2 = .int .i64 (k : Int) := hu 2 (by decide)
  have e14 : u 3 = (.int .i64 (-(k : Int))) := hu 3 (by decide)
  have p15 := hu 4 (by decide)
  have p16 := hu 5 (by decide)
  have e17 : u 6 = (.int .i64 o1.k) := hu 6 (by decide)
  have p18 := hu 7 (by decide)
  have p19 := hu 8 (by decide)
  have p6 := hu 9 (by decide)
  clear hu
  simp only [puts, slotOf, if_true, Act.put, List.setIfInBounds_toArray, List.set_cons_zero, List.set_cons_succ, List.getElem?_toArray, List.getElem?_cons_zero, List.getElem?_cons_succ, Option.bind_some, e11, e12, e13, e14, e17]
  clear e11 e12 e13 e14 e17
  generalize u 4 = v15 at *
  try simp only [VL, List.getD_cons_zero, List.getD_cons_succ] at p15
  generalize u 5 = v16 at *
  try simp only [VL, List.getD_cons_zero, List.getD_cons_succ] at p16
  generalize u 7 = v18 at *
  try simp only [VL, List.getD_cons_zero, List.getD_cons_succ] at p18
  generalize u 8 = v19 at *
  try simp only [VL, List.getD_cons_zero, List.getD_cons_succ] at p19
  generalize u 9 = v6 at *
  try simp only [VL, List.getD_cons_zero, List.getD_cons_succ] at p6
  obtain ⟨b6, rfl, hb6, hx⟩ := p6
  obtain ⟨A6, j6, c6, rfl, z1⟩ := dyR_split p19
  clear p15 p16 p18 p19 C2 C3
  have l6 : w.heap.size + 1 + 1 < b6 := Nat.lt_of_lt_of_le HB.out.facts.1 hb6
  obtain ⟨-, y0, y1, y2, f0, f1, f2⟩ := hx.facts
  go_simp
  go_upto_region 3 with fail
  change Code.wp _ _ _ _ (dyW _ b6 _ _ _)
  have UD : Hid (∀ v r, DyR w1 v r → DyR (dyW w1 b6 (.bool x0.neg) (.slice A6 j6 c6) (.int .i64 x0.e)) v r) := fun _ _ h => h.dyW hx (noLimb_bool _) (noLimb_slice _ _ _) (noLimb_i64 _) _ _ _
  have UB : Hid (∀ b' x y z, Blk w1 b' x y z → ¬ b' = b6 → Blk (dyW w1 b6 (.bool x0.neg) (.slice A6 j6 c6) (.int .i64 x0.e)) b' x y z) := fun _ _ _ _ h hne => h.laid_other hne _ _ _
  have HX' := Lib.hid (hx.laid (.bool x0.neg) (.slice A6 j6 c6) (.int .i64 x0.e))
  replace K := Lib.hid (dyW_kept (x := .bool x0.neg) (y := .slice A6 j6 c6) (z := .int .i64 x0.e) (K.out.trans k1) (show w.heap.size ≤ b6 by omega))
  replace HP := Lib.hid ((HP.out.kept k1).dyW (show ¬ w.heap.size = b6 by omega) (.bool x0.neg) (.slice A6 j6 c6) (.int .i64 x0.e))
  replace HA := Lib.hid (UB.out _ _ _ _ (HA.out.kept k1) (by omega))
  replace HB := Lib.hid (UB.out _ _ _ _ (HB.out.kept k1) (by omega))
  have H6 := Lib.hid HX'.out; have Z6 := Lib.hid (UD.out _ _ z1)
  clear UD UB HX' hx y0 y1 y2 f0 f1 f2 z1 k1
  generalize dyW w1 b6 (.bool x0.neg) (.slice A6 j6 c6) (.int .i64 x0.e) = X at *
  go_wp2_with fail
  go_loopw [21] (fun i wr => ∃ (j : Nat) (x : Dy) (A0 : Option Addr) (j0 c0 : Nat), i = .int .i64 (j : Int) ∧ j ≤ k ∧ sqrN p up (k - j) x = out ∧ x.Ok ∧ Kept w wr ∧ SBlk wr w.heap.size p up ∧ Blk wr (w.heap.size + 1) (.bool n1) (.slice A l c) (.int .i64 e1) ∧
    Blk wr (w.heap.size + 1 + 1) (.bool false) (.slice none 0 0) (.int .i64 0) ∧ Blk wr b6 (.bool x.neg) (.slice A0 j0 c0) (.int .i64 x.e) ∧ DyR wr (.agg #[.bool x.neg, .slice A0 j0 c0, .int .i64 x.e]) x.raw) (fun i _ => (k - intOf i).toNat)
  case atStart => exact ⟨0, x0, A6, j6, c6, rfl, Nat.zero_le _, HOUT.out.symm, OKN.out, K.out, HP.out, HA.out, HB.out, H6.out, Z6.out⟩
  case round =>
    clear K HP HA HB H6 Z6 HOUT OKN HS
    obtain ⟨j, x, A0, j0, c0, rfl, hj, hG, ox, hK, hP, hA, hB, h6, hz6⟩ := hrel
    have K := Lib.hid hK
    have HP := Lib.hid hP
    have HA := Lib.hid hA
    have HB := Lib.hid hB
    have H6 := Lib.hid h6
    have Z6 := Lib.hid hz6
    clear hK hP hA hB h6 hz6
    by_cases hlt : j < k
    · obtain ⟨i, hi⟩ : ∃ i, k - j = i + 1 := ⟨k - j - 1, by omega⟩
      rw [hi, sqrN] at hG
      obtain ⟨x', hx'⟩ : ∃ x', x' = sqrS p up x := ⟨_, rfl⟩
      rw [← hx'] at hG
      obtain ⟨o2, ho2⟩ : ∃ o, o = (mulD x x).raw := ⟨_, rfl⟩
      have C4 := Lib.hid (fun w1 v u (k : Kept w w1) (hv : DyR w1 v x.raw) (hu : DyR w1 u x.raw) => show Calls _ _ _ w1 (RetE o2 w1) by rw [ho2]; exact Mul_c hv hu ox ox (T.out.kept k))
      have C5 := Lib.hid (fun w1 v (k : Kept w w1) (hv : DyR w1 v o2.v) => show Calls Tryd.prog 43 #[.agg #[.int .i64 (p : Int), .bool up], v] w1 (RetD x'.raw w1) by rw [hx']; rw [ho2] at hv; exact xround_c hv (mulD_ok x x).1 p1 p2 (T.out.kept k))
      have O1 : Hid x'.Ok := by rw [hx']; exact rndS_ok _ _ _
      have HG := Lib.hid hG
      have HI := Lib.hid hi
      clear ho2 hx' ox hG hi
      go_wp2_with fail
      refine region_lin1 (m := 8) (V := VL [
          (fun v _ => v = (.agg #[.int .i64 (p : Int), .bool up])),
          (fun v _ => v = (.agg #[.bool x.neg, .slice A0 j0 c0, .int .i64 x.e])),
          (fun v _ => v = (.agg #[.bool x.neg, .slice A0 j0 c0, .int .i64 x.e])),
          (fun v wv => ∃ d, v = .tuple #[d, .int .i64 o2.k] ∧ DyR wv d o2.v),
          (fun v wv => DyR wv v o2.v),
          (fun v _ => v = (.int .i64 o2.k)),
          (fun v wv => DyR wv v o2.v),
          (fun v wv => DyR wv v x'.raw)])
        (by kernel_rfl) rfl rfl rfl (by kernel_rfl) (by kernel_rfl) (by kernel_rfl) (by kernel_rfl) (mono_of _ ⟨mono_eq _, mono_eq _, mono_eq _, fun v w w' k h => by obtain ⟨d, h1, h2⟩ := h; exact ⟨d, h1, h2.kept k⟩, fun v w w' k h => by first | exact h | exact h.kept k | exact ⟨h.1, h.2.kept k⟩, mono_eq _, fun v w w' k h => by first | exact h | exact h.kept k | exact ⟨h.1, h.2.kept k⟩, fun v w w' k h => by first | exact h | exact h.kept k | exact ⟨h.1, h.2.kept k⟩, trivial⟩) (steps_of ⟨
          (fun aF wF F => by
        have s2 : aF.tmps.getD 2 undef = (.pointer (some ⟨w.heap.size, 0, none⟩)) := F.old 2 (by kernel_rfl)
        have c0 := cell_at HP.out F.kept 0 _ rfl
        have c1 := cell_at HP.out F.kept 1 _ rfl
        exact step_val (by simp [Region.wanted]) (by go_simp) rfl),
          (fun aF wF F => by
        have s6 : aF.tmps.getD 6 undef = (.pointer (some ⟨b6, 0, none⟩)) := F.old 6 (by kernel_rfl)
        have c0 := cell_at H6.out F.kept 0 _ rfl
        have c1 := cell_at H6.out F.kept 1 _ rfl
        have c2 := cell_at H6.out F.kept 2 _ rfl
        exact step_val (by simp [Region.wanted]) (by go_simp) rfl),
          (fun aF wF F => by
        have s6 : aF.tmps.getD 6 undef = (.pointer (some ⟨b6, 0, none⟩)) := F.old 6 (by kernel_rfl)
        have c0 := cell_at H6.out F.kept 0 _ rfl
        have c1 := cell_at H6.out F.kept 1 _ rfl
        have c2 := cell_at H6.out F.kept 2 _ rfl
        exact step_val (by simp [Region.wanted]) (by go_simp) rfl),
          (fun aF wF F => by
        have s24 : aF.tmps.getD 24 undef = (.agg #[.bool x.neg, .slice A0 j0 c0, .int .i64 x.e]) := F.done 1 24 (by kernel_rfl) rfl
        have s25 : aF.tmps.getD 25 undef = (.agg #[.bool x.neg, .slice A0 j0 c0, .int .i64 x.e]) := F.done 2 25 (by kernel_rfl) rfl
        exact step_good (by simp [Region.wanted]) (by go_simp) (C4.out _ _ _ (K.out.trans F.kept) (Z6.out.kept F.kept) (Z6.out.kept F.kept)) (fun _ _ h => RetE.good h) (fun _ _ h => h)),
          (fun aF wF F => by
        have s26 : (fun v wv => ∃ d, v = .tuple #[d, .int .i64 o2.k] ∧ DyR wv d o2.v) (aF.tmps.getD 26 undef) wF := F.done 3 26 (by kernel_rfl) rfl
        obtain ⟨dd, ee, hh⟩ := s26; exact step_val (by simp [Region.wanted]) (by go_simp) hh),
          (fun aF wF F => by
        have s26 : (fun v wv => ∃ d, v = .tuple #[d, .int .i64 o2.k] ∧ DyR wv d o2.v) (aF.tmps.getD 26 undef) wF := F.done 3 26 (by kernel_rfl) rfl
        exact step_val (by simp [Region.wanted]) (by obtain ⟨dd, ee, hh⟩ := s26; go_simp) rfl),
          (fun aF wF F => by
        have s27 : (fun v wv => DyR wv v o2.v) (aF.tmps.getD 27 undef) wF := F.done 4 27 (by kernel_rfl) rfl
        have s28 : aF.tmps.getD 28 undef = (.int .i64 o2.k) := F.done 5 28 (by kernel_rfl) rfl
        exact step_good (by simp [Region.wanted]) (by go_simp) (xsure_c (k := o2.k) s27) (fun _ _ h => RetD.good h) (fun _ _ h => h)),
          (fun aF wF F => by
        have s23 : aF.tmps.getD 23 undef = (.agg #[.int .i64 (p : Int), .bool up]) := F.done 0 23 (by kernel_rfl) rfl
        have s29 : (fun v wv => DyR wv v o2.v) (aF.tmps.getD 29 undef) wF := F.done 6 29 (by kernel_rfl) rfl
        exact step_good (by simp [Region.wanted]) (by go_simp) (C5.out _ _ (K.out.trans F.kept) s29) (fun _ _ h => RetD.good h) (fun _ _ h => h)),
          trivial⟩) ?_
      intro u w1 k1 hu
      have e23 : u 0 = (.agg #[.int .i64 (p : Int), .bool up]) := hu 0 (by decide)
      have e24 : u 1 = (.agg #[.bool x.neg, .slice A0 j0 c0, .int .i64 x.e]) := hu 1 (by decide)
      have e25 : u 2 = (.agg #[.bool x.neg, .slice A0 j0 c0, .int .i64 x.e]) := hu 2 (by decide)
      have p26 := hu 3 (by decide)
      have p27 := hu 4 (by decide)
      have e28 : u 5 = (.int .i64 o2.k) := hu 5 (by decide)
      have p29 := hu 6 (by decide)
      have p30 := hu 7 (by decide)
      clear hu
      simp only [puts, slotOf, if_true, Act.put, List.setIfInBounds_toArray, List.set_cons_zero, List.set_cons_succ, List.getElem?_toArray, List.getElem?_cons_zero, List.getElem?_cons_succ, Option.bind_some, e23, e24, e25, e28]
      clear e23 e24 e25 e28
      generalize u 3 = v26 at *
      try simp only [VL, List.getD_cons_zero, List.getD_cons_succ] at p26
      generalize u 4 = v27 at *
      try simp only [VL, List.getD_cons_zero, List.getD_cons_succ] at p27
      generalize u 6 = v29 at *
      try simp only [VL, List.getD_cons_zero, List.getD_cons_succ] at p29
      generalize u 7 = v30 at *
      try simp only [VL, List.getD_cons_zero, List.getD_cons_succ] at p30
      obtain ⟨A7, j7, c7, rfl, z1⟩ := dyR_split p30
      clear p26 p27 p29 p30 C4 C5
      have hx := H6.out.kept k1
      obtain ⟨-, y0, y1, y2, f0, f1, f2⟩ := hx.facts
      go_upto_region 6 with fail
      change Code.wp _ _ _ _ (dyW _ b6 _ _ _)
      have UD : Hid (∀ v r, DyR w1 v r → DyR (dyW w1 b6 (.bool x'.neg) (.slice A7 j7 c7) (.int .i64 x'.e)) v r) := fun _ _ h => h.dyW hx (noLimb_bool _) (noLimb_slice _ _ _) (noLimb_i64 _) _ _ _
      have UB : Hid (∀ b' x y z, Blk w1 b' x y z → ¬ b' = b6 → Blk (dyW w1 b6 (.bool x'.neg) (.slice A7 j7 c7) (.int .i64 x'.e)) b' x y z) := fun _ _ _ _ h hne => h.laid_other hne _ _ _
      have HX' := Lib.hid (hx.laid (.bool x'.neg) (.slice A7 j7 c7) (.int .i64 x'.e))
      replace K := Lib.hid (dyW_kept (x := .bool x'.neg) (y := .slice A7 j7 c7) (z := .int .i64 x'.e) (K.out.trans k1) (show w.heap.size ≤ b6 by omega))
      replace HP := Lib.hid ((HP.out.kept k1).dyW (show ¬ w.heap.size = b6 by omega) (.bool x'.neg) (.slice A7 j7 c7) (.int .i64 x'.e))
      replace HA := Lib.hid (UB.out _ _ _ _ (HA.out.kept k1) (by omega))
      replace HB := Lib.hid (UB.out _ _ _ _ (HB.out.kept k1) (by omega))
      replace H6 := Lib.hid HX'.out; replace Z6 := Lib.hid (UD.out _ _ z1)
      clear UD UB HX' hx y0 y1 y2 f0 f1 f2 z1 k1
      generalize dyW w1 b6 (.bool x'.neg) (.slice A7 j7 c7) (.int .i64 x'.e) = X at *
      go_wp2_with fail
      go_roundw
      case rel => exact ⟨j + 1, x', A7, j7, c7, by go_num, by omega, by rw [show k - (j + 1) = i by have := HI.out; omega]; exact HG.out, O1.out, K.out, HP.out, HA.out, HB.out, H6.out, Z6.out⟩
      case measure => simp [intOf]; omega
    · obtain rfl : j = k := by omega
      rw [Nat.sub_self, sqrN] at hG
      have HG := Lib.hid hG
      clear hG
      obtain ⟨-, y0, y1, y2, -⟩ := H6.out.facts
      obtain ⟨-, x0, x1, x2, f0, f1, f2⟩ := HB.out.facts
      go_wp2_with fail
      exact ret_dy (HB.out.laid _ _ _) rfl rfl rfl ⟨dyW_kept K.out (by omega), _, rfl, by rw [← HG.out]; exact Z6.out.dyW HB.out (noLimb_bool _) (noLimb_slice _ _ _) (noLimb_i64 _) _ _ _⟩


end Go.Proofs.YtjdplcenniogdaaDoor
