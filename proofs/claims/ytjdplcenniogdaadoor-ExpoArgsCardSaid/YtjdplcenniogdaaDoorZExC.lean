/- Contracts of package expo: near. -/
import Derived.Test.YtjdplcenniogdaaDoorZExB
import Derived.Deep.CutRange
import Derived.Deep.DeepCutAuto
namespace Go.Proofs.YtjdplcenniogdaaDoor
open Go.RowKit

def ofN (j : Nat) : Dy := (fitD false j 0).v
def nearT (p : Nat) (up : Bool) (r term : Dy) (j : Nat) : Dy := (quotZ (mulD term r).v (ofN j) p up).v
def nearS (p : Nat) (up : Bool) (sum t : Dy) : Dy := rndS p up (sumD sum t).v
/-- The rounds of near's loop: what is summed, the last term. -/
def nearG (p : Nat) (up : Bool) (r : Dy) : Nat → Nat → Dy → Dy → Option (Dy × Dy)
  | 0, _, _, _ => none
  | f + 1, j, sum, term =>
    if topD (nearT p up r term j) < -(p : Int) - 8 then some (nearS p up sum (nearT p up r term j), nearT p up r term j)
    else nearG p up r f (j + 1) (nearS p up sum (nearT p up r term j)) (nearT p up r term j)
def one : Dy := ⟨false, 1, 0⟩
def nearD (p : Nat) (up : Bool) (o : Dy × Dy) : Dy := if up then nearS p true o.1 o.2 else o.1

theorem wrapS {x : Int} (h1 : -9223372036854775808 ≤ x) (h2 : x ≤ 9223372036854775807) : IntKind.i64.wrap x = x := by simp [IntKind.wrap_i64]; omega
theorem two_new (V : World) (x y z : Value) : Kept V ((V.alloc (.cells #[x, y, z] 24)).alloc (.cells #[x, y, z] 24)).drew ∧
    Blk ((V.alloc (.cells #[x, y, z] 24)).alloc (.cells #[x, y, z] 24)).drew V.heap.size x y z ∧
    Blk ((V.alloc (.cells #[x, y, z] 24)).alloc (.cells #[x, y, z] 24)).drew (V.heap.size + 1) x y z :=
  ⟨have h := (kept_alloc V (.cells #[x, y, z] 24)).trans (kept_alloc (V.alloc (.cells #[x, y, z] 24)) (.cells #[x, y, z] 24)); ⟨h.os, h.tape, h.output, h.size, h.block⟩,
   show Blk ((V.alloc (.cells #[x, y, z] 24)).alloc (.cells #[x, y, z] 24)) V.heap.size x y z from (blk_new _ _ _ _).kept (kept_alloc _ _),
   show Blk ((V.alloc (.cells #[x, y, z] 24)).alloc (.cells #[x, y, z] 24)) (V.heap.size + 1) x y z from blk_new1 _ _ _ _ _⟩

set_option maxHeartbeats 4000000 in
set_option maxRecDepth 100000 in
theorem xnear_c {w : World} {v : Value} {p f : Nat} {up : Bool} {r : Dy} {o : Dy × Dy} (hv : DyR w v r.raw) (ok : r.Ok) (p1 : 1 ≤ p) (p2 : p ≤ 2000) (hT : Tab w) (hG : nearG p up r f 1 one one = some o) (hf : f ≤ 1000000) :
    Calls Tryd.prog 112 #[.agg #[.int .i64 (p : Int), .bool up], v] w (RetD (nearD p up o).raw w) := by
  have T := Lib.hid hT
  have CO := Lib.hid (fun w1 (k : Kept w w1) => show Calls Tryd.prog 41 #[.int .i64 1, .int .i64 0] w1 (RetE ⟨one.raw, 0⟩ w1) by
    have h := Of_pos (w := w1) (k := 1) (e := 0) (by decide) (by decide) (by decide) (hT.kept k)
    rw [fit_1] at h
    exact h)
  obtain ⟨A, l, c, rfl, hs⟩ := dyR_split hv
  have HS := Lib.hid hs
  have OK := Lib.hid ok
  clear hv hs hT ok
  obtain ⟨n1, hn1⟩ : ∃ x, r.neg = x := ⟨_, rfl⟩
  obtain ⟨e1, he1⟩ : ∃ x, r.e = x := ⟨_, rfl⟩
  rw [hn1, he1] at HS ⊢
  clear hn1 he1
  obtain ⟨W, hW, kW, BS, BA, BR⟩ := box_s w p up (.bool n1) (.slice A l c) (.int .i64 e1)
  have HW := Lib.hid hW
  have K := Lib.hid kW
  have HB := Lib.hid BR
  have HA := Lib.hid BA
  have HP := Lib.hid BS
  have HG := Lib.hid hG
  clear hW kW BR BS BA hG
  go_enter Tryd.func112, Tryd.ntmps112
  go_wp2_with fail
  rw [← HW.out]
  clear HW
  go_step3
  go_wp2_with fail
  refine (CO.out _ K.out).mono ?_
  rintro ee w1 ⟨q, u, rfl, hd⟩
  simp only []
  replace K := Lib.hid (K.out.trans q)
  replace HB := Lib.hid (HB.out.kept q)
  replace HA := Lib.hid (HA.out.kept q)
  replace HP := Lib.hid (HP.out.kept q)
  have HD := Lib.hid hd
  clear q hd CO
  go_wp2_with fail
  refine (xsure_c HD.out).mono ?_
  rintro ee w2 ⟨q, v2, rfl, hd2⟩
  obtain ⟨A', l', c', rfl, hd3⟩ := dyR_split hd2
  simp only []
  obtain ⟨V, hV, kV, hb, lV⟩ := boxF w2 (.bool one.neg) (.slice A' l' c') (.int .i64 one.e)
  have HV := Lib.hid hV
  have kk := q.trans kV
  have l5 : w.heap.size + 1 + 1 < w2.heap.size := Nat.lt_of_lt_of_le HB.out.facts.1 q.size
  replace K := Lib.hid (K.out.trans kk)
  replace HB := Lib.hid (HB.out.kept kk)
  replace HA := Lib.hid (HA.out.kept kk)
  replace HP := Lib.hid (HP.out.kept kk)
  have H5 := Lib.hid hb
  have Z5 := Lib.hid (hd3.kept kV)
  clear hV kV hb kk q hd2 hd3 HD
  go_upto_region 2 with fail
  rw [← HV.out]
  clear HV
  generalize w2.heap.size = b5 at *
  obtain ⟨-, a0, a1, a2, -⟩ := H5.out.facts
  go_cut [6, 7] (fun s6 s7 wx => ∃ b6 b7 : Nat, s6 = .pointer (some ⟨b6, 0, none⟩) ∧ s7 = .pointer (some ⟨b7, 0, none⟩) ∧ b5 < b6 ∧ b5 < b7 ∧ ¬ b6 = b7 ∧ Blk wx b6 (.bool one.neg) (.slice A' l' c') (.int .i64 one.e) ∧ Blk wx b7 (.bool one.neg) (.slice A' l' c') (.int .i64 one.e) ∧ Kept V wx)
  case first =>
    go_region
    all_goals
      go_wp2_with fail
      go_meet
      exact ⟨_, _, rfl, rfl, by omega, by omega, by omega, by first | exact (two_new V _ _ _).2.1 | exact (two_new V _ _ _).2.2, by first | exact (two_new V _ _ _).2.1 | exact (two_new V _ _ _).2.2, (two_new V _ _ _).1⟩
  obtain ⟨b6, b7, rfl, rfl, l6, l7, hne, B6, B7, kk⟩ := hcut
  replace K := Lib.hid (K.out.trans kk)
  replace HB := Lib.hid (HB.out.kept kk)
  replace HA := Lib.hid (HA.out.kept kk)
  replace HP := Lib.hid (HP.out.kept kk)
  have H6 := Lib.hid B6
  have H7 := Lib.hid B7
  have Z6 := Lib.hid (Z5.out.kept kk)
  clear B6 B7 kk a0 a1 a2 lV Z5 H5
  go_wp2_with fail
  go_step3
  go_wp2_with fail
  go_loopw [8] (fun j wr => ∃ (g jn : Nat) (s t : Dy) (As At : Option Addr) (ls cs lt ct : Nat), j = .int .i64 (jn : Int) ∧ jn + g = f + 1 ∧ nearG p up r g jn s t = some o ∧ s.Ok ∧ t.Ok ∧ 1 ≤ jn ∧ Kept w wr ∧ SBlk wr w.heap.size p up ∧ Blk wr (w.heap.size + 1) (.bool n1) (.slice A l c) (.int .i64 e1) ∧
    Blk wr (w.heap.size + 1 + 1) (.bool false) (.slice none 0 0) (.int .i64 0) ∧ Blk wr b6 (.bool s.neg) (.slice As ls cs) (.int .i64 s.e) ∧ DyR wr (.agg #[.bool s.neg, .slice As ls cs, .int .i64 s.e]) s.raw ∧
    Blk wr b7 (.bool t.neg) (.slice At lt ct) (.int .i64 t.e) ∧ DyR wr (.agg #[.bool t.neg, .slice At lt ct, .int .i64 t.e]) t.raw) (fun j _ => (f + 2 - intOf j).toNat)
  case atStart => exact ⟨f, 1, one, one, A', A', l', c', l', c', rfl, by omega, HG.out, d1_ok, d1_ok, Nat.le_refl _, K.out, HP.out, HA.out, HB.out, H6.out, Z6.out, H7.out, Z6.out⟩
  case round =>
    clear HG K HP HA HB H6 Z6 H7
    obtain ⟨g, jn, s, t, As, At, ls, cs, lt, ct, rfl, hj, hG, os, ot, hj1, hK, hP, hA, hB, h6, hz6, h7, hz7⟩ := hrel
    have K := Lib.hid hK
    have HP := Lib.hid hP
    have HA := Lib.hid hA
    have HB := Lib.hid hB
    have H6 := Lib.hid h6
    have H7 := Lib.hid h7
    have Z6 := Lib.hid hz6
    have Z7 := Lib.hid hz7
    have lb : w.heap.size + 1 + 1 < b5 := l5
    clear hK hP hA hB h6 hz6 h7 hz7
    cases g with
    | zero => simp [nearG] at hG
    | succ g =>
      obtain ⟨t', ht'⟩ : ∃ t', t' = nearT p up r t jn := ⟨_, rfl⟩
      obtain ⟨s', hs'⟩ : ∃ s', s' = nearS p up s t' := ⟨_, rfl⟩
      rw [nearG, ← ht', ← hs'] at hG
      have ot' : t'.Ok := by rw [ht']; exact (quotZ_ok _ _ _ _).1
      have os' : s'.Ok := by rw [hs']; exact rndS_ok _ _ _
      have oj : (ofN jn).Ok := (fitD_ok _ _ _).1
      obtain ⟨o1, ho1⟩ : ∃ o, o = (mulD t r).raw := ⟨_, rfl⟩
      obtain ⟨o2, ho2⟩ : ∃ o, o = (fitD false jn 0).raw := ⟨_, rfl⟩
      obtain ⟨o3, ho3⟩ : ∃ o, o = (quotZ (mulD t r).v (ofN jn) p up).raw := ⟨_, rfl⟩
      obtain ⟨o4, ho4⟩ : ∃ o, o = (sumD s t').raw := ⟨_, rfl⟩
      have C1 := Lib.hid (fun w1 v u (k : Kept w w1) (hv : DyR w1 v t.raw) (hu : DyR w1 u r.raw) => show Calls _ _ _ w1 (RetE o1 w1) by rw [ho1]; exact Mul_c hv hu ot OK.out (T.out.kept k))
      have C2 := Lib.hid (fun w1 (k : Kept w w1) => show Calls Tryd.prog 41 #[.int .i64 (jn : Int), .int .i64 0] w1 (RetE o2 w1) by rw [ho2]; exact Of_pos (by omega) (by decide) (by decide) (T.out.kept k))
      have C3 := Lib.hid (fun w1 v u (k : Kept w w1) (hv : DyR w1 v o1.v) (hu : DyR w1 u o2.v) => show Calls Tryd.prog 51 #[v, u, .int .i64 (p : Int), .bool up] w1 (RetE o3 w1) by rw [ho3]; rw [ho1] at hv; rw [ho2] at hu; exact quot_c hv hu (mulD_ok t r).1 oj (T.out.kept k) p1 p2)
      have R3 : Hid (o3.v = t'.raw) := by rw [ho3, ht']; rfl
      have C4 := Lib.hid (fun w1 v u (k : Kept w w1) (hv : DyR w1 v s.raw) (hu : DyR w1 u t'.raw) => show Calls _ _ _ w1 (RetE o4 w1) by rw [ho4]; exact Add_c hv hu os ot' (T.out.kept k))
      have C5 := Lib.hid (fun w1 v (k : Kept w w1) (hv : DyR w1 v o4.v) => show Calls Tryd.prog 43 #[.agg #[.int .i64 (p : Int), .bool up], v] w1 (RetD s'.raw w1) by rw [hs']; rw [ho4] at hv; exact xround_c hv (sumD_ok os ot').1 p1 p2 (T.out.kept k))
      have C6 := Lib.hid (fun w1 v (hv : DyR w1 v t'.raw) => xtop_c hv ot')
      obtain ⟨bb, hbb⟩ : ∃ bb, decide (topD t' < -(p : Int) - 8) = bb := ⟨_, rfl⟩
      have HC := Lib.hid hbb
      have HG := Lib.hid hG
      have O1 := Lib.hid os'
      have O2 := Lib.hid ot'
      clear ho1 ho2 ho3 ho4 hG oj os ot ht' hs' hbb os' ot'
      generalize topD t' = tt at *
      go_wp2_with fail
      refine region_lin1 (m := 19) (V := VL [
          (fun v _ => v = (.agg #[.bool t.neg, .slice At lt ct, .int .i64 t.e])),
          (fun v _ => v = (.agg #[.bool n1, .slice A l c, .int .i64 e1])),
          (fun v wv => ∃ d, v = .tuple #[d, .int .i64 o1.k] ∧ DyR wv d o1.v),
          (fun v wv => DyR wv v o1.v),
          (fun v _ => v = (.int .i64 o1.k)),
          (fun v wv => DyR wv v o1.v),
          (fun v _ => v = .int .i64 (jn : Int)),
          (fun v wv => ∃ d, v = .tuple #[d, .int .i64 o2.k] ∧ DyR wv d o2.v),
          (fun v wv => DyR wv v o2.v),
          (fun v _ => v = (.int .i64 o2.k)),
          (fun v wv => DyR wv v o2.v),
          (fun v _ => v = (.pointer (some ⟨w.heap.size, 0, none⟩))),
          (fun v _ => v = (.int .i64 (p : Int))),
          (fun v _ => v = (.pointer (some ⟨w.heap.size, 1, none⟩))),
          (fun v _ => v = (.bool up)),
          (fun v wv => ∃ d, v = .tuple #[d, .int .i64 o3.k] ∧ DyR wv d o3.v),
          (fun v wv => DyR wv v o3.v),
          (fun v _ => v = (.int .i64 o3.k)),
          (fun v wv => DyR wv v o3.v)])
        (by kernel_rfl) rfl rfl rfl (by kernel_rfl) (by kernel_rfl) (by kernel_rfl) (by kernel_rfl) (mono_of _ ⟨mono_eq _, mono_eq _, fun v w w' k h => by obtain ⟨d, h1, h2⟩ := h; exact ⟨d, h1, h2.kept k⟩, fun v w w' k h => by first | exact h | exact h.kept k | exact ⟨h.1, h.2.kept k⟩, mono_eq _, fun v w w' k h => by first | exact h | exact h.kept k | exact ⟨h.1, h.2.kept k⟩, mono_eq _, fun v w w' k h => by obtain ⟨d, h1, h2⟩ := h; exact ⟨d, h1, h2.kept k⟩, fun v w w' k h => by first | exact h | exact h.kept k | exact ⟨h.1, h.2.kept k⟩, mono_eq _, fun v w w' k h => by first | exact h | exact h.kept k | exact ⟨h.1, h.2.kept k⟩, mono_eq _, mono_eq _, mono_eq _, mono_eq _, fun v w w' k h => by obtain ⟨d, h1, h2⟩ := h; exact ⟨d, h1, h2.kept k⟩, fun v w w' k h => by first | exact h | exact h.kept k | exact ⟨h.1, h.2.kept k⟩, mono_eq _, fun v w w' k h => by first | exact h | exact h.kept k | exact ⟨h.1, h.2.kept k⟩, trivial⟩) (steps_of ⟨
          (fun aF wF F => by
        have s7 : aF.tmps.getD 7 undef = (.pointer (some ⟨b7, 0, none⟩)) := F.old 7 (by kernel_rfl)
        have c0 := cell_at H7.out F.kept 0 _ rfl
        have c1 := cell_at H7.out F.kept 1 _ rfl
        have c2 := cell_at H7.out F.kept 2 _ rfl
        exact step_val (by simp [Region.wanted]) (by go_simp) rfl),
          (fun aF wF F => by
        have s3 : aF.tmps.getD 3 undef = (.pointer (some ⟨w.heap.size + 1, 0, none⟩)) := F.old 3 (by kernel_rfl)
        have c0 := cell_at HA.out F.kept 0 _ rfl
        have c1 := cell_at HA.out F.kept 1 _ rfl
        have c2 := cell_at HA.out F.kept 2 _ rfl
        exact step_val (by simp [Region.wanted]) (by go_simp) rfl),
          (fun aF wF F => by
        have s17 : aF.tmps.getD 17 undef = (.agg #[.bool t.neg, .slice At lt ct, .int .i64 t.e]) := F.done 0 17 (by kernel_rfl) rfl
        have s18 : aF.tmps.getD 18 undef = (.agg #[.bool n1, .slice A l c, .int .i64 e1]) := F.done 1 18 (by kernel_rfl) rfl
        exact step_good (by simp [Region.wanted]) (by go_simp) (C1.out _ _ _ (K.out.trans F.kept) (Z7.out.kept F.kept) (HS.out.kept (K.out.trans F.kept))) (fun _ _ h => RetE.good h) (fun _ _ h => h)),
          (fun aF wF F => by
        have s19 : (fun v wv => ∃ d, v = .tuple #[d, .int .i64 o1.k] ∧ DyR wv d o1.v) (aF.tmps.getD 19 undef) wF := F.done 2 19 (by kernel_rfl) rfl
        obtain ⟨dd, ee, hh⟩ := s19; exact step_val (by simp [Region.wanted]) (by go_simp) hh),
          (fun aF wF F => by
        have s19 : (fun v wv => ∃ d, v = .tuple #[d, .int .i64 o1.k] ∧ DyR wv d o1.v) (aF.tmps.getD 19 undef) wF := F.done 2 19 (by kernel_rfl) rfl
        exact step_val (by simp [Region.wanted]) (by obtain ⟨dd, ee, hh⟩ := s19; go_simp) rfl),
          (fun aF wF F => by
        have s20 : (fun v wv => DyR wv v o1.v) (aF.tmps.getD 20 undef) wF := F.done 3 20 (by kernel_rfl) rfl
        have s21 : aF.tmps.getD 21 undef = (.int .i64 o1.k) := F.done 4 21 (by kernel_rfl) rfl
        exact step_good (by simp [Region.wanted]) (by go_simp) (xsure_c (k := o1.k) s20) (fun _ _ h => RetD.good h) (fun _ _ h => h)),
          (fun aF wF F => by
        have s8 : aF.tmps.getD 8 undef = .int .i64 (jn : Int) := F.old 8 (by kernel_rfl)
        exact step_val (by simp [Region.wanted]) (by go_simp) rfl),
          (fun aF wF F => by
        have s23 : aF.tmps.getD 23 undef = .int .i64 (jn : Int) := F.done 6 23 (by kernel_rfl) rfl
        exact step_good (by simp [Region.wanted]) (by go_simp) (C2.out _ (K.out.trans F.kept)) (fun _ _ h => RetE.good h) (fun _ _ h => h)),
          (fun aF wF F => by
        have s24 : (fun v wv => ∃ d, v = .tuple #[d, .int .i64 o2.k] ∧ DyR wv d o2.v) (aF.tmps.getD 24 undef) wF := F.done 7 24 (by kernel_rfl) rfl
        obtain ⟨dd, ee, hh⟩ := s24; exact step_val (by simp [Region.wanted]) (by go_simp) hh),
          (fun aF wF F => by
        have s24 : (fun v wv => ∃ d, v = .tuple #[d, .int .i64 o2.k] ∧ DyR wv d o2.v) (aF.tmps.getD 24 undef) wF := F.done 7 24 (by kernel_rfl) rfl
        exact step_val (by simp [Region.wanted]) (by obtain ⟨dd, ee, hh⟩ := s24; go_simp) rfl),
          (fun aF wF F => by
        have s25 : (fun v wv => DyR wv v o2.v) (aF.tmps.getD 25 undef) wF := F.done 8 25 (by kernel_rfl) rfl
        have s26 : aF.tmps.getD 26 undef = (.int .i64 o2.k) := F.done 9 26 (by kernel_rfl) rfl
        exact step_good (by simp [Region.wanted]) (by go_simp) (xsure_c (k := o2.k) s25) (fun _ _ h => RetD.good h) (fun _ _ h => h)),
          (fun aF wF F => by
        have s2 : aF.tmps.getD 2 undef = (.pointer (some ⟨w.heap.size, 0, none⟩)) := F.old 2 (by kernel_rfl)
        exact step_val (by simp [Region.wanted]) (by go_simp) rfl),
          (fun aF wF F => by
        have s28 : aF.tmps.getD 28 undef = (.pointer (some ⟨w.heap.size, 0, none⟩)) := F.done 11 28 (by kernel_rfl) rfl
        have c0 := cell_at HP.out F.kept 0 _ rfl
        exact step_val (by simp [Region.wanted]) (by go_simp) rfl),
          (fun aF wF F => by
        have s2 : aF.tmps.getD 2 undef = (.pointer (some ⟨w.heap.size, 0, none⟩)) := F.old 2 (by kernel_rfl)
        exact step_val (by simp [Region.wanted]) (by go_simp) rfl),
          (fun aF wF F => by
        have s30 : aF.tmps.getD 30 undef = (.pointer (some ⟨w.heap.size, 1, none⟩)) := F.done 13 30 (by kernel_rfl) rfl
        have c0 := cell_at HP.out F.kept 1 _ rfl
        exact step_val (by simp [Region.wanted]) (by go_simp) rfl),
          (fun aF wF F => by
        have s22 : (fun v wv => DyR wv v o1.v) (aF.tmps.getD 22 undef) wF := F.done 5 22 (by kernel_rfl) rfl
        have s27 : (fun v wv => DyR wv v o2.v) (aF.tmps.getD 27 undef) wF := F.done 10 27 (by kernel_rfl) rfl
        have s29 : aF.tmps.getD 29 undef = (.int .i64 (p : Int)) := F.done 12 29 (by kernel_rfl) rfl
        have s31 : aF.tmps.getD 31 undef = (.bool up) := F.done 14 31 (by kernel_rfl) rfl
        exact step_good (by simp [Region.wanted]) (by go_simp) (C3.out _ _ _ (K.out.trans F.kept) s22 s27) (fun _ _ h => RetE.good h) (fun _ _ h => h)),
          (fun aF wF F => by
        have s32 : (fun v wv => ∃ d, v = .tuple #[d, .int .i64 o3.k] ∧ DyR wv d o3.v) (aF.tmps.getD 32 undef) wF := F.done 15 32 (by kernel_rfl) rfl
        obtain ⟨dd, ee, hh⟩ := s32; exact step_val (by simp [Region.wanted]) (by go_simp) hh),
          (fun aF wF F => by
        have s32 : (fun v wv => ∃ d, v = .tuple #[d, .int .i64 o3.k] ∧ DyR wv d o3.v) (aF.tmps.getD 32 undef) wF := F.done 15 32 (by kernel_rfl) rfl
        exact step_val (by simp [Region.wanted]) (by obtain ⟨dd, ee, hh⟩ := s32; go_simp) rfl),
          (fun aF wF F => by
        have s33 : (fun v wv => DyR wv v o3.v) (aF.tmps.getD 33 undef) wF := F.done 16 33 (by kernel_rfl) rfl
        have s34 : aF.tmps.getD 34 undef = (.int .i64 o3.k) := F.done 17 34 (by kernel_rfl) rfl
        exact step_good (by simp [Region.wanted]) (by go_simp) (xsure_c (k := o3.k) s33) (fun _ _ h => RetD.good h) (fun _ _ h => h)),
          trivial⟩) ?_
      intro u w1 k1 hu
      have e17 : u 0 = (.agg #[.bool t.neg, .slice At lt ct, .int .i64 t.e]) := hu 0 (by decide)
      have e18 : u 1 = (.agg #[.bool n1, .slice A l c, .int .i64 e1]) := hu 1 (by decide)
      have p19 := hu 2 (by decide)
      have p20 := hu 3 (by decide)
      have e21 : u 4 = (.int .i64 o1.k) := hu 4 (by decide)
      have p22 := hu 5 (by decide)
      have e23 : u 6 = .int .i64 (jn : Int) := hu 6 (by decide)
      have p24 := hu 7 (by decide)
      have p25 := hu 8 (by decide)
      have e26 : u 9 = (.int .i64 o2.k) := hu 9 (by decide)
      have p27 := hu 10 (by decide)
      have e28 : u 11 = (.pointer (some ⟨w.heap.size, 0, none⟩)) := hu 11 (by decide)
      have e29 : u 12 = (.int .i64 (p : Int)) := hu 12 (by decide)
      have e30 : u 13 = (.pointer (some ⟨w.heap.size, 1, none⟩)) := hu 13 (by decide)
      have e31 : u 14 = (.bool up) := hu 14 (by decide)
      have p32 := hu 15 (by decide)
      have p33 := hu 16 (by decide)
      have e34 : u 17 = (.int .i64 o3.k) := hu 17 (by decide)
      have p35 := hu 18 (by decide)
      clear hu
      simp only [puts, slotOf, if_true, Act.put, List.setIfInBounds_toArray, List.set_cons_zero, List.set_cons_succ, List.getElem?_toArray, List.getElem?_cons_zero, List.getElem?_cons_succ, Option.bind_some, e17, e18, e21, e23, e26, e28, e29, e30, e31, e34]
      clear e17 e18 e21 e23 e26 e28 e29 e30 e31 e34
      generalize u 2 = v19 at *
      try simp only [VL, List.getD_cons_zero, List.getD_cons_succ] at p19
      generalize u 3 = v20 at *
      try simp only [VL, List.getD_cons_zero, List.getD_cons_succ] at p20
      generalize u 5 = v22 at *
      try simp only [VL, List.getD_cons_zero, List.getD_cons_succ] at p22
      generalize u 7 = v24 at *
      try simp only [VL, List.getD_cons_zero, List.getD_cons_succ] at p24
      generalize u 8 = v25 at *
      try simp only [VL, List.getD_cons_zero, List.getD_cons_succ] at p25
      generalize u 10 = v27 at *
      try simp only [VL, List.getD_cons_zero, List.getD_cons_succ] at p27
      generalize u 15 = v32 at *
      try simp only [VL, List.getD_cons_zero, List.getD_cons_succ] at p32
      generalize u 16 = v33 at *
      try simp only [VL, List.getD_cons_zero, List.getD_cons_succ] at p33
      generalize u 18 = v35 at *
      try simp only [VL, List.getD_cons_zero, List.getD_cons_succ] at p35
      rw [R3.out] at p35
      obtain ⟨A7, j7, c7, rfl, z1⟩ := dyR_split p35
      clear p19 p20 p22 p24 p25 p27 p32 p33 p35 C1 C2 C3 R3
      have hx := H7.out.kept k1
      obtain ⟨-, x0, x1, x2, f0, f1, f2⟩ := hx.facts
      go_upto_region 6 with fail
      change Code.wp _ _ _ _ (dyW _ b7 _ _ _)
      have UD : Hid (∀ v r, DyR w1 v r → DyR (dyW w1 b7 (.bool t'.neg) (.slice A7 j7 c7) (.int .i64 t'.e)) v r) := fun _ _ h => h.dyW hx (noLimb_bool _) (noLimb_slice _ _ _) (noLimb_i64 _) _ _ _
      have UB : Hid (∀ b' x y z, Blk w1 b' x y z → ¬ b' = b7 → Blk (dyW w1 b7 (.bool t'.neg) (.slice A7 j7 c7) (.int .i64 t'.e)) b' x y z) := fun _ _ _ _ h hne => h.laid_other hne _ _ _
      have HX' := Lib.hid (hx.laid (.bool t'.neg) (.slice A7 j7 c7) (.int .i64 t'.e))
      replace K := Lib.hid (dyW_kept (x := .bool t'.neg) (y := .slice A7 j7 c7) (z := .int .i64 t'.e) (K.out.trans k1) (show w.heap.size ≤ b7 by omega))
      replace HP := Lib.hid ((HP.out.kept k1).dyW (show ¬ w.heap.size = b7 by omega) (.bool t'.neg) (.slice A7 j7 c7) (.int .i64 t'.e))
      replace HA := Lib.hid (UB.out _ _ _ _ (HA.out.kept k1) (by omega))
      replace HB := Lib.hid (UB.out _ _ _ _ (HB.out.kept k1) (by omega))
      replace H6 := Lib.hid (UB.out _ _ _ _ (H6.out.kept k1) (by omega)); replace Z6 := Lib.hid (UD.out _ _ (Z6.out.kept k1)); replace H7 := Lib.hid HX'.out; replace Z7 := Lib.hid (UD.out _ _ z1)
      clear UD UB HX' hx x0 x1 x2 f0 f1 f2 z1 k1
      generalize dyW w1 b7 (.bool t'.neg) (.slice A7 j7 c7) (.int .i64 t'.e) = X at *
      refine region_lin1 (m := 8) (V := VL [
          (fun v _ => v = (.agg #[.int .i64 (p : Int), .bool up])),
          (fun v _ => v = (.agg #[.bool s.neg, .slice As ls cs, .int .i64 s.e])),
          (fun v _ => v = (.agg #[.bool t'.neg, .slice A7 j7 c7, .int .i64 t'.e])),
          (fun v wv => ∃ d, v = .tuple #[d, .int .i64 o4.k] ∧ DyR wv d o4.v),
          (fun v wv => DyR wv v o4.v),
          (fun v _ => v = (.int .i64 o4.k)),
          (fun v wv => DyR wv v o4.v),
          (fun v wv => DyR wv v s'.raw)])
        (by kernel_rfl) rfl rfl rfl (by kernel_rfl) (by kernel_rfl) (by kernel_rfl) (by kernel_rfl) (mono_of _ ⟨mono_eq _, mono_eq _, mono_eq _, fun v w w' k h => by obtain ⟨d, h1, h2⟩ := h; exact ⟨d, h1, h2.kept k⟩, fun v w w' k h => by first | exact h | exact h.kept k | exact ⟨h.1, h.2.kept k⟩, mono_eq _, fun v w w' k h => by first | exact h | exact h.kept k | exact ⟨h.1, h.2.kept k⟩, fun v w w' k h => by first | exact h | exact h.kept k | exact ⟨h.1, h.2.kept k⟩, trivial⟩) (steps_of ⟨
          (fun aF wF F => by
        have s2 : aF.tmps.getD 2 undef = (.pointer (some ⟨w.heap.size, 0, none⟩)) := F.old 2 (by kernel_rfl)
        have c0 := cell_at HP.out F.kept 0 _ rfl
        have c1 := cell_at HP.out F.kept 1 _ rfl
        exact step_val (by simp [Region.wanted]) (by go_simp) rfl),
          (fun aF wF F => by
        have s6 : aF.tmps.getD 6 undef = (.pointer (some ⟨b6, 0, none⟩)) := F.old 6 (by kernel_rfl)
        have c0 := cell_at H6.out F.kept 0 _ rfl
        have c1 := cell_at H6.out F.kept 1 _ rfl
        have c2 := cell_at H6.out F.kept 2 _ rfl
        exact step_val (by simp [Region.wanted]) (by go_simp) rfl),
          (fun aF wF F => by
        have s7 : aF.tmps.getD 7 undef = (.pointer (some ⟨b7, 0, none⟩)) := F.old 7 (by kernel_rfl)
        have c0 := cell_at H7.out F.kept 0 _ rfl
        have c1 := cell_at H7.out F.kept 1 _ rfl
        have c2 := cell_at H7.out F.kept 2 _ rfl
        exact step_val (by simp [Region.wanted]) (by go_simp) rfl),
          (fun aF wF F => by
        have s37 : aF.tmps.getD 37 undef = (.agg #[.bool s.neg, .slice As ls cs, .int .i64 s.e]) := F.done 1 37 (by kernel_rfl) rfl
        have s38 : aF.tmps.getD 38 undef = (.agg #[.bool t'.neg, .slice A7 j7 c7, .int .i64 t'.e]) := F.done 2 38 (by kernel_rfl) rfl
        exact step_good (by simp [Region.wanted]) (by go_simp) (C4.out _ _ _ (K.out.trans F.kept) (Z6.out.kept F.kept) (Z7.out.kept F.kept)) (fun _ _ h => RetE.good h) (fun _ _ h => h)),
          (fun aF wF F => by
        have s39 : (fun v wv => ∃ d, v = .tuple #[d, .int .i64 o4.k] ∧ DyR wv d o4.v) (aF.tmps.getD 39 undef) wF := F.done 3 39 (by kernel_rfl) rfl
        obtain ⟨dd, ee, hh⟩ := s39; exact step_val (by simp [Region.wanted]) (by go_simp) hh),
          (fun aF wF F => by
        have s39 : (fun v wv => ∃ d, v = .tuple #[d, .int .i64 o4.k] ∧ DyR wv d o4.v) (aF.tmps.getD 39 undef) wF := F.done 3 39 (by kernel_rfl) rfl
        exact step_val (by simp [Region.wanted]) (by obtain ⟨dd, ee, hh⟩ := s39; go_simp) rfl),
          (fun aF wF F => by
        have s40 : (fun v wv => DyR wv v o4.v) (aF.tmps.getD 40 undef) wF := F.done 4 40 (by kernel_rfl) rfl
        have s41 : aF.tmps.getD 41 undef = (.int .i64 o4.k) := F.done 5 41 (by kernel_rfl) rfl
        exact step_good (by simp [Region.wanted]) (by go_simp) (xsure_c (k := o4.k) s40) (fun _ _ h => RetD.good h) (fun _ _ h => h)),
          (fun aF wF F => by
        have s36 : aF.tmps.getD 36 undef = (.agg #[.int .i64 (p : Int), .bool up]) := F.done 0 36 (by kernel_rfl) rfl
        have s42 : (fun v wv => DyR wv v o4.v) (aF.tmps.getD 42 undef) wF := F.done 6 42 (by kernel_rfl) rfl
        exact step_good (by simp [Region.wanted]) (by go_simp) (C5.out _ _ (K.out.trans F.kept) s42) (fun _ _ h => RetD.good h) (fun _ _ h => h)),
          trivial⟩) ?_
      intro u w1 k1 hu
      have e36 : u 0 = (.agg #[.int .i64 (p : Int), .bool up]) := hu 0 (by decide)
      have e37 : u 1 = (.agg #[.bool s.neg, .slice As ls cs, .int .i64 s.e]) := hu 1 (by decide)
      have e38 : u 2 = (.agg #[.bool t'.neg, .slice A7 j7 c7, .int .i64 t'.e]) := hu 2 (by decide)
      have p39 := hu 3 (by decide)
      have p40 := hu 4 (by decide)
      have e41 : u 5 = (.int .i64 o4.k) := hu 5 (by decide)
      have p42 := hu 6 (by decide)
      have p43 := hu 7 (by decide)
      clear hu
      simp only [puts, slotOf, if_true, Act.put, List.setIfInBounds_toArray, List.set_cons_zero, List.set_cons_succ, List.getElem?_toArray, List.getElem?_cons_zero, List.getElem?_cons_succ, Option.bind_some, e36, e37, e38, e41]
      clear e36 e37 e38 e41
      generalize u 3 = v39 at *
      try simp only [VL, List.getD_cons_zero, List.getD_cons_succ] at p39
      generalize u 4 = v40 at *
      try simp only [VL, List.getD_cons_zero, List.getD_cons_succ] at p40
      generalize u 6 = v42 at *
      try simp only [VL, List.getD_cons_zero, List.getD_cons_succ] at p42
      generalize u 7 = v43 at *
      try simp only [VL, List.getD_cons_zero, List.getD_cons_succ] at p43
      obtain ⟨A6, j6, c6, rfl, z1⟩ := dyR_split p43
      clear p39 p40 p42 p43 C4 C5
      have hx := H6.out.kept k1
      obtain ⟨-, x0, x1, x2, f0, f1, f2⟩ := hx.facts
      go_upto_region 7 with fail
      change Code.wp _ _ _ _ (dyW _ b6 _ _ _)
      have UD : Hid (∀ v r, DyR w1 v r → DyR (dyW w1 b6 (.bool s'.neg) (.slice A6 j6 c6) (.int .i64 s'.e)) v r) := fun _ _ h => h.dyW hx (noLimb_bool _) (noLimb_slice _ _ _) (noLimb_i64 _) _ _ _
      have UB : Hid (∀ b' x y z, Blk w1 b' x y z → ¬ b' = b6 → Blk (dyW w1 b6 (.bool s'.neg) (.slice A6 j6 c6) (.int .i64 s'.e)) b' x y z) := fun _ _ _ _ h hne => h.laid_other hne _ _ _
      have HX' := Lib.hid (hx.laid (.bool s'.neg) (.slice A6 j6 c6) (.int .i64 s'.e))
      replace K := Lib.hid (dyW_kept (x := .bool s'.neg) (y := .slice A6 j6 c6) (z := .int .i64 s'.e) (K.out.trans k1) (show w.heap.size ≤ b6 by omega))
      replace HP := Lib.hid ((HP.out.kept k1).dyW (show ¬ w.heap.size = b6 by omega) (.bool s'.neg) (.slice A6 j6 c6) (.int .i64 s'.e))
      replace HA := Lib.hid (UB.out _ _ _ _ (HA.out.kept k1) (by omega))
      replace HB := Lib.hid (UB.out _ _ _ _ (HB.out.kept k1) (by omega))
      replace H7 := Lib.hid (UB.out _ _ _ _ (H7.out.kept k1) (by omega)); replace Z7 := Lib.hid (UD.out _ _ (Z7.out.kept k1)); replace H6 := Lib.hid HX'.out; replace Z6 := Lib.hid (UD.out _ _ z1)
      clear UD UB HX' hx x0 x1 x2 f0 f1 f2 z1 k1
      generalize dyW w1 b6 (.bool s'.neg) (.slice A6 j6 c6) (.int .i64 s'.e) = X at *
      refine region_lin (m := 7) (V := VL [
          (fun v _ => v = (.agg #[.bool t'.neg, .slice A7 j7 c7, .int .i64 t'.e])),
          (fun v _ => v = (.int .i64 tt)),
          (fun v _ => v = (.pointer (some ⟨w.heap.size, 0, none⟩))),
          (fun v _ => v = (.int .i64 (p : Int))),
          (fun v _ => v = (.int .i64 (-(p : Int)))),
          (fun v _ => v = (.int .i64 (-(p : Int) - 8))),
          (fun v _ => v = (.bool bb))])
        (by kernel_rfl) rfl (by kernel_rfl) (by kernel_rfl) (by kernel_rfl) (mono_of _ ⟨mono_eq _, mono_eq _, mono_eq _, mono_eq _, mono_eq _, mono_eq _, mono_eq _, trivial⟩) (steps_of ⟨
          (fun aF wF F => by
        have s7 : aF.tmps.getD 7 undef = (.pointer (some ⟨b7, 0, none⟩)) := F.old 7 (by kernel_rfl)
        have c0 := cell_at H7.out F.kept 0 _ rfl
        have c1 := cell_at H7.out F.kept 1 _ rfl
        have c2 := cell_at H7.out F.kept 2 _ rfl
        exact step_val (by simp [Region.wanted]) (by go_simp) rfl),
          (fun aF wF F => by
        have s44 : aF.tmps.getD 44 undef = (.agg #[.bool t'.neg, .slice A7 j7 c7, .int .i64 t'.e]) := F.done 0 44 (by kernel_rfl) rfl
        exact step_good (by simp [Region.wanted]) (by go_simp) (C6.out _ _ (Z7.out.kept F.kept)) (fun _ _ h => RetK.good h) (fun _ _ h => h)),
          (fun aF wF F => by
        have s2 : aF.tmps.getD 2 undef = (.pointer (some ⟨w.heap.size, 0, none⟩)) := F.old 2 (by kernel_rfl)
        exact step_val (by simp [Region.wanted]) (by go_simp) rfl),
          (fun aF wF F => by
        have s46 : aF.tmps.getD 46 undef = (.pointer (some ⟨w.heap.size, 0, none⟩)) := F.done 2 46 (by kernel_rfl) rfl
        have c0 := cell_at HP.out F.kept 0 _ rfl
        exact step_val (by simp [Region.wanted]) (by go_simp) rfl),
          (fun aF wF F => by
        have s47 : aF.tmps.getD 47 undef = (.int .i64 (p : Int)) := F.done 3 47 (by kernel_rfl) rfl
        exact step_val (by simp [Region.wanted]) (by (go_simp; exact wrapS (by omega) (by omega))) rfl),
          (fun aF wF F => by
        have s48 : aF.tmps.getD 48 undef = (.int .i64 (-(p : Int))) := F.done 4 48 (by kernel_rfl) rfl
        exact step_val (by simp [Region.wanted]) (by (go_simp; exact wrapS (by omega) (by omega))) rfl),
          (fun aF wF F => by
        have s45 : aF.tmps.getD 45 undef = (.int .i64 tt) := F.done 1 45 (by kernel_rfl) rfl
        have s49 : aF.tmps.getD 49 undef = (.int .i64 (-(p : Int) - 8)) := F.done 5 49 (by kernel_rfl) rfl
        exact step_val (by simp [Region.wanted]) (by (go_simp; exact HC.out)) rfl),
          trivial⟩) ?_
      intro u w1 k1 hu
      have e44 : u 0 = (.agg #[.bool t'.neg, .slice A7 j7 c7, .int .i64 t'.e]) := hu 0 (by decide)
      have e45 : u 1 = (.int .i64 tt) := hu 1 (by decide)
      have e46 : u 2 = (.pointer (some ⟨w.heap.size, 0, none⟩)) := hu 2 (by decide)
      have e47 : u 3 = (.int .i64 (p : Int)) := hu 3 (by decide)
      have e48 : u 4 = (.int .i64 (-(p : Int))) := hu 4 (by decide)
      have e49 : u 5 = (.int .i64 (-(p : Int) - 8)) := hu 5 (by decide)
      have e50 : u 6 = (.bool bb) := hu 6 (by decide)
      clear hu
      simp only [puts, slotOf, if_true, Act.put, List.setIfInBounds_toArray, List.set_cons_zero, List.set_cons_succ, List.getElem?_toArray, List.getElem?_cons_zero, List.getElem?_cons_succ, Option.bind_some, e44, e45, e46, e47, e48, e49, e50]
      clear e44 e45 e46 e47 e48 e49 e50
      replace K := Lib.hid (K.out.trans k1)
      replace HP := Lib.hid (HP.out.kept k1)
      replace HA := Lib.hid (HA.out.kept k1)
      replace HB := Lib.hid (HB.out.kept k1)
      replace H6 := Lib.hid (H6.out.kept k1)
      replace H7 := Lib.hid (H7.out.kept k1)
      replace Z6 := Lib.hid (Z6.out.kept k1)
      replace Z7 := Lib.hid (Z7.out.kept k1)
      clear k1 C6
      cases bb with
      | false =>
        have hG := HG.out
        rw [if_neg (of_decide_eq_false HC.out)] at hG
        have HG2 := Lib.hid hG
        clear HG hG HC
        go_wp2_with fail
        go_roundw
        case rel => exact ⟨g, jn + 1, s', t', A6, A7, j6, c6, j7, c7, by go_num, by omega, HG2.out, O1.out, O2.out, by omega, K.out, HP.out, HA.out, HB.out, H6.out, Z6.out, H7.out, Z7.out⟩
        case measure => simp [intOf]; omega
      | true =>
        have hG := HG.out
        rw [if_pos (of_decide_eq_true HC.out)] at hG
        obtain rfl : (s', t') = o := Option.some.inj hG
        clear HG HC hG
        obtain ⟨-, s0, s1⟩ := HP.out.facts
        cases up with
        | false =>
          obtain ⟨-, y0, y1, y2, -⟩ := H6.out.facts
          obtain ⟨-, x0, x1, x2, f0, f1, f2⟩ := HB.out.facts
          go_wp2_with fail
          exact ret_dy (HB.out.laid _ _ _) rfl rfl rfl ⟨dyW_kept K.out (by omega), _, rfl, Z6.out.dyW HB.out (noLimb_bool _) (noLimb_slice _ _ _) (noLimb_i64 _) _ _ _⟩
        | true =>
          obtain ⟨o5, ho5⟩ : ∃ o, o = (sumD s' t').raw := ⟨_, rfl⟩
          obtain ⟨s2, hs2⟩ : ∃ s2, s2 = nearS p true s' t' := ⟨_, rfl⟩
          have C7 := Lib.hid (fun w1 v u (k : Kept w w1) (hv : DyR w1 v s'.raw) (hu : DyR w1 u t'.raw) => show Calls _ _ _ w1 (RetE o5 w1) by rw [ho5]; exact Add_c hv hu O1.out O2.out (T.out.kept k))
          have C8 := Lib.hid (fun w1 v (k : Kept w w1) (hv : DyR w1 v o5.v) => show Calls Tryd.prog 43 #[.agg #[.int .i64 (p : Int), .bool true], v] w1 (RetD s2.raw w1) by rw [hs2]; rw [ho5] at hv; exact xround_c hv (sumD_ok O1.out O2.out).1 p1 p2 (T.out.kept k))
          have hres : nearD p true (s', t') = s2 := by rw [hs2]; rfl
          have HS2 := Lib.hid hres
          clear ho5 hs2 hres
          go_wp2_with fail
          clear s0 s1
          refine region_lin1 (m := 8) (V := VL [
              (fun v _ => v = (.agg #[.int .i64 (p : Int), .bool true])),
              (fun v _ => v = (.agg #[.bool s'.neg, .slice A6 j6 c6, .int .i64 s'.e])),
              (fun v _ => v = (.agg #[.bool t'.neg, .slice A7 j7 c7, .int .i64 t'.e])),
              (fun v wv => ∃ d, v = .tuple #[d, .int .i64 o5.k] ∧ DyR wv d o5.v),
              (fun v wv => DyR wv v o5.v),
              (fun v _ => v = (.int .i64 o5.k)),
              (fun v wv => DyR wv v o5.v),
              (fun v wv => DyR wv v s2.raw)])
            (by kernel_rfl) rfl rfl rfl (by kernel_rfl) (by kernel_rfl) (by kernel_rfl) (by kernel_rfl) (mono_of _ ⟨mono_eq _, mono_eq _, mono_eq _, fun v w w' k h => by obtain ⟨d, h1, h2⟩ := h; exact ⟨d, h1, h2.kept k⟩, fun v w w' k h => by first | exact h | exact h.kept k | exact ⟨h.1, h.2.kept k⟩, mono_eq _, fun v w w' k h => by first | exact h | exact h.kept k | exact ⟨h.1, h.2.kept k⟩, fun v w w' k h => by first | exact h | exact h.kept k | exact ⟨h.1, h.2.kept k⟩, trivial⟩) (steps_of ⟨
              (fun aF wF F => by
            have s2 : aF.tmps.getD 2 undef = (.pointer (some ⟨w.heap.size, 0, none⟩)) := F.old 2 (by kernel_rfl)
            have c0 := cell_at HP.out F.kept 0 _ rfl
            have c1 := cell_at HP.out F.kept 1 _ rfl
            exact step_val (by simp [Region.wanted]) (by go_simp) rfl),
              (fun aF wF F => by
            have s6 : aF.tmps.getD 6 undef = (.pointer (some ⟨b6, 0, none⟩)) := F.old 6 (by kernel_rfl)
            have c0 := cell_at H6.out F.kept 0 _ rfl
            have c1 := cell_at H6.out F.kept 1 _ rfl
            have c2 := cell_at H6.out F.kept 2 _ rfl
            exact step_val (by simp [Region.wanted]) (by go_simp) rfl),
              (fun aF wF F => by
            have s7 : aF.tmps.getD 7 undef = (.pointer (some ⟨b7, 0, none⟩)) := F.old 7 (by kernel_rfl)
            have c0 := cell_at H7.out F.kept 0 _ rfl
            have c1 := cell_at H7.out F.kept 1 _ rfl
            have c2 := cell_at H7.out F.kept 2 _ rfl
            exact step_val (by simp [Region.wanted]) (by go_simp) rfl),
              (fun aF wF F => by
            have s54 : aF.tmps.getD 54 undef = (.agg #[.bool s'.neg, .slice A6 j6 c6, .int .i64 s'.e]) := F.done 1 54 (by kernel_rfl) rfl
            have s55 : aF.tmps.getD 55 undef = (.agg #[.bool t'.neg, .slice A7 j7 c7, .int .i64 t'.e]) := F.done 2 55 (by kernel_rfl) rfl
            exact step_good (by simp [Region.wanted]) (by go_simp) (C7.out _ _ _ (K.out.trans F.kept) (Z6.out.kept F.kept) (Z7.out.kept F.kept)) (fun _ _ h => RetE.good h) (fun _ _ h => h)),
              (fun aF wF F => by
            have s56 : (fun v wv => ∃ d, v = .tuple #[d, .int .i64 o5.k] ∧ DyR wv d o5.v) (aF.tmps.getD 56 undef) wF := F.done 3 56 (by kernel_rfl) rfl
            obtain ⟨dd, ee, hh⟩ := s56; exact step_val (by simp [Region.wanted]) (by go_simp) hh),
              (fun aF wF F => by
            have s56 : (fun v wv => ∃ d, v = .tuple #[d, .int .i64 o5.k] ∧ DyR wv d o5.v) (aF.tmps.getD 56 undef) wF := F.done 3 56 (by kernel_rfl) rfl
            exact step_val (by simp [Region.wanted]) (by obtain ⟨dd, ee, hh⟩ := s56; go_simp) rfl),
              (fun aF wF F => by
            have s57 : (fun v wv => DyR wv v o5.v) (aF.tmps.getD 57 undef) wF := F.done 4 57 (by kernel_rfl) rfl
            have s58 : aF.tmps.getD 58 undef = (.int .i64 o5.k) := F.done 5 58 (by kernel_rfl) rfl
            exact step_good (by simp [Region.wanted]) (by go_simp) (xsure_c (k := o5.k) s57) (fun _ _ h => RetD.good h) (fun _ _ h => h)),
              (fun aF wF F => by
            have s53 : aF.tmps.getD 53 undef = (.agg #[.int .i64 (p : Int), .bool true]) := F.done 0 53 (by kernel_rfl) rfl
            have s59 : (fun v wv => DyR wv v o5.v) (aF.tmps.getD 59 undef) wF := F.done 6 59 (by kernel_rfl) rfl
            exact step_good (by simp [Region.wanted]) (by go_simp) (C8.out _ _ (K.out.trans F.kept) s59) (fun _ _ h => RetD.good h) (fun _ _ h => h)),
              trivial⟩) ?_
          intro u w1 k1 hu
          have e53 : u 0 = (.agg #[.int .i64 (p : Int), .bool true]) := hu 0 (by decide)
          have e54 : u 1 = (.agg #[.bool s'.neg, .slice A6 j6 c6, .int .i64 s'.e]) := hu 1 (by decide)
          have e55 : u 2 = (.agg #[.bool t'.neg, .slice A7 j7 c7, .int .i64 t'.e]) := hu 2 (by decide)
          have p56 := hu 3 (by decide)
          have p57 := hu 4 (by decide)
          have e58 : u 5 = (.int .i64 o5.k) := hu 5 (by decide)
          have p59 := hu 6 (by decide)
          have p60 := hu 7 (by decide)
          clear hu
          simp only [puts, slotOf, if_true, Act.put, List.setIfInBounds_toArray, List.set_cons_zero, List.set_cons_succ, List.getElem?_toArray, List.getElem?_cons_zero, List.getElem?_cons_succ, Option.bind_some, e53, e54, e55, e58]
          clear e53 e54 e55 e58
          generalize u 3 = v56 at *
          try simp only [VL, List.getD_cons_zero, List.getD_cons_succ] at p56
          generalize u 4 = v57 at *
          try simp only [VL, List.getD_cons_zero, List.getD_cons_succ] at p57
          generalize u 6 = v59 at *
          try simp only [VL, List.getD_cons_zero, List.getD_cons_succ] at p59
          generalize u 7 = v60 at *
          try simp only [VL, List.getD_cons_zero, List.getD_cons_succ] at p60
          obtain ⟨A8, j8, c8, rfl, z1⟩ := dyR_split p60
          clear p56 p57 p59 p60 C7 C8
          have hx := H6.out.kept k1
          obtain ⟨-, x0, x1, x2, f0, f1, f2⟩ := hx.facts
          go_upto_region 10 with fail
          change Code.wp _ _ _ _ (dyW _ b6 _ _ _)
          have UD : Hid (∀ v r, DyR w1 v r → DyR (dyW w1 b6 (.bool s2.neg) (.slice A8 j8 c8) (.int .i64 s2.e)) v r) := fun _ _ h => h.dyW hx (noLimb_bool _) (noLimb_slice _ _ _) (noLimb_i64 _) _ _ _
          have UB : Hid (∀ b' x y z, Blk w1 b' x y z → ¬ b' = b6 → Blk (dyW w1 b6 (.bool s2.neg) (.slice A8 j8 c8) (.int .i64 s2.e)) b' x y z) := fun _ _ _ _ h hne => h.laid_other hne _ _ _
          have HX' := Lib.hid (hx.laid (.bool s2.neg) (.slice A8 j8 c8) (.int .i64 s2.e))
          replace K := Lib.hid (dyW_kept (x := .bool s2.neg) (y := .slice A8 j8 c8) (z := .int .i64 s2.e) (K.out.trans k1) (show w.heap.size ≤ b6 by omega))
          replace HP := Lib.hid ((HP.out.kept k1).dyW (show ¬ w.heap.size = b6 by omega) (.bool s2.neg) (.slice A8 j8 c8) (.int .i64 s2.e))
          replace HA := Lib.hid (UB.out _ _ _ _ (HA.out.kept k1) (by omega))
          replace HB := Lib.hid (UB.out _ _ _ _ (HB.out.kept k1) (by omega))
          replace H6 := Lib.hid HX'.out; replace Z6 := Lib.hid (UD.out _ _ z1)
          clear UD UB HX' hx x0 x1 x2 f0 f1 f2 z1 k1
          generalize dyW w1 b6 (.bool s2.neg) (.slice A8 j8 c8) (.int .i64 s2.e) = X at *
          obtain ⟨-, y0, y1, y2, -⟩ := H6.out.facts
          obtain ⟨-, x0, x1, x2, f0, f1, f2⟩ := HB.out.facts
          go_wp2_with fail
          exact ret_dy (HB.out.laid _ _ _) rfl rfl rfl ⟨dyW_kept K.out (by omega), _, rfl, by rw [HS2.out]; exact Z6.out.dyW HB.out (noLimb_bool _) (noLimb_slice _ _ _) (noLimb_i64 _) _ _ _⟩




end Go.Proofs.YtjdplcenniogdaaDoor
