/- Laws of layer 6: ArithGrows: hulls, their bounds, and numbers of bits. -/
import Derived.Test.YtjdplcenniogdaaDoorZLaH
namespace Go.Proofs.YtjdplcenniogdaaDoor
open Go.RowKit

theorem leastI_le (x y : Dy) : (leastI x y).q ≤ x.q ∧ (leastI x y).q ≤ y.q := by
  unfold leastI
  split
  · rename_i h; exact ⟨Rat.le_refl, cmpQ_le.1 h⟩
  · rename_i h
    have h2 : ¬ x.q ≤ y.q := fun h3 => h (cmpQ_le.2 h3)
    exact ⟨by grind, Rat.le_refl⟩
theorem greatestI_ge (x y : Dy) : x.q ≤ (greatestI x y).q ∧ y.q ≤ (greatestI x y).q := by
  unfold greatestI
  split
  · rename_i h; exact ⟨Rat.le_refl, cmpQ_ge.1 h⟩
  · rename_i h
    have h2 : ¬ y.q ≤ x.q := fun h3 => h (cmpQ_ge.2 h3)
    exact ⟨by grind, Rat.le_refl⟩
theorem leastI_ok {x y : Dy} (hx : x.Ok) (hy : y.Ok) : (leastI x y).Ok := by unfold leastI; split <;> assumption
theorem greatestI_ok {x y : Dy} (hx : x.Ok) (hy : y.Ok) : (greatestI x y).Ok := by unfold greatestI; split <;> assumption
theorem hullI_ok {a c : Iv} (ha : a.Ok) (hc : c.Ok) : (hullI a c).Ok ∧ (hullI a c).lo.q ≤ a.lo.q ∧ a.hi.q ≤ (hullI a c).hi.q := by
  refine ⟨⟨leastI_ok ha.lo hc.lo, greatestI_ok ha.hi hc.hi, ?_⟩, (leastI_le _ _).1, (greatestI_ge _ _).1⟩
  have h1 := (leastI_le a.lo c.lo).1
  have h2 := (greatestI_ge a.hi c.hi).1
  have h3 := ha.le
  show (leastI a.lo c.lo).q ≤ (greatestI a.hi c.hi).q
  grind
theorem m_of (p : Int) {n : Nat} (hn : 1 ≤ n) (h2 : n ≤ 900) : ∃ m : Nat, wrap64 (1 + wrap64 ((IntKind.u64.wrap p).tmod (n : Int))) = (m : Int) ∧ 1 ≤ m ∧ m ≤ n := by
  obtain ⟨m, h, a, b⟩ := n_of p 1 n (by omega) (by omega)
  exact ⟨m, h, a, by omega⟩
theorem u64_small {n : Nat} (h2 : n ≤ 1000) : IntKind.u64.wrap (n : Int) = (n : Int) := by
  rw [IntKind.wrap_u64]
  omega
theorem box4i (w : World) (x y z x' y' z' p q r p' q' r' X Y Z X' Y' Z' P Q R P' Q' R' : Value) : ∃ W, W = (((w.alloc (.cells #[x, y, z, x', y', z'] 26)).alloc (.cells #[p, q, r, p', q', r'] 26)).alloc (.cells #[X, Y, Z, X', Y', Z'] 26)).alloc (.cells #[P, Q, R, P', Q', R'] 26) ∧
    Kept w W ∧ BlkI W w.heap.size x y z x' y' z' ∧ BlkI W (w.heap.size + 1) p q r p' q' r' ∧ BlkI W (w.heap.size + 1 + 1) X Y Z X' Y' Z' ∧ BlkI W (w.heap.size + 1 + 1 + 1) P Q R P' Q' R' := by
  obtain ⟨W1, h1, k1, b1, b2⟩ := box2ii w x y z x' y' z' p q r p' q' r'
  obtain ⟨W, hW, k, b3, b4⟩ := box2ii W1 X Y Z X' Y' Z' P Q R P' Q' R'
  have hs : W1.heap.size = w.heap.size + 1 + 1 := by rw [h1]; simp only [World.size_alloc]
  rw [hs] at b3 b4
  exact ⟨W, by rw [hW, h1], k1.trans k, b1.kept k, b2.kept k, b3, b4⟩

set_option maxHeartbeats 4000000 in
set_option maxRecDepth 100000 in
theorem grows_c {w : World} {va vb vc vd : Value} {a b c d : RawI} {p s : Int} (ha : IvR w va a) (hb : IvR w vb b) (hc : IvR w vc c) (hd : IvR w vd d)
    (la : a.lens 17592186044416) (lb : b.lens 17592186044416) (lc : c.lens 17592186044416) (ld : d.lens 17592186044416) (hT : Tab w) :
    Calls Tryd.prog 7 #[va, vb, vc, vd, .int .i64 p, .int .i64 s] w (RetK (.bool true) w) := by
  have FA := Lib.hid (fun w1 (k : Kept w w1) => fewI_c (ha.kept k) la)
  have MA := Lib.hid (fun w1 (k : Kept w w1) => imay_c (ha.kept k) la)
  have FB := Lib.hid (fun w1 (k : Kept w w1) => fewI_c (hb.kept k) lb)
  have MB := Lib.hid (fun w1 (k : Kept w w1) => imay_c (hb.kept k) lb)
  have FC := Lib.hid (fun w1 (k : Kept w w1) => fewI_c (hc.kept k) lc)
  have MC := Lib.hid (fun w1 (k : Kept w w1) => imay_c (hc.kept k) lc)
  have FD := Lib.hid (fun w1 (k : Kept w w1) => fewI_c (hd.kept k) ld)
  have MD := Lib.hid (fun w1 (k : Kept w w1) => imay_c (hd.kept k) ld)
  have T := Lib.hid hT
  obtain ⟨Aa, ia, ja, Ba, ma, na, rfl, h1, h2⟩ := ivR_split ha
  have SA := Lib.hid h1
  have RA := Lib.hid h2
  have CA := Lib.hid (fun (h : mayI a = true) => iv_clean h1.small h2.small h)
  clear ha h1 h2 la
  obtain ⟨fa, hfa⟩ : ∃ x, fewI a = x := ⟨_, rfl⟩
  obtain ⟨ga, hga⟩ : ∃ x, mayI a = x := ⟨_, rfl⟩
  rw [hfa] at FA
  rw [hga] at MA CA
  clear hfa hga
  generalize a.lo.neg = xa at *
  generalize a.lo.e = ya at *
  generalize a.hi.neg = za at *
  generalize a.hi.e = ta at *
  obtain ⟨Ab, ib, jb, Bb, mb, nb, rfl, h1, h2⟩ := ivR_split hb
  have SB := Lib.hid h1
  have RB := Lib.hid h2
  have CB := Lib.hid (fun (h : mayI b = true) => iv_clean h1.small h2.small h)
  clear hb h1 h2 lb
  obtain ⟨fb, hfb⟩ : ∃ x, fewI b = x := ⟨_, rfl⟩
  obtain ⟨gb, hgb⟩ : ∃ x, mayI b = x := ⟨_, rfl⟩
  rw [hfb] at FB
  rw [hgb] at MB CB
  clear hfb hgb
  generalize b.lo.neg = xb at *
  generalize b.lo.e = yb at *
  generalize b.hi.neg = zb at *
  generalize b.hi.e = tb at *
  obtain ⟨Ac, ic, jc, Bc, mc, nc, rfl, h1, h2⟩ := ivR_split hc
  have SC := Lib.hid h1
  have RC := Lib.hid h2
  have CC := Lib.hid (fun (h : mayI c = true) => iv_clean h1.small h2.small h)
  clear hc h1 h2 lc
  obtain ⟨fc, hfc⟩ : ∃ x, fewI c = x := ⟨_, rfl⟩
  obtain ⟨gc, hgc⟩ : ∃ x, mayI c = x := ⟨_, rfl⟩
  rw [hfc] at FC
  rw [hgc] at MC CC
  clear hfc hgc
  generalize c.lo.neg = xc at *
  generalize c.lo.e = yc at *
  generalize c.hi.neg = zc at *
  generalize c.hi.e = tc at *
  obtain ⟨Ad, id, jd, Bd, md, nd, rfl, h1, h2⟩ := ivR_split hd
  have SD := Lib.hid h1
  have RD := Lib.hid h2
  have CD := Lib.hid (fun (h : mayI d = true) => iv_clean h1.small h2.small h)
  clear hd h1 h2 ld
  obtain ⟨fd, hfd⟩ : ∃ x, fewI d = x := ⟨_, rfl⟩
  obtain ⟨gd, hgd⟩ : ∃ x, mayI d = x := ⟨_, rfl⟩
  rw [hfd] at FD
  rw [hgd] at MD CD
  clear hfd hgd
  generalize d.lo.neg = xd at *
  generalize d.lo.e = yd at *
  generalize d.hi.neg = zd at *
  generalize d.hi.e = td at *
  clear hT
  obtain ⟨W, hW, kW, BA, BB, BC, BD⟩ := box4i w (.bool xa) (.slice Aa ia ja) (.int .i64 ya) (.bool za) (.slice Ba ma na) (.int .i64 ta) (.bool xb) (.slice Ab ib jb) (.int .i64 yb) (.bool zb) (.slice Bb mb nb) (.int .i64 tb) (.bool xc) (.slice Ac ic jc) (.int .i64 yc) (.bool zc) (.slice Bc mc nc) (.int .i64 tc) (.bool xd) (.slice Ad id jd) (.int .i64 yd) (.bool zd) (.slice Bd md nd) (.int .i64 td)
  have HW := Lib.hid hW
  have K := Lib.hid kW
  have HA := Lib.hid BA
  have HB := Lib.hid BB
  have HC := Lib.hid BC
  have HD := Lib.hid BD
  clear hW kW BA BB BC BD
  go_enter Tryd.func7, Tryd.ntmps7
  go_upto_region 1 with fail
  rw [← HW.out]
  refine region_seq (m := 38) (V := VL [
      (fun v _ => v = (.agg #[.bool xa, .slice Aa ia ja, .int .i64 ya, .bool za, .slice Ba ma na, .int .i64 ta])),
      (fun v _ => v = (.bool fa)),
      (fun v _ => v = (.bool (!fa))),
      (fun v _ => v = (.bool (!fa))),
      (fun v wv => (fa = true → (fun v _ => v = (.agg #[.bool xb, .slice Ab ib jb, .int .i64 yb, .bool zb, .slice Bb mb nb, .int .i64 tb])) v wv) ∧ (fa = false → v = undef)),
      (fun v wv => (fa = true → (fun v _ => v = (.bool fb)) v wv) ∧ (fa = false → v = undef)),
      (fun v wv => (fa = true → (fun v _ => v = (.bool (!fb))) v wv) ∧ (fa = false → v = undef)),
      (fun v _ => v = (.bool (!(fa && fb)))),
      (fun v _ => v = (.bool (!(fa && fb)))),
      (fun v wv => ((fa && fb) = true → (fun v _ => v = (.agg #[.bool xc, .slice Ac ic jc, .int .i64 yc, .bool zc, .slice Bc mc nc, .int .i64 tc])) v wv) ∧ ((fa && fb) = false → v = undef)),
      (fun v wv => ((fa && fb) = true → (fun v _ => v = (.bool fc)) v wv) ∧ ((fa && fb) = false → v = undef)),
      (fun v wv => ((fa && fb) = true → (fun v _ => v = (.bool (!fc))) v wv) ∧ ((fa && fb) = false → v = undef)),
      (fun v _ => v = (.bool (!(fa && fb && fc)))),
      (fun v _ => v = (.bool (!(fa && fb && fc)))),
      (fun v wv => ((fa && fb && fc) = true → (fun v _ => v = (.agg #[.bool xd, .slice Ad id jd, .int .i64 yd, .bool zd, .slice Bd md nd, .int .i64 td])) v wv) ∧ ((fa && fb && fc) = false → v = undef)),
      (fun v wv => ((fa && fb && fc) = true → (fun v _ => v = (.bool fd)) v wv) ∧ ((fa && fb && fc) = false → v = undef)),
      (fun v wv => ((fa && fb && fc) = true → (fun v _ => v = (.bool (!fd))) v wv) ∧ ((fa && fb && fc) = false → v = undef)),
      (fun v _ => v = (.bool (!(fa && fb && fc && fd)))),
      (fun v _ => v = (.bool (!(fa && fb && fc && fd)))),
      (fun v wv => ((fa && fb && fc && fd) = true → (fun v _ => v = (.agg #[.bool xa, .slice Aa ia ja, .int .i64 ya, .bool za, .slice Ba ma na, .int .i64 ta])) v wv) ∧ ((fa && fb && fc && fd) = false → v = undef)),
      (fun v wv => ((fa && fb && fc && fd) = true → (fun v _ => v = (.bool ga)) v wv) ∧ ((fa && fb && fc && fd) = false → v = undef)),
      (fun v wv => ((fa && fb && fc && fd) = true → (fun v _ => v = (.bool (!ga))) v wv) ∧ ((fa && fb && fc && fd) = false → v = undef)),
      (fun v _ => v = (.bool (!(fa && fb && fc && fd && ga)))),
      (fun v _ => v = (.bool (!(fa && fb && fc && fd && ga)))),
      (fun v wv => ((fa && fb && fc && fd && ga) = true → (fun v _ => v = (.agg #[.bool xb, .slice Ab ib jb, .int .i64 yb, .bool zb, .slice Bb mb nb, .int .i64 tb])) v wv) ∧ ((fa && fb && fc && fd && ga) = false → v = undef)),
      (fun v wv => ((fa && fb && fc && fd && ga) = true → (fun v _ => v = (.bool gb)) v wv) ∧ ((fa && fb && fc && fd && ga) = false → v = undef)),
      (fun v wv => ((fa && fb && fc && fd && ga) = true → (fun v _ => v = (.bool (!gb))) v wv) ∧ ((fa && fb && fc && fd && ga) = false → v = undef)),
      (fun v _ => v = (.bool (!(fa && fb && fc && fd && ga && gb)))),
      (fun v _ => v = (.bool (!(fa && fb && fc && fd && ga && gb)))),
      (fun v wv => ((fa && fb && fc && fd && ga && gb) = true → (fun v _ => v = (.agg #[.bool xc, .slice Ac ic jc, .int .i64 yc, .bool zc, .slice Bc mc nc, .int .i64 tc])) v wv) ∧ ((fa && fb && fc && fd && ga && gb) = false → v = undef)),
      (fun v wv => ((fa && fb && fc && fd && ga && gb) = true → (fun v _ => v = (.bool gc)) v wv) ∧ ((fa && fb && fc && fd && ga && gb) = false → v = undef)),
      (fun v wv => ((fa && fb && fc && fd && ga && gb) = true → (fun v _ => v = (.bool (!gc))) v wv) ∧ ((fa && fb && fc && fd && ga && gb) = false → v = undef)),
      (fun v _ => v = (.bool (!(fa && fb && fc && fd && ga && gb && gc)))),
      (fun v _ => v = (.bool (!(fa && fb && fc && fd && ga && gb && gc)))),
      (fun v wv => ((fa && fb && fc && fd && ga && gb && gc) = true → (fun v _ => v = (.agg #[.bool xd, .slice Ad id jd, .int .i64 yd, .bool zd, .slice Bd md nd, .int .i64 td])) v wv) ∧ ((fa && fb && fc && fd && ga && gb && gc) = false → v = undef)),
      (fun v wv => ((fa && fb && fc && fd && ga && gb && gc) = true → (fun v _ => v = (.bool gd)) v wv) ∧ ((fa && fb && fc && fd && ga && gb && gc) = false → v = undef)),
      (fun v wv => ((fa && fb && fc && fd && ga && gb && gc) = true → (fun v _ => v = (.bool (!gd))) v wv) ∧ ((fa && fb && fc && fd && ga && gb && gc) = false → v = undef)),
      (fun v _ => v = (.bool (!(fa && fb && fc && fd && ga && gb && gc && gd))))])
    rfl (by kernel_rfl) (by kernel_rfl) (by kernel_rfl) (mono_of _ ⟨mono_eq _, mono_eq _, mono_eq _, mono_eq _, fun v w w' k h => ⟨fun hC => (fun v w w' k h => by first | exact h | exact h.kept k | exact ⟨h.1, h.2.kept k⟩) v w w' k (h.1 hC), h.2⟩, fun v w w' k h => ⟨fun hC => (fun v w w' k h => by first | exact h | exact h.kept k | exact ⟨h.1, h.2.kept k⟩) v w w' k (h.1 hC), h.2⟩, fun v w w' k h => ⟨fun hC => (fun v w w' k h => by first | exact h | exact h.kept k | exact ⟨h.1, h.2.kept k⟩) v w w' k (h.1 hC), h.2⟩, mono_eq _, mono_eq _, fun v w w' k h => ⟨fun hC => (fun v w w' k h => by first | exact h | exact h.kept k | exact ⟨h.1, h.2.kept k⟩) v w w' k (h.1 hC), h.2⟩, fun v w w' k h => ⟨fun hC => (fun v w w' k h => by first | exact h | exact h.kept k | exact ⟨h.1, h.2.kept k⟩) v w w' k (h.1 hC), h.2⟩, fun v w w' k h => ⟨fun hC => (fun v w w' k h => by first | exact h | exact h.kept k | exact ⟨h.1, h.2.kept k⟩) v w w' k (h.1 hC), h.2⟩, mono_eq _, mono_eq _, fun v w w' k h => ⟨fun hC => (fun v w w' k h => by first | exact h | exact h.kept k | exact ⟨h.1, h.2.kept k⟩) v w w' k (h.1 hC), h.2⟩, fun v w w' k h => ⟨fun hC => (fun v w w' k h => by first | exact h | exact h.kept k | exact ⟨h.1, h.2.kept k⟩) v w w' k (h.1 hC), h.2⟩, fun v w w' k h => ⟨fun hC => (fun v w w' k h => by first | exact h | exact h.kept k | exact ⟨h.1, h.2.kept k⟩) v w w' k (h.1 hC), h.2⟩, mono_eq _, mono_eq _, fun v w w' k h => ⟨fun hC => (fun v w w' k h => by first | exact h | exact h.kept k | exact ⟨h.1, h.2.kept k⟩) v w w' k (h.1 hC), h.2⟩, fun v w w' k h => ⟨fun hC => (fun v w w' k h => by first | exact h | exact h.kept k | exact ⟨h.1, h.2.kept k⟩) v w w' k (h.1 hC), h.2⟩, fun v w w' k h => ⟨fun hC => (fun v w w' k h => by first | exact h | exact h.kept k | exact ⟨h.1, h.2.kept k⟩) v w w' k (h.1 hC), h.2⟩, mono_eq _, mono_eq _, fun v w w' k h => ⟨fun hC => (fun v w w' k h => by first | exact h | exact h.kept k | exact ⟨h.1, h.2.kept k⟩) v w w' k (h.1 hC), h.2⟩, fun v w w' k h => ⟨fun hC => (fun v w w' k h => by first | exact h | exact h.kept k | exact ⟨h.1, h.2.kept k⟩) v w w' k (h.1 hC), h.2⟩, fun v w w' k h => ⟨fun hC => (fun v w w' k h => by first | exact h | exact h.kept k | exact ⟨h.1, h.2.kept k⟩) v w w' k (h.1 hC), h.2⟩, mono_eq _, mono_eq _, fun v w w' k h => ⟨fun hC => (fun v w w' k h => by first | exact h | exact h.kept k | exact ⟨h.1, h.2.kept k⟩) v w w' k (h.1 hC), h.2⟩, fun v w w' k h => ⟨fun hC => (fun v w w' k h => by first | exact h | exact h.kept k | exact ⟨h.1, h.2.kept k⟩) v w w' k (h.1 hC), h.2⟩, fun v w w' k h => ⟨fun hC => (fun v w w' k h => by first | exact h | exact h.kept k | exact ⟨h.1, h.2.kept k⟩) v w w' k (h.1 hC), h.2⟩, mono_eq _, mono_eq _, fun v w w' k h => ⟨fun hC => (fun v w w' k h => by first | exact h | exact h.kept k | exact ⟨h.1, h.2.kept k⟩) v w w' k (h.1 hC), h.2⟩, fun v w w' k h => ⟨fun hC => (fun v w w' k h => by first | exact h | exact h.kept k | exact ⟨h.1, h.2.kept k⟩) v w w' k (h.1 hC), h.2⟩, fun v w w' k h => ⟨fun hC => (fun v w w' k h => by first | exact h | exact h.kept k | exact ⟨h.1, h.2.kept k⟩) v w w' k (h.1 hC), h.2⟩, mono_eq _, trivial⟩) (steps_of ⟨
      (fun aF wF F => by
    have s6 : aF.tmps.getD 6 undef = (.pointer (some ⟨w.heap.size, 0, none⟩)) := F.old 6 (by kernel_rfl)
    have c0 := cell_at HA.out F.kept 0 _ rfl
    have c1 := cell_at HA.out F.kept 1 _ rfl
    have c2 := cell_at HA.out F.kept 2 _ rfl
    have c3 := cell_at HA.out F.kept 3 _ rfl
    have c4 := cell_at HA.out F.kept 4 _ rfl
    have c5 := cell_at HA.out F.kept 5 _ rfl
    exact step_val (by simp [Region.wanted]) (by go_simp) rfl),
      (fun aF wF F => by
    have s21 : aF.tmps.getD 21 undef = (.agg #[.bool xa, .slice Aa ia ja, .int .i64 ya, .bool za, .slice Ba ma na, .int .i64 ta]) := F.done 0 21 (by kernel_rfl) rfl
    exact step_good (by simp [Region.wanted]) (by go_simp) (FA.out _ (K.out.trans F.kept)) (fun _ _ h => RetK.good h) (fun _ _ h => h)),
      (fun aF wF F => by
    have s22 : aF.tmps.getD 22 undef = (.bool fa) := F.done 1 22 (by kernel_rfl) rfl
    exact step_val (by simp [Region.wanted]) (by go_simp) rfl),
      (fun aF wF F => by
    have s23 : aF.tmps.getD 23 undef = (.bool (!fa)) := F.done 2 23 (by kernel_rfl) rfl
    exact step_val (by simp [Region.wanted]) (by go_simp) rfl),
      (fun aF wF F => by
    have sg : aF.tmps.getD 24 undef = (.bool (!fa)) := F.done 3 24 (by kernel_rfl) rfl
    have s7 : aF.tmps.getD 7 undef = (.pointer (some ⟨w.heap.size + 1, 0, none⟩)) := F.old 7 (by kernel_rfl)
    have c0 := cell_at HB.out F.kept 0 _ rfl
    have c1 := cell_at HB.out F.kept 1 _ rfl
    have c2 := cell_at HB.out F.kept 2 _ rfl
    have c3 := cell_at HB.out F.kept 3 _ rfl
    have c4 := cell_at HB.out F.kept 4 _ rfl
    have c5 := cell_at HB.out F.kept 5 _ rfl
    rcases bools fa with hC | hC
    · refine step_imp (V1 := fun _ => (fun v _ => v = (.agg #[.bool xb, .slice Ab ib jb, .int .i64 yb, .bool zb, .slice Bb mb nb, .int .i64 tb]))) ?_ (fun _ _ h => ⟨fun _ => h, fun hN => absurd (hC.symm.trans hN) (by decide)⟩)
      exact step_val ((wanted_guard rfl rfl sg).trans (by first | rfl | simp [hC])) (by go_simp) rfl
    · exact step_out ((wanted_guard rfl rfl sg).trans (by first | rfl | simp [hC])) ⟨fun h => absurd (hC.symm.trans h) (by decide), fun _ => rfl⟩),
      (fun aF wF F => by
    have sg : aF.tmps.getD 24 undef = (.bool (!fa)) := F.done 3 24 (by kernel_rfl) rfl
    have s25 : (fa = true → aF.tmps.getD 25 undef = (.agg #[.bool xb, .slice Ab ib jb, .int .i64 yb, .bool zb, .slice Bb mb nb, .int .i64 tb])) ∧ (fa = false → aF.tmps.getD 25 undef = undef) := F.done 4 25 (by kernel_rfl) rfl
    rcases bools fa with hC | hC
    · refine step_imp (V1 := fun _ => (fun v _ => v = (.bool fb))) ?_ (fun _ _ h => ⟨fun _ => h, fun hN => absurd (hC.symm.trans hN) (by decide)⟩)
      replace s25 := s25.1 hC
      exact step_good ((wanted_guard rfl rfl sg).trans (by first | rfl | simp [hC])) (by go_simp) (FB.out _ (K.out.trans F.kept)) (fun _ _ h => RetK.good h) (fun _ _ h => h)
    · exact step_out ((wanted_guard rfl rfl sg).trans (by first | rfl | simp [hC])) ⟨fun h => absurd (hC.symm.trans h) (by decide), fun _ => rfl⟩),
      (fun aF wF F => by
    have sg : aF.tmps.getD 24 undef = (.bool (!fa)) := F.done 3 24 (by kernel_rfl) rfl
    have s26 : (fa = true → aF.tmps.getD 26 undef = (.bool fb)) ∧ (fa = false → aF.tmps.getD 26 undef = undef) := F.done 5 26 (by kernel_rfl) rfl
    rcases bools fa with hC | hC
    · refine step_imp (V1 := fun _ => (fun v _ => v = (.bool (!fb)))) ?_ (fun _ _ h => ⟨fun _ => h, fun hN => absurd (hC.symm.trans hN) (by decide)⟩)
      replace s26 := s26.1 hC
      exact step_val ((wanted_guard rfl rfl sg).trans (by first | rfl | simp [hC])) (by go_simp) rfl
    · exact step_out ((wanted_guard rfl rfl sg).trans (by first | rfl | simp [hC])) ⟨fun h => absurd (hC.symm.trans h) (by decide), fun _ => rfl⟩),
      (fun aF wF F => by
    have s24 : aF.tmps.getD 24 undef = (.bool (!fa)) := F.done 3 24 (by kernel_rfl) rfl
    have s27 : (fa = true → aF.tmps.getD 27 undef = (.bool (!fb))) ∧ (fa = false → aF.tmps.getD 27 undef = undef) := F.done 6 27 (by kernel_rfl) rfl
    rcases bools fa with hE | hE
    · replace s27 := s27.1 hE
      exact step_val (by simp [Region.wanted]) (by first | (go_simp; done) | (go_simp; simp_all; done) | (simp_all; done)) rfl
    · exact step_val (by simp [Region.wanted]) (by first | (go_simp; done) | (go_simp; simp_all; done) | (simp_all; done)) rfl),
      (fun aF wF F => by
    have s28 : aF.tmps.getD 28 undef = (.bool (!(fa && fb))) := F.done 7 28 (by kernel_rfl) rfl
    exact step_val (by simp [Region.wanted]) (by go_simp) rfl),
      (fun aF wF F => by
    have sg : aF.tmps.getD 29 undef = (.bool (!(fa && fb))) := F.done 8 29 (by kernel_rfl) rfl
    have s8 : aF.tmps.getD 8 undef = (.pointer (some ⟨w.heap.size + 1 + 1, 0, none⟩)) := F.old 8 (by kernel_rfl)
    have c0 := cell_at HC.out F.kept 0 _ rfl
    have c1 := cell_at HC.out F.kept 1 _ rfl
    have c2 := cell_at HC.out F.kept 2 _ rfl
    have c3 := cell_at HC.out F.kept 3 _ rfl
    have c4 := cell_at HC.out F.kept 4 _ rfl
    have c5 := cell_at HC.out F.kept 5 _ rfl
    rcases bools (fa && fb) with hC | hC
    · refine step_imp (V1 := fun _ => (fun v _ => v = (.agg #[.bool xc, .slice Ac ic jc, .int .i64 yc, .bool zc, .slice Bc mc nc, .int .i64 tc]))) ?_ (fun _ _ h => ⟨fun _ => h, fun hN => absurd (hC.symm.trans hN) (by decide)⟩)
      exact step_val ((wanted_guard rfl rfl sg).trans (by first | rfl | simp [hC])) (by go_simp) rfl
    · exact step_out ((wanted_guard rfl rfl sg).trans (by first | rfl | simp [hC])) ⟨fun h => absurd (hC.symm.trans h) (by decide), fun _ => rfl⟩),
      (fun aF wF F => by
    have sg : aF.tmps.getD 29 undef = (.bool (!(fa && fb))) := F.done 8 29 (by kernel_rfl) rfl
    have s30 : ((fa && fb) = true → aF.tmps.getD 30 undef = (.agg #[.bool xc, .slice Ac ic jc, .int .i64 yc, .bool zc, .slice Bc mc nc, .int .i64 tc])) ∧ ((fa && fb) = false → aF.tmps.getD 30 undef = undef) := F.done 9 30 (by kernel_rfl) rfl
    rcases bools (fa && fb) with hC | hC
    · refine step_imp (V1 := fun _ => (fun v _ => v = (.bool fc))) ?_ (fun _ _ h => ⟨fun _ => h, fun hN => absurd (hC.symm.trans hN) (by decide)⟩)
      replace s30 := s30.1 hC
      exact step_good ((wanted_guard rfl rfl sg).trans (by first | rfl | simp [hC])) (by go_simp) (FC.out _ (K.out.trans F.kept)) (fun _ _ h => RetK.good h) (fun _ _ h => h)
    · exact step_out ((wanted_guard rfl rfl sg).trans (by first | rfl | simp [hC])) ⟨fun h => absurd (hC.symm.trans h) (by decide), fun _ => rfl⟩),
      (fun aF wF F => by
    have sg : aF.tmps.getD 29 undef = (.bool (!(fa && fb))) := F.done 8 29 (by kernel_rfl) rfl
    have s31 : ((fa && fb) = true → aF.tmps.getD 31 undef = (.bool fc)) ∧ ((fa && fb) = false → aF.tmps.getD 31 undef = undef) := F.done 10 31 (by kernel_rfl) rfl
    rcases bools (fa && fb) with hC | hC
    · refine step_imp (V1 := fun _ => (fun v _ => v = (.bool (!fc)))) ?_ (fun _ _ h => ⟨fun _ => h, fun hN => absurd (hC.symm.trans hN) (by decide)⟩)
      replace s31 := s31.1 hC
      exact step_val ((wanted_guard rfl rfl sg).trans (by first | rfl | simp [hC])) (by go_simp) rfl
    · exact step_out ((wanted_guard rfl rfl sg).trans (by first | rfl | simp [hC])) ⟨fun h => absurd (hC.symm.trans h) (by decide), fun _ => rfl⟩),
      (fun aF wF F => by
    have s29 : aF.tmps.getD 29 undef = (.bool (!(fa && fb))) := F.done 8 29 (by kernel_rfl) rfl
    have s32 : ((fa && fb) = true → aF.tmps.getD 32 undef = (.bool (!fc))) ∧ ((fa && fb) = false → aF.tmps.getD 32 undef = undef) := F.done 11 32 (by kernel_rfl) rfl
    rcases bools (fa && fb) with hE | hE
    · replace s32 := s32.1 hE
      exact step_val (by simp [Region.wanted]) (by first | (go_simp; done) | (go_simp; simp_all; done) | (simp_all; done)) rfl
    · exact step_val (by simp [Region.wanted]) (by first | (go_simp; done) | (go_simp; simp_all; done) | (simp_all; done)) rfl),
      (fun aF wF F => by
    have s33 : aF.tmps.getD 33 undef = (.bool (!(fa && fb && fc))) := F.done 12 33 (by kernel_rfl) rfl
    exact step_val (by simp [Region.wanted]) (by go_simp) rfl),
      (fun aF wF F => by
    have sg : aF.tmps.getD 34 undef = (.bool (!(fa && fb && fc))) := F.done 13 34 (by kernel_rfl) rfl
    have s9 : aF.tmps.getD 9 undef = (.pointer (some ⟨w.heap.size + 1 + 1 + 1, 0, none⟩)) := F.old 9 (by kernel_rfl)
    have c0 := cell_at HD.out F.kept 0 _ rfl
    have c1 := cell_at HD.out F.kept 1 _ rfl
    have c2 := cell_at HD.out F.kept 2 _ rfl
    have c3 := cell_at HD.out F.kept 3 _ rfl
    have c4 := cell_at HD.out F.kept 4 _ rfl
    have c5 := cell_at HD.out F.kept 5 _ rfl
    rcases bools (fa && fb && fc) with hC | hC
    · refine step_imp (V1 := fun _ => (fun v _ => v = (.agg #[.bool xd, .slice Ad id jd, .int .i64 yd, .bool zd, .slice Bd md nd, .int .i64 td]))) ?_ (fun _ _ h => ⟨fun _ => h, fun hN => absurd (hC.symm.trans hN) (by decide)⟩)
      exact step_val ((wanted_guard rfl rfl sg).trans (by first | rfl | simp [hC])) (by go_simp) rfl
    · exact step_out ((wanted_guard rfl rfl sg).trans (by first | rfl | simp [hC])) ⟨fun h => absurd (hC.symm.trans h) (by decide), fun _ => rfl⟩),
      (fun aF wF F => by
    have sg : aF.tmps.getD 34 undef = (.bool (!(fa && fb && fc))) := F.done 13 34 (by kernel_rfl) rfl
    have s35 : ((fa && fb && fc) = true → aF.tmps.getD 35 undef = (.agg #[.bool xd, .slice Ad id jd, .int .i64 yd, .bool zd, .slice Bd md nd, .int .i64 td])) ∧ ((fa && fb && fc) = false → aF.tmps.getD 35 undef = undef) := F.done 14 35 (by kernel_rfl) rfl
    rcases bools (fa && fb && fc) with hC | hC
    · refine step_imp (V1 := fun _ => (fun v _ => v = (.bool fd))) ?_ (fun _ _ h => ⟨fun _ => h, fun hN => absurd (hC.symm.trans hN) (by decide)⟩)
      replace s35 := s35.1 hC
      exact step_good ((wanted_guard rfl rfl sg).trans (by first | rfl | simp [hC])) (by go_simp) (FD.out _ (K.out.trans F.kept)) (fun _ _ h => RetK.good h) (fun _ _ h => h)
    · exact step_out ((wanted_guard rfl rfl sg).trans (by first | rfl | simp [hC])) ⟨fun h => absurd (hC.symm.trans h) (by decide), fun _ => rfl⟩),
      (fun aF wF F => by
    have sg : aF.tmps.getD 34 undef = (.bool (!(fa && fb && fc))) := F.done 13 34 (by kernel_rfl) rfl
    have s36 : ((fa && fb && fc) = true → aF.tmps.getD 36 undef = (.bool fd)) ∧ ((fa && fb && fc) = false → aF.tmps.getD 36 undef = undef) := F.done 15 36 (by kernel_rfl) rfl
    rcases bools (fa && fb && fc) with hC | hC
    · refine step_imp (V1 := fun _ => (fun v _ => v = (.bool (!fd)))) ?_ (fun _ _ h => ⟨fun _ => h, fun hN => absurd (hC.symm.trans hN) (by decide)⟩)
      replace s36 := s36.1 hC
      exact step_val ((wanted_guard rfl rfl sg).trans (by first | rfl | simp [hC])) (by go_simp) rfl
    · exact step_out ((wanted_guard rfl rfl sg).trans (by first | rfl | simp [hC])) ⟨fun h => absurd (hC.symm.trans h) (by decide), fun _ => rfl⟩),
      (fun aF wF F => by
    have s34 : aF.tmps.getD 34 undef = (.bool (!(fa && fb && fc))) := F.done 13 34 (by kernel_rfl) rfl
    have s37 : ((fa && fb && fc) = true → aF.tmps.getD 37 undef = (.bool (!fd))) ∧ ((fa && fb && fc) = false → aF.tmps.getD 37 undef = undef) := F.done 16 37 (by kernel_rfl) rfl
    rcases bools (fa && fb && fc) with hE | hE
    · replace s37 := s37.1 hE
      exact step_val (by simp [Region.wanted]) (by first | (go_simp; done) | (go_simp; simp_all; done) | (simp_all; done)) rfl
    · exact step_val (by simp [Region.wanted]) (by first | (go_simp; done) | (go_simp; simp_all; done) | (simp_all; done)) rfl),
      (fun aF wF F => by
    have s38 : aF.tmps.getD 38 undef = (.bool (!(fa && fb && fc && fd))) := F.done 17 38 (by kernel_rfl) rfl
    exact step_val (by simp [Region.wanted]) (by go_simp) rfl),
      (fun aF wF F => by
    have sg : aF.tmps.getD 39 undef = (.bool (!(fa && fb && fc && fd))) := F.done 18 39 (by kernel_rfl) rfl
    have s6 : aF.tmps.getD 6 undef = (.pointer (some ⟨w.heap.size, 0, none⟩)) := F.old 6 (by kernel_rfl)
    have c0 := cell_at HA.out F.kept 0 _ rfl
    have c1 := cell_at HA.out F.kept 1 _ rfl
    have c2 := cell_at HA.out F.kept 2 _ rfl
    have c3 := cell_at HA.out F.kept 3 _ rfl
    have c4 := cell_at HA.out F.kept 4 _ rfl
    have c5 := cell_at HA.out F.kept 5 _ rfl
    rcases bools (fa && fb && fc && fd) with hC | hC
    · refine step_imp (V1 := fun _ => (fun v _ => v = (.agg #[.bool xa, .slice Aa ia ja, .int .i64 ya, .bool za, .slice Ba ma na, .int .i64 ta]))) ?_ (fun _ _ h => ⟨fun _ => h, fun hN => absurd (hC.symm.trans hN) (by decide)⟩)
      exact step_val ((wanted_guard rfl rfl sg).trans (by first | rfl | simp [hC])) (by go_simp) rfl
    · exact step_out ((wanted_guard rfl rfl sg).trans (by first | rfl | simp [hC])) ⟨fun h => absurd (hC.symm.trans h) (by decide), fun _ => rfl⟩),
      (fun aF wF F => by
    have sg : aF.tmps.getD 39 undef = (.bool (!(fa && fb && fc && fd))) := F.done 18 39 (by kernel_rfl) rfl
    have s40 : ((fa && fb && fc && fd) = true → aF.tmps.getD 40 undef = (.agg #[.bool xa, .slice Aa ia ja, .int .i64 ya, .bool za, .slice Ba ma na, .int .i64 ta])) ∧ ((fa && fb && fc && fd) = false → aF.tmps.getD 40 undef = undef) := F.done 19 40 (by kernel_rfl) rfl
    rcases bools (fa && fb && fc && fd) with hC | hC
    · refine step_imp (V1 := fun _ => (fun v _ => v = (.bool ga))) ?_ (fun _ _ h => ⟨fun _ => h, fun hN => absurd (hC.symm.trans hN) (by decide)⟩)
      replace s40 := s40.1 hC
      exact step_good ((wanted_guard rfl rfl sg).trans (by first | rfl | simp [hC])) (by go_simp) (MA.out _ (K.out.trans F.kept)) (fun _ _ h => RetK.good h) (fun _ _ h => h)
    · exact step_out ((wanted_guard rfl rfl sg).trans (by first | rfl | simp [hC])) ⟨fun h => absurd (hC.symm.trans h) (by decide), fun _ => rfl⟩),
      (fun aF wF F => by
    have sg : aF.tmps.getD 39 undef = (.bool (!(fa && fb && fc && fd))) := F.done 18 39 (by kernel_rfl) rfl
    have s41 : ((fa && fb && fc && fd) = true → aF.tmps.getD 41 undef = (.bool ga)) ∧ ((fa && fb && fc && fd) = false → aF.tmps.getD 41 undef = undef) := F.done 20 41 (by kernel_rfl) rfl
    rcases bools (fa && fb && fc && fd) with hC | hC
    · refine step_imp (V1 := fun _ => (fun v _ => v = (.bool (!ga)))) ?_ (fun _ _ h => ⟨fun _ => h, fun hN => absurd (hC.symm.trans hN) (by decide)⟩)
      replace s41 := s41.1 hC
      exact step_val ((wanted_guard rfl rfl sg).trans (by first | rfl | simp [hC])) (by go_simp) rfl
    · exact step_out ((wanted_guard rfl rfl sg).trans (by first | rfl | simp [hC])) ⟨fun h => absurd (hC.symm.trans h) (by decide), fun _ => rfl⟩),
      (fun aF wF F => by
    have s39 : aF.tmps.getD 39 undef = (.bool (!(fa && fb && fc && fd))) := F.done 18 39 (by kernel_rfl) rfl
    have s42 : ((fa && fb && fc && fd) = true → aF.tmps.getD 42 undef = (.bool (!ga))) ∧ ((fa && fb && fc && fd) = false → aF.tmps.getD 42 undef = undef) := F.done 21 42 (by kernel_rfl) rfl
    rcases bools (fa && fb && fc && fd) with hE | hE
    · replace s42 := s42.1 hE
      exact step_val (by simp [Region.wanted]) (by first | (go_simp; done) | (go_simp; simp_all; done) | (simp_all; done)) rfl
    · exact step_val (by simp [Region.wanted]) (by first | (go_simp; done) | (go_simp; simp_all; done) | (simp_all; done)) rfl),
      (fun aF wF F => by
    have s43 : aF.tmps.getD 43 undef = (.bool (!(fa && fb && fc && fd && ga))) := F.done 22 43 (by kernel_rfl) rfl
    exact step_val (by simp [Region.wanted]) (by go_simp) rfl),
      (fun aF wF F => by
    have sg : aF.tmps.getD 44 undef = (.bool (!(fa && fb && fc && fd && ga))) := F.done 23 44 (by kernel_rfl) rfl
    have s7 : aF.tmps.getD 7 undef = (.pointer (some ⟨w.heap.size + 1, 0, none⟩)) := F.old 7 (by kernel_rfl)
    have c0 := cell_at HB.out F.kept 0 _ rfl
    have c1 := cell_at HB.out F.kept 1 _ rfl
    have c2 := cell_at HB.out F.kept 2 _ rfl
    have c3 := cell_at HB.out F.kept 3 _ rfl
    have c4 := cell_at HB.out F.kept 4 _ rfl
    have c5 := cell_at HB.out F.kept 5 _ rfl
    rcases bools (fa && fb && fc && fd && ga) with hC | hC
    · refine step_imp (V1 := fun _ => (fun v _ => v = (.agg #[.bool xb, .slice Ab ib jb, .int .i64 yb, .bool zb, .slice Bb mb nb, .int .i64 tb]))) ?_ (fun _ _ h => ⟨fun _ => h, fun hN => absurd (hC.symm.trans hN) (by decide)⟩)
      exact step_val ((wanted_guard rfl rfl sg).trans (by first | rfl | simp [hC])) (by go_simp) rfl
    · exact step_out ((wanted_guard rfl rfl sg).trans (by first | rfl | simp [hC])) ⟨fun h => absurd (hC.symm.trans h) (by decide), fun _ => rfl⟩),
      (fun aF wF F => by
    have sg : aF.tmps.getD 44 undef = (.bool (!(fa && fb && fc && fd && ga))) := F.done 23 44 (by kernel_rfl) rfl
    have s45 : ((fa && fb && fc && fd && ga) = true → aF.tmps.getD 45 undef = (.agg #[.bool xb, .slice Ab ib jb, .int .i64 yb, .bool zb, .slice Bb mb nb, .int .i64 tb])) ∧ ((fa && fb && fc && fd && ga) = false → aF.tmps.getD 45 undef = undef) := F.done 24 45 (by kernel_rfl) rfl
    rcases bools (fa && fb && fc && fd && ga) with hC | hC
    · refine step_imp (V1 := fun _ => (fun v _ => v = (.bool gb))) ?_ (fun _ _ h => ⟨fun _ => h, fun hN => absurd (hC.symm.trans hN) (by decide)⟩)
      replace s45 := s45.1 hC
      exact step_good ((wanted_guard rfl rfl sg).trans (by first | rfl | simp [hC])) (by go_simp) (MB.out _ (K.out.trans F.kept)) (fun _ _ h => RetK.good h) (fun _ _ h => h)
    · exact step_out ((wanted_guard rfl rfl sg).trans (by first | rfl | simp [hC])) ⟨fun h => absurd (hC.symm.trans h) (by decide), fun _ => rfl⟩),
      (fun aF wF F => by
    have sg : aF.tmps.getD 44 undef = (.bool (!(fa && fb && fc && fd && ga))) := F.done 23 44 (by kernel_rfl) rfl
    have s46 : ((fa && fb && fc && fd && ga) = true → aF.tmps.getD 46 undef = (.bool gb)) ∧ ((fa && fb && fc && fd && ga) = false → aF.tmps.getD 46 undef = undef) := F.done 25 46 (by kernel_rfl) rfl
    rcases bools (fa && fb && fc && fd && ga) with hC | hC
    · refine step_imp (V1 := fun _ => (fun v _ => v = (.bool (!gb)))) ?_ (fun _ _ h => ⟨fun _ => h, fun hN => absurd (hC.symm.trans hN) (by decide)⟩)
      replace s46 := s46.1 hC
      exact step_val ((wanted_guard rfl rfl sg).trans (by first | rfl | simp [hC])) (by go_simp) rfl
    · exact step_out ((wanted_guard rfl rfl sg).trans (by first | rfl | simp [hC])) ⟨fun h => absurd (hC.symm.trans h) (by decide), fun _ => rfl⟩),
      (fun aF wF F => by
    have s44 : aF.tmps.getD 44 undef = (.bool (!(fa && fb && fc && fd && ga))) := F.done 23 44 (by kernel_rfl) rfl
    have s47 : ((fa && fb && fc && fd && ga) = true → aF.tmps.getD 47 undef = (.bool (!gb))) ∧ ((fa && fb && fc && fd && ga) = false → aF.tmps.getD 47 undef = undef) := F.done 26 47 (by kernel_rfl) rfl
    rcases bools (fa && fb && fc && fd && ga) with hE | hE
    · replace s47 := s47.1 hE
      exact step_val (by simp [Region.wanted]) (by first | (go_simp; done) | (go_simp; simp_all; done) | (simp_all; done)) rfl
    · exact step_val (by simp [Region.wanted]) (by first | (go_simp; done) | (go_simp; simp_all; done) | (simp_all; done)) rfl),
      (fun aF wF F => by
    have s48 : aF.tmps.getD 48 undef = (.bool (!(fa && fb && fc && fd && ga && gb))) := F.done 27 48 (by kernel_rfl) rfl
    exact step_val (by simp [Region.wanted]) (by go_simp) rfl),
      (fun aF wF F => by
    have sg : aF.tmps.getD 49 undef = (.bool (!(fa && fb && fc && fd && ga && gb))) := F.done 28 49 (by kernel_rfl) rfl
    have s8 : aF.tmps.getD 8 undef = (.pointer (some ⟨w.heap.size + 1 + 1, 0, none⟩)) := F.old 8 (by kernel_rfl)
    have c0 := cell_at HC.out F.kept 0 _ rfl
    have c1 := cell_at HC.out F.kept 1 _ rfl
    have c2 := cell_at HC.out F.kept 2 _ rfl
    have c3 := cell_at HC.out F.kept 3 _ rfl
    have c4 := cell_at HC.out F.kept 4 _ rfl
    have c5 := cell_at HC.out F.kept 5 _ rfl
    rcases bools (fa && fb && fc && fd && ga && gb) with hC | hC
    · refine step_imp (V1 := fun _ => (fun v _ => v = (.agg #[.bool xc, .slice Ac ic jc, .int .i64 yc, .bool zc, .slice Bc mc nc, .int .i64 tc]))) ?_ (fun _ _ h => ⟨fun _ => h, fun hN => absurd (hC.symm.trans hN) (by decide)⟩)
      exact step_val ((wanted_guard rfl rfl sg).trans (by first | rfl | simp [hC])) (by go_simp) rfl
    · exact step_out ((wanted_guard rfl rfl sg).trans (by first | rfl | simp [hC])) ⟨fun h => absurd (hC.symm.trans h) (by decide), fun _ => rfl⟩),
      (fun aF wF F => by
    have sg : aF.tmps.getD 49 undef = (.bool (!(fa && fb && fc && fd && ga && gb))) := F.done 28 49 (by kernel_rfl) rfl
    have s50 : ((fa && fb && fc && fd && ga && gb) = true → aF.tmps.getD 50 undef = (.agg #[.bool xc, .slice Ac ic jc, .int .i64 yc, .bool zc, .slice Bc mc nc, .int .i64 tc])) ∧ ((fa && fb && fc && fd && ga && gb) = false → aF.tmps.getD 50 undef = undef) := F.done 29 50 (by kernel_rfl) rfl
    rcases bools (fa && fb && fc && fd && ga && gb) with hC | hC
    · refine step_imp (V1 := fun _ => (fun v _ => v = (.bool gc))) ?_ (fun _ _ h => ⟨fun _ => h, fun hN => absurd (hC.symm.trans hN) (by decide)⟩)
      replace s50 := s50.1 hC
      exact step_good ((wanted_guard rfl rfl sg).trans (by first | rfl | simp [hC])) (by go_simp) (MC.out _ (K.out.trans F.kept)) (fun _ _ h => RetK.good h) (fun _ _ h => h)
    · exact step_out ((wanted_guard rfl rfl sg).trans (by first | rfl | simp [hC])) ⟨fun h => absurd (hC.symm.trans h) (by decide), fun _ => rfl⟩),
      (fun aF wF F => by
    have sg : aF.tmps.getD 49 undef = (.bool (!(fa && fb && fc && fd && ga && gb))) := F.done 28 49 (by kernel_rfl) rfl
    have s51 : ((fa && fb && fc && fd && ga && gb) = true → aF.tmps.getD 51 undef = (.bool gc)) ∧ ((fa && fb && fc && fd && ga && gb) = false → aF.tmps.getD 51 undef = undef) := F.done 30 51 (by kernel_rfl) rfl
    rcases bools (fa && fb && fc && fd && ga && gb) with hC | hC
    · refine step_imp (V1 := fun _ => (fun v _ => v = (.bool (!gc)))) ?_ (fun _ _ h => ⟨fun _ => h, fun hN => absurd (hC.symm.trans hN) (by decide)⟩)
      replace s51 := s51.1 hC
      exact step_val ((wanted_guard rfl rfl sg).trans (by first | rfl | simp [hC])) (by go_simp) rfl
    · exact step_out ((wanted_guard rfl rfl sg).trans (by first | rfl | simp [hC])) ⟨fun h => absurd (hC.symm.trans h) (by decide), fun _ => rfl⟩),
      (fun aF wF F => by
    have s49 : aF.tmps.getD 49 undef = (.bool (!(fa && fb && fc && fd && ga && gb))) := F.done 28 49 (by kernel_rfl) rfl
    have s52 : ((fa && fb && fc && fd && ga && gb) = true → aF.tmps.getD 52 undef = (.bool (!gc))) ∧ ((fa && fb && fc && fd && ga && gb) = false → aF.tmps.getD 52 undef = undef) := F.done 31 52 (by kernel_rfl) rfl
    rcases bools (fa && fb && fc && fd && ga && gb) with hE | hE
    · replace s52 := s52.1 hE
      exact step_val (by simp [Region.wanted]) (by first | (go_simp; done) | (go_simp; simp_all; done) | (simp_all; done)) rfl
    · exact step_val (by simp [Region.wanted]) (by first | (go_simp; done) | (go_simp; simp_all; done) | (simp_all; done)) rfl),
      (fun aF wF F => by
    have s53 : aF.tmps.getD 53 undef = (.bool (!(fa && fb && fc && fd && ga && gb && gc))) := F.done 32 53 (by kernel_rfl) rfl
    exact step_val (by simp [Region.wanted]) (by go_simp) rfl),
      (fun aF wF F => by
    have sg : aF.tmps.getD 54 undef = (.bool (!(fa && fb && fc && fd && ga && gb && gc))) := F.done 33 54 (by kernel_rfl) rfl
    have s9 : aF.tmps.getD 9 undef = (.pointer (some ⟨w.heap.size + 1 + 1 + 1, 0, none⟩)) := F.old 9 (by kernel_rfl)
    have c0 := cell_at HD.out F.kept 0 _ rfl
    have c1 := cell_at HD.out F.kept 1 _ rfl
    have c2 := cell_at HD.out F.kept 2 _ rfl
    have c3 := cell_at HD.out F.kept 3 _ rfl
    have c4 := cell_at HD.out F.kept 4 _ rfl
    have c5 := cell_at HD.out F.kept 5 _ rfl
    rcases bools (fa && fb && fc && fd && ga && gb && gc) with hC | hC
    · refine step_imp (V1 := fun _ => (fun v _ => v = (.agg #[.bool xd, .slice Ad id jd, .int .i64 yd, .bool zd, .slice Bd md nd, .int .i64 td]))) ?_ (fun _ _ h => ⟨fun _ => h, fun hN => absurd (hC.symm.trans hN) (by decide)⟩)
      exact step_val ((wanted_guard rfl rfl sg).trans (by first | rfl | simp [hC])) (by go_simp) rfl
    · exact step_out ((wanted_guard rfl rfl sg).trans (by first | rfl | simp [hC])) ⟨fun h => absurd (hC.symm.trans h) (by decide), fun _ => rfl⟩),
      (fun aF wF F => by
    have sg : aF.tmps.getD 54 undef = (.bool (!(fa && fb && fc && fd && ga && gb && gc))) := F.done 33 54 (by kernel_rfl) rfl
    have s55 : ((fa && fb && fc && fd && ga && gb && gc) = true → aF.tmps.getD 55 undef = (.agg #[.bool xd, .slice Ad id jd, .int .i64 yd, .bool zd, .slice Bd md nd, .int .i64 td])) ∧ ((fa && fb && fc && fd && ga && gb && gc) = false → aF.tmps.getD 55 undef = undef) := F.done 34 55 (by kernel_rfl) rfl
    rcases bools (fa && fb && fc && fd && ga && gb && gc) with hC | hC
    · refine step_imp (V1 := fun _ => (fun v _ => v = (.bool gd))) ?_ (fun _ _ h => ⟨fun _ => h, fun hN => absurd (hC.symm.trans hN) (by decide)⟩)
      replace s55 := s55.1 hC
      exact step_good ((wanted_guard rfl rfl sg).trans (by first | rfl | simp [hC])) (by go_simp) (MD.out _ (K.out.trans F.kept)) (fun _ _ h => RetK.good h) (fun _ _ h => h)
    · exact step_out ((wanted_guard rfl rfl sg).trans (by first | rfl | simp [hC])) ⟨fun h => absurd (hC.symm.trans h) (by decide), fun _ => rfl⟩),
      (fun aF wF F => by
    have sg : aF.tmps.getD 54 undef = (.bool (!(fa && fb && fc && fd && ga && gb && gc))) := F.done 33 54 (by kernel_rfl) rfl
    have s56 : ((fa && fb && fc && fd && ga && gb && gc) = true → aF.tmps.getD 56 undef = (.bool gd)) ∧ ((fa && fb && fc && fd && ga && gb && gc) = false → aF.tmps.getD 56 undef = undef) := F.done 35 56 (by kernel_rfl) rfl
    rcases bools (fa && fb && fc && fd && ga && gb && gc) with hC | hC
    · refine step_imp (V1 := fun _ => (fun v _ => v = (.bool (!gd)))) ?_ (fun _ _ h => ⟨fun _ => h, fun hN => absurd (hC.symm.trans hN) (by decide)⟩)
      replace s56 := s56.1 hC
      exact step_val ((wanted_guard rfl rfl sg).trans (by first | rfl | simp [hC])) (by go_simp) rfl
    · exact step_out ((wanted_guard rfl rfl sg).trans (by first | rfl | simp [hC])) ⟨fun h => absurd (hC.symm.trans h) (by decide), fun _ => rfl⟩),
      (fun aF wF F => by
    have s54 : aF.tmps.getD 54 undef = (.bool (!(fa && fb && fc && fd && ga && gb && gc))) := F.done 33 54 (by kernel_rfl) rfl
    have s57 : ((fa && fb && fc && fd && ga && gb && gc) = true → aF.tmps.getD 57 undef = (.bool (!gd))) ∧ ((fa && fb && fc && fd && ga && gb && gc) = false → aF.tmps.getD 57 undef = undef) := F.done 36 57 (by kernel_rfl) rfl
    rcases bools (fa && fb && fc && fd && ga && gb && gc) with hE | hE
    · replace s57 := s57.1 hE
      exact step_val (by simp [Region.wanted]) (by first | (go_simp; done) | (go_simp; simp_all; done) | (simp_all; done)) rfl
    · exact step_val (by simp [Region.wanted]) (by first | (go_simp; done) | (go_simp; simp_all; done) | (simp_all; done)) rfl),
      trivial⟩) ?_
  intro u w1 k1 hu
  have e21 : u 0 = (.agg #[.bool xa, .slice Aa ia ja, .int .i64 ya, .bool za, .slice Ba ma na, .int .i64 ta]) := hu 0 (by decide)
  have e22 : u 1 = (.bool fa) := hu 1 (by decide)
  have e23 : u 2 = (.bool (!fa)) := hu 2 (by decide)
  have e24 : u 3 = (.bool (!fa)) := hu 3 (by decide)
  have p25 := hu 4 (by decide)
  have p26 := hu 5 (by decide)
  have p27 := hu 6 (by decide)
  have e28 : u 7 = (.bool (!(fa && fb))) := hu 7 (by decide)
  have e29 : u 8 = (.bool (!(fa && fb))) := hu 8 (by decide)
  have p30 := hu 9 (by decide)
  have p31 := hu 10 (by decide)
  have p32 := hu 11 (by decide)
  have e33 : u 12 = (.bool (!(fa && fb && fc))) := hu 12 (by decide)
  have e34 : u 13 = (.bool (!(fa && fb && fc))) := hu 13 (by decide)
  have p35 := hu 14 (by decide)
  have p36 := hu 15 (by decide)
  have p37 := hu 16 (by decide)
  have e38 : u 17 = (.bool (!(fa && fb && fc && fd))) := hu 17 (by decide)
  have e39 : u 18 = (.bool (!(fa && fb && fc && fd))) := hu 18 (by decide)
  have p40 := hu 19 (by decide)
  have p41 := hu 20 (by decide)
  have p42 := hu 21 (by decide)
  have e43 : u 22 = (.bool (!(fa && fb && fc && fd && ga))) := hu 22 (by decide)
  have e44 : u 23 = (.bool (!(fa && fb && fc && fd && ga))) := hu 23 (by decide)
  have p45 := hu 24 (by decide)
  have p46 := hu 25 (by decide)
  have p47 := hu 26 (by decide)
  have e48 : u 27 = (.bool (!(fa && fb && fc && fd && ga && gb))) := hu 27 (by decide)
  have e49 : u 28 = (.bool (!(fa && fb && fc && fd && ga && gb))) := hu 28 (by decide)
  have p50 := hu 29 (by decide)
  have p51 := hu 30 (by decide)
  have p52 := hu 31 (by decide)
  have e53 : u 32 = (.bool (!(fa && fb && fc && fd && ga && gb && gc))) := hu 32 (by decide)
  have e54 : u 33 = (.bool (!(fa && fb && fc && fd && ga && gb && gc))) := hu 33 (by decide)
  have p55 := hu 34 (by decide)
  have p56 := hu 35 (by decide)
  have p57 := hu 36 (by decide)
  have e58 : u 37 = (.bool (!(fa && fb && fc && fd && ga && gb && gc && gd))) := hu 37 (by decide)
  clear hu
  simp only [puts, slotOf, if_true, Act.put, List.setIfInBounds_toArray, List.set_cons_zero, List.set_cons_succ, List.getElem?_toArray, List.getElem?_cons_zero, List.getElem?_cons_succ, Option.bind_some, e21, e22, e23, e24, e28, e29, e33, e34, e38, e39, e43, e44, e48, e49, e53, e54, e58]
  clear e21 e22 e23 e24 e28 e29 e33 e34 e38 e39 e43 e44 e48 e49 e53 e54 e58
  generalize u 4 = v25 at *
  try simp only [VL, List.getD_cons_zero, List.getD_cons_succ] at p25
  generalize u 5 = v26 at *
  try simp only [VL, List.getD_cons_zero, List.getD_cons_succ] at p26
  generalize u 6 = v27 at *
  try simp only [VL, List.getD_cons_zero, List.getD_cons_succ] at p27
  generalize u 9 = v30 at *
  try simp only [VL, List.getD_cons_zero, List.getD_cons_succ] at p30
  generalize u 10 = v31 at *
  try simp only [VL, List.getD_cons_zero, List.getD_cons_succ] at p31
  generalize u 11 = v32 at *
  try simp only [VL, List.getD_cons_zero, List.getD_cons_succ] at p32
  generalize u 14 = v35 at *
  try simp only [VL, List.getD_cons_zero, List.getD_cons_succ] at p35
  generalize u 15 = v36 at *
  try simp only [VL, List.getD_cons_zero, List.getD_cons_succ] at p36
  generalize u 16 = v37 at *
  try simp only [VL, List.getD_cons_zero, List.getD_cons_succ] at p37
  generalize u 19 = v40 at *
  try simp only [VL, List.getD_cons_zero, List.getD_cons_succ] at p40
  generalize u 20 = v41 at *
  try simp only [VL, List.getD_cons_zero, List.getD_cons_succ] at p41
  generalize u 21 = v42 at *
  try simp only [VL, List.getD_cons_zero, List.getD_cons_succ] at p42
  generalize u 24 = v45 at *
  try simp only [VL, List.getD_cons_zero, List.getD_cons_succ] at p45
  generalize u 25 = v46 at *
  try simp only [VL, List.getD_cons_zero, List.getD_cons_succ] at p46
  generalize u 26 = v47 at *
  try simp only [VL, List.getD_cons_zero, List.getD_cons_succ] at p47
  generalize u 29 = v50 at *
  try simp only [VL, List.getD_cons_zero, List.getD_cons_succ] at p50
  generalize u 30 = v51 at *
  try simp only [VL, List.getD_cons_zero, List.getD_cons_succ] at p51
  generalize u 31 = v52 at *
  try simp only [VL, List.getD_cons_zero, List.getD_cons_succ] at p52
  generalize u 34 = v55 at *
  try simp only [VL, List.getD_cons_zero, List.getD_cons_succ] at p55
  generalize u 35 = v56 at *
  try simp only [VL, List.getD_cons_zero, List.getD_cons_succ] at p56
  generalize u 36 = v57 at *
  try simp only [VL, List.getD_cons_zero, List.getD_cons_succ] at p57
  clear p25 p26 p27 p30 p31 p32 p35 p36 p37 p40 p41 p42 p45 p46 p47 p50 p51 p52 p55 p56 p57 FA FB FC FD MA MB MC MD
  replace K := Lib.hid (K.out.trans k1)
  replace HA := Lib.hid (HA.out.kept k1)
  replace HB := Lib.hid (HB.out.kept k1)
  replace HC := Lib.hid (HC.out.kept k1)
  replace HD := Lib.hid (HD.out.kept k1)
  rcases (bools (fa && fb && fc && fd && ga && gb && gc && gd)).symm with hg | hg
  · rw [hg]
    go_wp2_with fail
    refine (told_c (T.out.kept K.out)).mono ?_
    rintro e w2 ⟨rfl, q⟩
    simp only []
    go_wp2_with fail
    go_ret
    exact ⟨rfl, K.out.trans q⟩
  rw [hg]
  simp only [Bool.and_eq_true] at hg
  obtain ⟨⟨⟨⟨-, g1⟩, g2⟩, g3⟩, g4⟩ := hg
  obtain ⟨oa, ra⟩ := CA.out g1
  have IA := Lib.hid (fun w1 (k : Kept w w1) => show IvC w1 (.agg #[.bool xa, .slice Aa ia ja, .int .i64 ya, .bool za, .slice Ba ma na, .int .i64 ta]) a.iv by unfold IvC; rw [ra]; exact ⟨_, _, _, _, _, _, rfl, SA.out.kept k, RA.out.kept k⟩)
  generalize a.iv = a at *
  clear g1 CA SA RA ra
  obtain ⟨ob, rb⟩ := CB.out g2
  have IB := Lib.hid (fun w1 (k : Kept w w1) => show IvC w1 (.agg #[.bool xb, .slice Ab ib jb, .int .i64 yb, .bool zb, .slice Bb mb nb, .int .i64 tb]) b.iv by unfold IvC; rw [rb]; exact ⟨_, _, _, _, _, _, rfl, SB.out.kept k, RB.out.kept k⟩)
  generalize b.iv = b at *
  clear g2 CB SB RB rb
  obtain ⟨oc, rc⟩ := CC.out g3
  have IC := Lib.hid (fun w1 (k : Kept w w1) => show IvC w1 (.agg #[.bool xc, .slice Ac ic jc, .int .i64 yc, .bool zc, .slice Bc mc nc, .int .i64 tc]) c.iv by unfold IvC; rw [rc]; exact ⟨_, _, _, _, _, _, rfl, SC.out.kept k, RC.out.kept k⟩)
  generalize c.iv = c at *
  clear g3 CC SC RC rc
  obtain ⟨od, rd⟩ := CD.out g4
  have ID := Lib.hid (fun w1 (k : Kept w w1) => show IvC w1 (.agg #[.bool xd, .slice Ad id jd, .int .i64 yd, .bool zd, .slice Bd md nd, .int .i64 td]) d.iv by unfold IvC; rw [rd]; exact ⟨_, _, _, _, _, _, rfl, SD.out.kept k, RD.out.kept k⟩)
  generalize d.iv = d at *
  clear g4 CD SD RD rd
  obtain ⟨n, hn, m1, m2⟩ := n_of p 1 200 (by decide) (by decide)
  have o1n : 1 ≤ n := m1
  have o2n : n ≤ 2000 := by omega
  have hn' : wrap64 (1 + wrap64 ((IntKind.u64.wrap p).tmod 200)) = (n : Int) := hn
  clear hn
  obtain ⟨m, hm, m3, m4⟩ := m_of s o1n (by omega)
  have hu := u64_small (n := n) (by omega)
  have hne : ¬ (n : Int) = 0 := by omega
  have o2m : m ≤ 2000 := by omega
  clear m1 m2
  obtain ⟨x1, x2, x3⟩ := hullI_ok oa oc
  obtain ⟨y1, y2, y3⟩ := hullI_ok ob od
  obtain ⟨oX, hX⟩ : ∃ o : Outc RawI, o = ⟨(hullI a c).raw, 0⟩ := ⟨_, rfl⟩
  obtain ⟨oY, hY⟩ : ∃ o : Outc RawI, o = ⟨(hullI b d).raw, 0⟩ := ⟨_, rfl⟩
  have CX := Lib.hid (fun w1 (k : Kept w w1) => show Calls _ _ _ w1 (RetIE oX w1) by rw [hX]; exact hull_c (IA.out _ k) (IC.out _ k) oa oc)
  have CY := Lib.hid (fun w1 (k : Kept w w1) => show Calls _ _ _ w1 (RetIE oY w1) by rw [hY]; exact hull_c (IB.out _ k) (ID.out _ k) ob od)
  generalize hullI a c = x at *
  generalize hullI b d = y at *
  obtain ⟨o1, ho1⟩ : ∃ o, o = rawO (addI a b n) := ⟨_, rfl⟩
  obtain ⟨o2, ho2⟩ : ∃ o, o = rawO (addI x y m) := ⟨_, rfl⟩
  have C1 := Lib.hid (fun w1 (k : Kept w w1) => show Calls _ _ _ w1 (RetIE o1 w1) by rw [ho1]; exact Add_k (IA.out _ k) (IB.out _ k) oa ob (T.out.kept k) o1n o2n)
  have C2 := Lib.hid (fun w1 v u (k : Kept w w1) (hv : IvR w1 v oX.v) (hu : IvR w1 u oY.v) => show Calls _ _ _ w1 (RetIE o2 w1) by rw [ho2]; rw [hX] at hv; rw [hY] at hu; exact Add_k hv hu x1 y1 (T.out.kept k) m3 o2m)
  obtain ⟨o3, ho3⟩ : ∃ o, o = rawO (subI a b n) := ⟨_, rfl⟩
  obtain ⟨o4, ho4⟩ : ∃ o, o = rawO (subI x y m) := ⟨_, rfl⟩
  have C3 := Lib.hid (fun w1 (k : Kept w w1) => show Calls _ _ _ w1 (RetIE o3 w1) by rw [ho3]; exact Sub_k (IA.out _ k) (IB.out _ k) oa ob (T.out.kept k) o1n o2n)
  have C4 := Lib.hid (fun w1 v u (k : Kept w w1) (hv : IvR w1 v oX.v) (hu : IvR w1 u oY.v) => show Calls _ _ _ w1 (RetIE o4 w1) by rw [ho4]; rw [hX] at hv; rw [hY] at hu; exact Sub_k hv hu x1 y1 (T.out.kept k) m3 o2m)
  obtain ⟨o5, ho5⟩ : ∃ o, o = rawO (mulI a b n) := ⟨_, rfl⟩
  obtain ⟨o6, ho6⟩ : ∃ o, o = rawO (mulI x y m) := ⟨_, rfl⟩
  have C5 := Lib.hid (fun w1 (k : Kept w w1) => show Calls _ _ _ w1 (RetIE o5 w1) by rw [ho5]; exact Mul_k (IA.out _ k) (IB.out _ k) oa ob (T.out.kept k) o1n o2n)
  have C6 := Lib.hid (fun w1 v u (k : Kept w w1) (hv : IvR w1 v oX.v) (hu : IvR w1 u oY.v) => show Calls _ _ _ w1 (RetIE o6 w1) by rw [ho6]; rw [hX] at hv; rw [hY] at hu; exact Mul_k hv hu x1 y1 (T.out.kept k) m3 o2m)
  obtain ⟨o7, ho7⟩ : ∃ o, o = rawO (sqrI a n) := ⟨_, rfl⟩
  obtain ⟨o8, ho8⟩ : ∃ o, o = rawO (sqrI x m) := ⟨_, rfl⟩
  have C7 := Lib.hid (fun w1 (k : Kept w w1) => show Calls _ _ _ w1 (RetIE o7 w1) by rw [ho7]; exact Sqr_k (IA.out _ k) oa (T.out.kept k) o1n o2n)
  have C8 := Lib.hid (fun w1 v (k : Kept w w1) (hv : IvR w1 v oX.v) => show Calls _ _ _ w1 (RetIE o8 w1) by rw [ho8]; rw [hX] at hv; exact Sqr_k hv x1 (T.out.kept k) m3 o2m)
  obtain ⟨z1, hz1⟩ : ∃ z, decide (o1.k = 0) = z := ⟨_, rfl⟩
  obtain ⟨z2, hz2⟩ : ∃ z, decide (o2.k = 0) = z := ⟨_, rfl⟩
  have Q1 := Lib.hid hz1
  have Q2 := Lib.hid hz2
  have CW1 := Lib.hid (fun (hz : (z1 && z2) = true) w1 v u (hv : IvR w1 v o1.v) (hu : IvR w1 u o2.v) => show Calls Tryd.prog 19 #[v, u] w1 (RetK (.bool true) w1) by
    rw [← hz1, ← hz2] at hz
    simp only [Bool.and_eq_true, decide_eq_true_eq] at hz
    rw [ho1] at hv hz
    rw [ho2] at hu hz
    exact withinT hv hu (addI_ok oa ob o1n).1 (addI_ok x1 y1 m3).1 (grow_add m3 m4 x2 x3 y2 y3 hz.1 hz.2))
  obtain ⟨z3, hz3⟩ : ∃ z, decide (o3.k = 0) = z := ⟨_, rfl⟩
  obtain ⟨z4, hz4⟩ : ∃ z, decide (o4.k = 0) = z := ⟨_, rfl⟩
  have Q3 := Lib.hid hz3
  have Q4 := Lib.hid hz4
  have CW3 := Lib.hid (fun (hz : (z3 && z4) = true) w1 v u (hv : IvR w1 v o3.v) (hu : IvR w1 u o4.v) => show Calls Tryd.prog 19 #[v, u] w1 (RetK (.bool true) w1) by
    rw [← hz3, ← hz4] at hz
    simp only [Bool.and_eq_true, decide_eq_true_eq] at hz
    rw [ho3] at hv hz
    rw [ho4] at hu hz
    exact withinT hv hu (subI_ok oa ob o1n).1 (subI_ok x1 y1 m3).1 (grow_sub m3 m4 x2 x3 y2 y3 hz.1 hz.2))
  obtain ⟨z5, hz5⟩ : ∃ z, decide (o5.k = 0) = z := ⟨_, rfl⟩
  obtain ⟨z6, hz6⟩ : ∃ z, decide (o6.k = 0) = z := ⟨_, rfl⟩
  have Q5 := Lib.hid hz5
  have Q6 := Lib.hid hz6
  have CW5 := Lib.hid (fun (hz : (z5 && z6) = true) w1 v u (hv : IvR w1 v o5.v) (hu : IvR w1 u o6.v) => show Calls Tryd.prog 19 #[v, u] w1 (RetK (.bool true) w1) by
    rw [← hz5, ← hz6] at hz
    simp only [Bool.and_eq_true, decide_eq_true_eq] at hz
    rw [ho5] at hv hz
    rw [ho6] at hu hz
    exact withinT hv hu (mulI_ok o1n).1 (mulI_ok m3).1 (grow_mul oa.le ob.le m3 m4 x2 x3 y2 y3 hz.1 hz.2))
  obtain ⟨z7, hz7⟩ : ∃ z, decide (o7.k = 0) = z := ⟨_, rfl⟩
  obtain ⟨z8, hz8⟩ : ∃ z, decide (o8.k = 0) = z := ⟨_, rfl⟩
  have Q7 := Lib.hid hz7
  have Q8 := Lib.hid hz8
  have CW7 := Lib.hid (fun (hz : (z7 && z8) = true) w1 v u (hv : IvR w1 v o7.v) (hu : IvR w1 u o8.v) => show Calls Tryd.prog 19 #[v, u] w1 (RetK (.bool true) w1) by
    rw [← hz7, ← hz8] at hz
    simp only [Bool.and_eq_true, decide_eq_true_eq] at hz
    rw [ho7] at hv hz
    rw [ho8] at hu hz
    exact withinT hv hu (sqrI_ok o1n).1 (sqrI_ok m3).1 (grow_sqr oa.le m3 m4 x2 x3 hz.1 hz.2))
  have KX := Lib.hid (show oX.k = 0 by rw [hX])
  have KY := Lib.hid (show oY.k = 0 by rw [hY])
  clear ho1 ho2 ho3 ho4 ho5 ho6 ho7 ho8 hX hY IA IB IC ID oa ob oc od o1n o2n o2m m3 m4 hz1 hz2 hz3 hz4 hz5 hz6 hz7 hz8 x1 x2 x3 y1 y2 y3
  obtain ⟨-, c0, c1, c2, c3, c4, c5⟩ := HA.out.facts
  obtain ⟨-, d0, d1, d2, d3, d4, d5⟩ := HC.out.facts
  go_wp2_with fail
  refine (CX.out _ K.out).mono ?_
  rintro e w1 ⟨q, u, rfl, hd⟩
  obtain ⟨PX, pX, qX, RX, rX, sX, rfl, z1, z2⟩ := ivR_split hd
  simp only []
  obtain ⟨V, hV, kV, hb, lV⟩ := boxG w1 (.bool oX.v.lo.neg) (.slice PX pX qX) (.int .i64 oX.v.lo.e) (.bool oX.v.hi.neg) (.slice RX rX sX) (.int .i64 oX.v.hi.e)
  have HV := Lib.hid hV
  have kk := q.trans kV
  have lX : w.heap.size + 1 + 1 + 1 < w1.heap.size := Nat.lt_of_lt_of_le HD.out.facts.1 q.size
  replace K := Lib.hid (K.out.trans kk)
  replace HA := Lib.hid (HA.out.kept kk); replace HB := Lib.hid (HB.out.kept kk); replace HD := Lib.hid (HD.out.kept kk)
  have HX := Lib.hid hb
  have ZX := Lib.hid (And.intro (z1.kept kV) (z2.kept kV))
  clear hV kV hb lV kk q hd z1 z2 c0 c1 c2 c3 c4 c5 d0 d1 d2 d3 d4 d5 HC
  go_upto_region 6 with fail
  rw [← HV.out]
  clear HV
  generalize w1.heap.size = bX at *
  obtain ⟨-, c0, c1, c2, c3, c4, c5⟩ := HB.out.facts
  obtain ⟨-, d0, d1, d2, d3, d4, d5⟩ := HD.out.facts
  go_wp2_with fail
  refine (CY.out _ K.out).mono ?_
  rintro e w1 ⟨q, u, rfl, hd⟩
  obtain ⟨PY, pY, qY, RY, rY, sY, rfl, z1, z2⟩ := ivR_split hd
  simp only []
  obtain ⟨V, hV, kV, hb, lV⟩ := boxG w1 (.bool oY.v.lo.neg) (.slice PY pY qY) (.int .i64 oY.v.lo.e) (.bool oY.v.hi.neg) (.slice RY rY sY) (.int .i64 oY.v.hi.e)
  have HV := Lib.hid hV
  have kk := q.trans kV
  have lY : bX < w1.heap.size := Nat.lt_of_lt_of_le HX.out.facts.1 q.size
  replace K := Lib.hid (K.out.trans kk)
  replace HA := Lib.hid (HA.out.kept kk); replace HB := Lib.hid (HB.out.kept kk); replace HX := Lib.hid (HX.out.kept kk); replace ZX := Lib.hid (And.intro (ZX.out.1.kept kk) (ZX.out.2.kept kk))
  have HY := Lib.hid hb
  have ZY := Lib.hid (And.intro (z1.kept kV) (z2.kept kV))
  clear hV kV hb lV kk q hd z1 z2 c0 c1 c2 c3 c4 c5 d0 d1 d2 d3 d4 d5 HD CX CY
  go_upto_region 7 with fail
  rw [← HV.out]
  clear HV
  generalize w1.heap.size = bY at *
  rw [KX.out, KY.out]
  go_upto_region 9 with fail
  obtain ⟨-, c0, c1, c2, c3, c4, c5⟩ := HA.out.facts
  obtain ⟨-, d0, d1, d2, d3, d4, d5⟩ := HB.out.facts
  go_wp2_with fail
  refine (C1.out _ K.out).mono ?_
  rintro e w1 ⟨q, u, rfl, hd⟩
  obtain ⟨PS, pS, qS, RS, rS, sS, rfl, z1, z2⟩ := ivR_split hd
  simp only []
  obtain ⟨V, hV, kV, hb, lV⟩ := boxG w1 (.bool o1.v.lo.neg) (.slice PS pS qS) (.int .i64 o1.v.lo.e) (.bool o1.v.hi.neg) (.slice RS rS sS) (.int .i64 o1.v.hi.e)
  have HV := Lib.hid hV
  have kk := q.trans kV
  have lS : bY < w1.heap.size := Nat.lt_of_lt_of_le HY.out.facts.1 q.size
  replace K := Lib.hid (K.out.trans kk)
  replace HA := Lib.hid (HA.out.kept kk); replace HB := Lib.hid (HB.out.kept kk); replace HX := Lib.hid (HX.out.kept kk); replace HY := Lib.hid (HY.out.kept kk); replace ZX := Lib.hid (And.intro (ZX.out.1.kept kk) (ZX.out.2.kept kk)); replace ZY := Lib.hid (And.intro (ZY.out.1.kept kk) (ZY.out.2.kept kk))
  have HS := Lib.hid hb
  have ZS := Lib.hid (And.intro (z1.kept kV) (z2.kept kV))
  clear hV kV hb lV kk q hd z1 z2 c0 c1 c2 c3 c4 c5 d0 d1 d2 d3 d4 d5
  go_upto_region 10 with fail
  rw [← HV.out]
  clear HV
  generalize w1.heap.size = bS at *
  obtain ⟨-, c0, c1, c2, c3, c4, c5⟩ := HX.out.facts
  obtain ⟨-, d0, d1, d2, d3, d4, d5⟩ := HY.out.facts
  go_wp2_with fail
  refine (C2.out _ _ _ K.out ⟨_, _, _, _, _, _, rfl, ZX.out.1, ZX.out.2⟩ ⟨_, _, _, _, _, _, rfl, ZY.out.1, ZY.out.2⟩).mono ?_
  rintro e w1 ⟨q, u, rfl, hd⟩
  obtain ⟨PU, pU, qU, RU, rU, sU, rfl, z1, z2⟩ := ivR_split hd
  simp only []
  obtain ⟨V, hV, kV, hb, lV⟩ := boxG w1 (.bool o2.v.lo.neg) (.slice PU pU qU) (.int .i64 o2.v.lo.e) (.bool o2.v.hi.neg) (.slice RU rU sU) (.int .i64 o2.v.hi.e)
  have HV := Lib.hid hV
  have kk := q.trans kV
  have lU : bS < w1.heap.size := Nat.lt_of_lt_of_le HS.out.facts.1 q.size
  replace K := Lib.hid (K.out.trans kk)
  replace HA := Lib.hid (HA.out.kept kk); replace HB := Lib.hid (HB.out.kept kk); replace HX := Lib.hid (HX.out.kept kk); replace HY := Lib.hid (HY.out.kept kk); replace HS := Lib.hid (HS.out.kept kk); replace ZX := Lib.hid (And.intro (ZX.out.1.kept kk) (ZX.out.2.kept kk)); replace ZY := Lib.hid (And.intro (ZY.out.1.kept kk) (ZY.out.2.kept kk)); replace ZS := Lib.hid (And.intro (ZS.out.1.kept kk) (ZS.out.2.kept kk))
  have HU := Lib.hid hb
  have ZU := Lib.hid (And.intro (z1.kept kV) (z2.kept kV))
  clear hV kV hb lV kk q hd z1 z2 c0 c1 c2 c3 c4 c5 d0 d1 d2 d3 d4 d5
  go_upto_region 11 with fail
  rw [← HV.out]
  clear HV
  generalize w1.heap.size = bU at *
  refine region_seq (m := 12) (V := VL [
      (fun v _ => v = .int .i64 o1.k),
      (fun v _ => v = (.bool z1)),
      (fun v _ => v = (.bool z1)),
      (fun v wv => (z1 = true → (fun v _ => v = .int .i64 o2.k) v wv) ∧ (z1 = false → v = undef)),
      (fun v wv => (z1 = true → (fun v _ => v = (.bool z2)) v wv) ∧ (z1 = false → v = undef)),
      (fun v _ => v = (.bool (z1 && z2))),
      (fun v _ => v = (.bool (z1 && z2))),
      (fun v wv => ((z1 && z2) = true → (fun v _ => v = (.agg #[.bool o1.v.lo.neg, .slice PS pS qS, .int .i64 o1.v.lo.e, .bool o1.v.hi.neg, .slice RS rS sS, .int .i64 o1.v.hi.e])) v wv) ∧ ((z1 && z2) = false → v = undef)),
      (fun v wv => ((z1 && z2) = true → (fun v _ => v = (.agg #[.bool o2.v.lo.neg, .slice PU pU qU, .int .i64 o2.v.lo.e, .bool o2.v.hi.neg, .slice RU rU sU, .int .i64 o2.v.hi.e])) v wv) ∧ ((z1 && z2) = false → v = undef)),
      (fun v wv => ((z1 && z2) = true → (fun v _ => v = (.bool true)) v wv) ∧ ((z1 && z2) = false → v = undef)),
      (fun v wv => ((z1 && z2) = true → (fun v _ => v = (.bool false)) v wv) ∧ ((z1 && z2) = false → v = undef)),
      (fun v _ => v = (.bool false))])
    rfl (by kernel_rfl) (by kernel_rfl) (by kernel_rfl) (mono_of _ ⟨mono_eq _, mono_eq _, mono_eq _, fun v w w' k h => ⟨fun hC => (fun v w w' k h => by first | exact h | exact h.kept k | exact ⟨h.1, h.2.kept k⟩) v w w' k (h.1 hC), h.2⟩, fun v w w' k h => ⟨fun hC => (fun v w w' k h => by first | exact h | exact h.kept k | exact ⟨h.1, h.2.kept k⟩) v w w' k (h.1 hC), h.2⟩, mono_eq _, mono_eq _, fun v w w' k h => ⟨fun hC => (fun v w w' k h => by first | exact h | exact h.kept k | exact ⟨h.1, h.2.kept k⟩) v w w' k (h.1 hC), h.2⟩, fun v w w' k h => ⟨fun hC => (fun v w w' k h => by first | exact h | exact h.kept k | exact ⟨h.1, h.2.kept k⟩) v w w' k (h.1 hC), h.2⟩, fun v w w' k h => ⟨fun hC => (fun v w w' k h => by first | exact h | exact h.kept k | exact ⟨h.1, h.2.kept k⟩) v w w' k (h.1 hC), h.2⟩, fun v w w' k h => ⟨fun hC => (fun v w w' k h => by first | exact h | exact h.kept k | exact ⟨h.1, h.2.kept k⟩) v w w' k (h.1 hC), h.2⟩, mono_eq _, trivial⟩) (steps_of ⟨
      (fun aF wF F => by
    have s16 : aF.tmps.getD 16 undef = .int .i64 o1.k := F.old 16 (by kernel_rfl)
    exact step_val (by simp [Region.wanted]) (by go_simp) rfl),
      (fun aF wF F => by
    have s104 : aF.tmps.getD 104 undef = .int .i64 o1.k := F.done 0 104 (by kernel_rfl) rfl
    exact step_val (by simp [Region.wanted]) (by (go_simp; exact Q1.out)) rfl),
      (fun aF wF F => by
    have s105 : aF.tmps.getD 105 undef = (.bool z1) := F.done 1 105 (by kernel_rfl) rfl
    exact step_val (by simp [Region.wanted]) (by go_simp) rfl),
      (fun aF wF F => by
    have sg : aF.tmps.getD 106 undef = (.bool z1) := F.done 2 106 (by kernel_rfl) rfl
    have s18 : aF.tmps.getD 18 undef = .int .i64 o2.k := F.old 18 (by kernel_rfl)
    rcases bools z1 with hC | hC
    · refine step_imp (V1 := fun _ => (fun v _ => v = .int .i64 o2.k)) ?_ (fun _ _ h => ⟨fun _ => h, fun hN => absurd (hC.symm.trans hN) (by decide)⟩)
      exact step_val ((wanted_guard rfl rfl sg).trans (by first | rfl | simp [hC])) (by go_simp) rfl
    · exact step_out ((wanted_guard rfl rfl sg).trans (by first | rfl | simp [hC])) ⟨fun h => absurd (hC.symm.trans h) (by decide), fun _ => rfl⟩),
      (fun aF wF F => by
    have sg : aF.tmps.getD 106 undef = (.bool z1) := F.done 2 106 (by kernel_rfl) rfl
    have s107 : (z1 = true → aF.tmps.getD 107 undef = .int .i64 o2.k) ∧ (z1 = false → aF.tmps.getD 107 undef = undef) := F.done 3 107 (by kernel_rfl) rfl
    rcases bools z1 with hC | hC
    · refine step_imp (V1 := fun _ => (fun v _ => v = (.bool z2))) ?_ (fun _ _ h => ⟨fun _ => h, fun hN => absurd (hC.symm.trans hN) (by decide)⟩)
      replace s107 := s107.1 hC
      exact step_val ((wanted_guard rfl rfl sg).trans (by first | rfl | simp [hC])) (by (go_simp; exact Q2.out)) rfl
    · exact step_out ((wanted_guard rfl rfl sg).trans (by first | rfl | simp [hC])) ⟨fun h => absurd (hC.symm.trans h) (by decide), fun _ => rfl⟩),
      (fun aF wF F => by
    have s106 : aF.tmps.getD 106 undef = (.bool z1) := F.done 2 106 (by kernel_rfl) rfl
    have s108 : (z1 = true → aF.tmps.getD 108 undef = (.bool z2)) ∧ (z1 = false → aF.tmps.getD 108 undef = undef) := F.done 4 108 (by kernel_rfl) rfl
    rcases bools z1 with hE | hE
    · replace s108 := s108.1 hE
      exact step_val (by simp [Region.wanted]) (by first | (go_simp; done) | (go_simp; simp_all; done) | (simp_all; done)) rfl
    · exact step_val (by simp [Region.wanted]) (by first | (go_simp; done) | (go_simp; simp_all; done) | (simp_all; done)) rfl),
      (fun aF wF F => by
    have s109 : aF.tmps.getD 109 undef = (.bool (z1 && z2)) := F.done 5 109 (by kernel_rfl) rfl
    exact step_val (by simp [Region.wanted]) (by go_simp) rfl),
      (fun aF wF F => by
    have sg : aF.tmps.getD 110 undef = (.bool (z1 && z2)) := F.done 6 110 (by kernel_rfl) rfl
    have s19 : aF.tmps.getD 19 undef = (.pointer (some ⟨bS, 0, none⟩)) := F.old 19 (by kernel_rfl)
    have c0 := cell_at HS.out F.kept 0 _ rfl
    have c1 := cell_at HS.out F.kept 1 _ rfl
    have c2 := cell_at HS.out F.kept 2 _ rfl
    have c3 := cell_at HS.out F.kept 3 _ rfl
    have c4 := cell_at HS.out F.kept 4 _ rfl
    have c5 := cell_at HS.out F.kept 5 _ rfl
    rcases bools (z1 && z2) with hC | hC
    · refine step_imp (V1 := fun _ => (fun v _ => v = (.agg #[.bool o1.v.lo.neg, .slice PS pS qS, .int .i64 o1.v.lo.e, .bool o1.v.hi.neg, .slice RS rS sS, .int .i64 o1.v.hi.e]))) ?_ (fun _ _ h => ⟨fun _ => h, fun hN => absurd (hC.symm.trans hN) (by decide)⟩)
      exact step_val ((wanted_guard rfl rfl sg).trans (by first | rfl | simp [hC])) (by go_simp) rfl
    · exact step_out ((wanted_guard rfl rfl sg).trans (by first | rfl | simp [hC])) ⟨fun h => absurd (hC.symm.trans h) (by decide), fun _ => rfl⟩),
      (fun aF wF F => by
    have sg : aF.tmps.getD 110 undef = (.bool (z1 && z2)) := F.done 6 110 (by kernel_rfl) rfl
    have s20 : aF.tmps.getD 20 undef = (.pointer (some ⟨bU, 0, none⟩)) := F.old 20 (by kernel_rfl)
    have c0 := cell_at HU.out F.kept 0 _ rfl
    have c1 := cell_at HU.out F.kept 1 _ rfl
    have c2 := cell_at HU.out F.kept 2 _ rfl
    have c3 := cell_at HU.out F.kept 3 _ rfl
    have c4 := cell_at HU.out F.kept 4 _ rfl
    have c5 := cell_at HU.out F.kept 5 _ rfl
    rcases bools (z1 && z2) with hC | hC
    · refine step_imp (V1 := fun _ => (fun v _ => v = (.agg #[.bool o2.v.lo.neg, .slice PU pU qU, .int .i64 o2.v.lo.e, .bool o2.v.hi.neg, .slice RU rU sU, .int .i64 o2.v.hi.e]))) ?_ (fun _ _ h => ⟨fun _ => h, fun hN => absurd (hC.symm.trans hN) (by decide)⟩)
      exact step_val ((wanted_guard rfl rfl sg).trans (by first | rfl | simp [hC])) (by go_simp) rfl
    · exact step_out ((wanted_guard rfl rfl sg).trans (by first | rfl | simp [hC])) ⟨fun h => absurd (hC.symm.trans h) (by decide), fun _ => rfl⟩),
      (fun aF wF F => by
    have sg : aF.tmps.getD 110 undef = (.bool (z1 && z2)) := F.done 6 110 (by kernel_rfl) rfl
    have s111 : ((z1 && z2) = true → aF.tmps.getD 111 undef = (.agg #[.bool o1.v.lo.neg, .slice PS pS qS, .int .i64 o1.v.lo.e, .bool o1.v.hi.neg, .slice RS rS sS, .int .i64 o1.v.hi.e])) ∧ ((z1 && z2) = false → aF.tmps.getD 111 undef = undef) := F.done 7 111 (by kernel_rfl) rfl
    have s112 : ((z1 && z2) = true → aF.tmps.getD 112 undef = (.agg #[.bool o2.v.lo.neg, .slice PU pU qU, .int .i64 o2.v.lo.e, .bool o2.v.hi.neg, .slice RU rU sU, .int .i64 o2.v.hi.e])) ∧ ((z1 && z2) = false → aF.tmps.getD 112 undef = undef) := F.done 8 112 (by kernel_rfl) rfl
    rcases bools (z1 && z2) with hC | hC
    · refine step_imp (V1 := fun _ => (fun v _ => v = (.bool true))) ?_ (fun _ _ h => ⟨fun _ => h, fun hN => absurd (hC.symm.trans hN) (by decide)⟩)
      replace s111 := s111.1 hC
      replace s112 := s112.1 hC
      exact step_good ((wanted_guard rfl rfl sg).trans (by first | rfl | simp [hC])) (by go_simp) (CW1.out hC _ _ _ ⟨_, _, _, _, _, _, rfl, ZS.out.1.kept F.kept, ZS.out.2.kept F.kept⟩ ⟨_, _, _, _, _, _, rfl, ZU.out.1.kept F.kept, ZU.out.2.kept F.kept⟩) (fun _ _ h => RetK.good h) (fun _ _ h => h)
    · exact step_out ((wanted_guard rfl rfl sg).trans (by first | rfl | simp [hC])) ⟨fun h => absurd (hC.symm.trans h) (by decide), fun _ => rfl⟩),
      (fun aF wF F => by
    have sg : aF.tmps.getD 110 undef = (.bool (z1 && z2)) := F.done 6 110 (by kernel_rfl) rfl
    have s113 : ((z1 && z2) = true → aF.tmps.getD 113 undef = (.bool true)) ∧ ((z1 && z2) = false → aF.tmps.getD 113 undef = undef) := F.done 9 113 (by kernel_rfl) rfl
    rcases bools (z1 && z2) with hC | hC
    · refine step_imp (V1 := fun _ => (fun v _ => v = (.bool false))) ?_ (fun _ _ h => ⟨fun _ => h, fun hN => absurd (hC.symm.trans hN) (by decide)⟩)
      replace s113 := s113.1 hC
      exact step_val ((wanted_guard rfl rfl sg).trans (by first | rfl | simp [hC])) (by go_simp) rfl
    · exact step_out ((wanted_guard rfl rfl sg).trans (by first | rfl | simp [hC])) ⟨fun h => absurd (hC.symm.trans h) (by decide), fun _ => rfl⟩),
      (fun aF wF F => by
    have s110 : aF.tmps.getD 110 undef = (.bool (z1 && z2)) := F.done 6 110 (by kernel_rfl) rfl
    have s114 : ((z1 && z2) = true → aF.tmps.getD 114 undef = (.bool false)) ∧ ((z1 && z2) = false → aF.tmps.getD 114 undef = undef) := F.done 10 114 (by kernel_rfl) rfl
    rcases bools (z1 && z2) with hE | hE
    · replace s114 := s114.1 hE
      exact step_val (by simp [Region.wanted]) (by first | (go_simp; done) | (go_simp; simp_all; done) | (simp_all; done)) rfl
    · exact step_val (by simp [Region.wanted]) (by first | (go_simp; done) | (go_simp; simp_all; done) | (simp_all; done)) rfl),
      trivial⟩) ?_
  intro u w1 k1 hu
  have e104 : u 0 = .int .i64 o1.k := hu 0 (by decide)
  have e105 : u 1 = (.bool z1) := hu 1 (by decide)
  have e106 : u 2 = (.bool z1) := hu 2 (by decide)
  have p107 := hu 3 (by decide)
  have p108 := hu 4 (by decide)
  have e109 : u 5 = (.bool (z1 && z2)) := hu 5 (by decide)
  have e110 : u 6 = (.bool (z1 && z2)) := hu 6 (by decide)
  have p111 := hu 7 (by decide)
  have p112 := hu 8 (by decide)
  have p113 := hu 9 (by decide)
  have p114 := hu 10 (by decide)
  have e115 : u 11 = (.bool false) := hu 11 (by decide)
  clear hu
  simp only [puts, slotOf, if_true, Act.put, List.setIfInBounds_toArray, List.set_cons_zero, List.set_cons_succ, List.getElem?_toArray, List.getElem?_cons_zero, List.getElem?_cons_succ, Option.bind_some, e104, e105, e106, e109, e110, e115]
  clear e104 e105 e106 e109 e110 e115
  generalize u 3 = v107 at *
  try simp only [VL, List.getD_cons_zero, List.getD_cons_succ] at p107
  generalize u 4 = v108 at *
  try simp only [VL, List.getD_cons_zero, List.getD_cons_succ] at p108
  generalize u 7 = v111 at *
  try simp only [VL, List.getD_cons_zero, List.getD_cons_succ] at p111
  generalize u 8 = v112 at *
  try simp only [VL, List.getD_cons_zero, List.getD_cons_succ] at p112
  generalize u 9 = v113 at *
  try simp only [VL, List.getD_cons_zero, List.getD_cons_succ] at p113
  generalize u 10 = v114 at *
  try simp only [VL, List.getD_cons_zero, List.getD_cons_succ] at p114
  clear p107 p108 p111 p112 p113 p114
  replace K := Lib.hid (K.out.trans k1)
  replace HA := Lib.hid (HA.out.kept k1)
  replace HB := Lib.hid (HB.out.kept k1)
  replace HX := Lib.hid (HX.out.kept k1)
  replace HY := Lib.hid (HY.out.kept k1)
  replace HS := Lib.hid (HS.out.kept k1)
  replace HU := Lib.hid (HU.out.kept k1)
  replace ZX := Lib.hid (And.intro (ZX.out.1.kept k1) (ZX.out.2.kept k1))
  replace ZY := Lib.hid (And.intro (ZY.out.1.kept k1) (ZY.out.2.kept k1))
  clear k1 ZS ZU Q1 Q2 CW1 C1 C2
  go_upto_region 13 with fail
  obtain ⟨-, c0, c1, c2, c3, c4, c5⟩ := HA.out.facts
  obtain ⟨-, d0, d1, d2, d3, d4, d5⟩ := HB.out.facts
  go_wp2_with fail
  refine (C3.out _ K.out).mono ?_
  rintro e w1 ⟨q, u, rfl, hd⟩
  obtain ⟨PM, pM, qM, RM, rM, sM, rfl, z1, z2⟩ := ivR_split hd
  simp only []
  have hx := HS.out.kept q
  obtain ⟨-, x0, x1, x2, x3, x4, x5⟩ := hx.facts
  obtain ⟨f0, f1, f2, f3, f4, f5⟩ := hx.free
  go_upto_region 14 with fail
  change Code.wp _ _ _ _ (ivW w1 bS _ _ _ _ _ _)
  have UP : Hid (∀ (b' : Nat) (x y z x' y' z' : Value), BlkI w1 b' x y z x' y' z' → b' ≠ bS → BlkI (ivW w1 bS (.bool o3.v.lo.neg) (.slice PM pM qM) (.int .i64 o3.v.lo.e) (.bool o3.v.hi.neg) (.slice RM rM sM) (.int .i64 o3.v.hi.e)) b' x y z x' y' z') := fun _ _ _ _ _ _ _ h hne => blkI_ivW h hne _ _ _ _ _ _
  have UD : Hid (∀ (v : Value) (r : Raw), DyR w1 v r → DyR (ivW w1 bS (.bool o3.v.lo.neg) (.slice PM pM qM) (.int .i64 o3.v.lo.e) (.bool o3.v.hi.neg) (.slice RM rM sM) (.int .i64 o3.v.hi.e)) v r) := fun _ _ h => h.ivW hx _ _ _ _ _ _
  have HX' := Lib.hid (hx.laid (.bool o3.v.lo.neg) (.slice PM pM qM) (.int .i64 o3.v.lo.e) (.bool o3.v.hi.neg) (.slice RM rM sM) (.int .i64 o3.v.hi.e))
  replace K := Lib.hid (ivW_kept (x := .bool o3.v.lo.neg) (y := .slice PM pM qM) (z := .int .i64 o3.v.lo.e) (x' := .bool o3.v.hi.neg) (y' := .slice RM rM sM) (z' := .int .i64 o3.v.hi.e) (K.out.trans q) (show w.heap.size ≤ bS by omega))
  replace HA := Lib.hid (UP.out _ _ _ _ _ _ _ (HA.out.kept q) (by omega)); replace HB := Lib.hid (UP.out _ _ _ _ _ _ _ (HB.out.kept q) (by omega)); replace HX := Lib.hid (UP.out _ _ _ _ _ _ _ (HX.out.kept q) (by omega)); replace HY := Lib.hid (UP.out _ _ _ _ _ _ _ (HY.out.kept q) (by omega)); replace HU := Lib.hid (UP.out _ _ _ _ _ _ _ (HU.out.kept q) (by omega)); replace ZX := Lib.hid (And.intro (UD.out _ _ (ZX.out.1.kept q)) (UD.out _ _ (ZX.out.2.kept q))); replace ZY := Lib.hid (And.intro (UD.out _ _ (ZY.out.1.kept q)) (UD.out _ _ (ZY.out.2.kept q)))
  replace HS := Lib.hid (HX'.out)
  have ZM := Lib.hid (And.intro (UD.out _ _ z1) (UD.out _ _ z2))
  clear UP UD HX' hx x0 x1 x2 x3 x4 x5 f0 f1 f2 f3 f4 f5 q hd z1 z2 c0 c1 c2 c3 c4 c5 d0 d1 d2 d3 d4 d5
  generalize ivW w1 bS (.bool o3.v.lo.neg) (.slice PM pM qM) (.int .i64 o3.v.lo.e) (.bool o3.v.hi.neg) (.slice RM rM sM) (.int .i64 o3.v.hi.e) = V at *
  obtain ⟨-, c0, c1, c2, c3, c4, c5⟩ := HX.out.facts
  obtain ⟨-, d0, d1, d2, d3, d4, d5⟩ := HY.out.facts
  go_wp2_with fail
  refine (C4.out _ _ _ K.out ⟨_, _, _, _, _, _, rfl, ZX.out.1, ZX.out.2⟩ ⟨_, _, _, _, _, _, rfl, ZY.out.1, ZY.out.2⟩).mono ?_
  rintro e w1 ⟨q, u, rfl, hd⟩
  obtain ⟨PN, pN, qN, RN, rN, sN, rfl, z1, z2⟩ := ivR_split hd
  simp only []
  have hx := HU.out.kept q
  obtain ⟨-, x0, x1, x2, x3, x4, x5⟩ := hx.facts
  obtain ⟨f0, f1, f2, f3, f4, f5⟩ := hx.free
  go_upto_region 15 with fail
  change Code.wp _ _ _ _ (ivW w1 bU _ _ _ _ _ _)
  have UP : Hid (∀ (b' : Nat) (x y z x' y' z' : Value), BlkI w1 b' x y z x' y' z' → b' ≠ bU → BlkI (ivW w1 bU (.bool o4.v.lo.neg) (.slice PN pN qN) (.int .i64 o4.v.lo.e) (.bool o4.v.hi.neg) (.slice RN rN sN) (.int .i64 o4.v.hi.e)) b' x y z x' y' z') := fun _ _ _ _ _ _ _ h hne => blkI_ivW h hne _ _ _ _ _ _
  have UD : Hid (∀ (v : Value) (r : Raw), DyR w1 v r → DyR (ivW w1 bU (.bool o4.v.lo.neg) (.slice PN pN qN) (.int .i64 o4.v.lo.e) (.bool o4.v.hi.neg) (.slice RN rN sN) (.int .i64 o4.v.hi.e)) v r) := fun _ _ h => h.ivW hx _ _ _ _ _ _
  have HX' := Lib.hid (hx.laid (.bool o4.v.lo.neg) (.slice PN pN qN) (.int .i64 o4.v.lo.e) (.bool o4.v.hi.neg) (.slice RN rN sN) (.int .i64 o4.v.hi.e))
  replace K := Lib.hid (ivW_kept (x := .bool o4.v.lo.neg) (y := .slice PN pN qN) (z := .int .i64 o4.v.lo.e) (x' := .bool o4.v.hi.neg) (y' := .slice RN rN sN) (z' := .int .i64 o4.v.hi.e) (K.out.trans q) (show w.heap.size ≤ bU by omega))
  replace HA := Lib.hid (UP.out _ _ _ _ _ _ _ (HA.out.kept q) (by omega)); replace HB := Lib.hid (UP.out _ _ _ _ _ _ _ (HB.out.kept q) (by omega)); replace HX := Lib.hid (UP.out _ _ _ _ _ _ _ (HX.out.kept q) (by omega)); replace HY := Lib.hid (UP.out _ _ _ _ _ _ _ (HY.out.kept q) (by omega)); replace HS := Lib.hid (UP.out _ _ _ _ _ _ _ (HS.out.kept q) (by omega)); replace ZX := Lib.hid (And.intro (UD.out _ _ (ZX.out.1.kept q)) (UD.out _ _ (ZX.out.2.kept q))); replace ZY := Lib.hid (And.intro (UD.out _ _ (ZY.out.1.kept q)) (UD.out _ _ (ZY.out.2.kept q))); replace ZM := Lib.hid (And.intro (UD.out _ _ (ZM.out.1.kept q)) (UD.out _ _ (ZM.out.2.kept q)))
  replace HU := Lib.hid (HX'.out)
  have ZN := Lib.hid (And.intro (UD.out _ _ z1) (UD.out _ _ z2))
  clear UP UD HX' hx x0 x1 x2 x3 x4 x5 f0 f1 f2 f3 f4 f5 q hd z1 z2 c0 c1 c2 c3 c4 c5 d0 d1 d2 d3 d4 d5
  generalize ivW w1 bU (.bool o4.v.lo.neg) (.slice PN pN qN) (.int .i64 o4.v.lo.e) (.bool o4.v.hi.neg) (.slice RN rN sN) (.int .i64 o4.v.hi.e) = V at *
  refine region_seq (m := 12) (V := VL [
      (fun v _ => v = .int .i64 o3.k),
      (fun v _ => v = (.bool z3)),
      (fun v _ => v = (.bool z3)),
      (fun v wv => (z3 = true → (fun v _ => v = .int .i64 o4.k) v wv) ∧ (z3 = false → v = undef)),
      (fun v wv => (z3 = true → (fun v _ => v = (.bool z4)) v wv) ∧ (z3 = false → v = undef)),
      (fun v _ => v = (.bool (z3 && z4))),
      (fun v _ => v = (.bool (z3 && z4))),
      (fun v wv => ((z3 && z4) = true → (fun v _ => v = (.agg #[.bool o3.v.lo.neg, .slice PM pM qM, .int .i64 o3.v.lo.e, .bool o3.v.hi.neg, .slice RM rM sM, .int .i64 o3.v.hi.e])) v wv) ∧ ((z3 && z4) = false → v = undef)),
      (fun v wv => ((z3 && z4) = true → (fun v _ => v = (.agg #[.bool o4.v.lo.neg, .slice PN pN qN, .int .i64 o4.v.lo.e, .bool o4.v.hi.neg, .slice RN rN sN, .int .i64 o4.v.hi.e])) v wv) ∧ ((z3 && z4) = false → v = undef)),
      (fun v wv => ((z3 && z4) = true → (fun v _ => v = (.bool true)) v wv) ∧ ((z3 && z4) = false → v = undef)),
      (fun v wv => ((z3 && z4) = true → (fun v _ => v = (.bool false)) v wv) ∧ ((z3 && z4) = false → v = undef)),
      (fun v _ => v = (.bool false))])
    rfl (by kernel_rfl) (by kernel_rfl) (by kernel_rfl) (mono_of _ ⟨mono_eq _, mono_eq _, mono_eq _, fun v w w' k h => ⟨fun hC => (fun v w w' k h => by first | exact h | exact h.kept k | exact ⟨h.1, h.2.kept k⟩) v w w' k (h.1 hC), h.2⟩, fun v w w' k h => ⟨fun hC => (fun v w w' k h => by first | exact h | exact h.kept k | exact ⟨h.1, h.2.kept k⟩) v w w' k (h.1 hC), h.2⟩, mono_eq _, mono_eq _, fun v w w' k h => ⟨fun hC => (fun v w w' k h => by first | exact h | exact h.kept k | exact ⟨h.1, h.2.kept k⟩) v w w' k (h.1 hC), h.2⟩, fun v w w' k h => ⟨fun hC => (fun v w w' k h => by first | exact h | exact h.kept k | exact ⟨h.1, h.2.kept k⟩) v w w' k (h.1 hC), h.2⟩, fun v w w' k h => ⟨fun hC => (fun v w w' k h => by first | exact h | exact h.kept k | exact ⟨h.1, h.2.kept k⟩) v w w' k (h.1 hC), h.2⟩, fun v w w' k h => ⟨fun hC => (fun v w w' k h => by first | exact h | exact h.kept k | exact ⟨h.1, h.2.kept k⟩) v w w' k (h.1 hC), h.2⟩, mono_eq _, trivial⟩) (steps_of ⟨
      (fun aF wF F => by
    have s16 : aF.tmps.getD 16 undef = .int .i64 o3.k := F.old 16 (by kernel_rfl)
    exact step_val (by simp [Region.wanted]) (by go_simp) rfl),
      (fun aF wF F => by
    have s130 : aF.tmps.getD 130 undef = .int .i64 o3.k := F.done 0 130 (by kernel_rfl) rfl
    exact step_val (by simp [Region.wanted]) (by (go_simp; exact Q3.out)) rfl),
      (fun aF wF F => by
    have s131 : aF.tmps.getD 131 undef = (.bool z3) := F.done 1 131 (by kernel_rfl) rfl
    exact step_val (by simp [Region.wanted]) (by go_simp) rfl),
      (fun aF wF F => by
    have sg : aF.tmps.getD 132 undef = (.bool z3) := F.done 2 132 (by kernel_rfl) rfl
    have s18 : aF.tmps.getD 18 undef = .int .i64 o4.k := F.old 18 (by kernel_rfl)
    rcases bools z3 with hC | hC
    · refine step_imp (V1 := fun _ => (fun v _ => v = .int .i64 o4.k)) ?_ (fun _ _ h => ⟨fun _ => h, fun hN => absurd (hC.symm.trans hN) (by decide)⟩)
      exact step_val ((wanted_guard rfl rfl sg).trans (by first | rfl | simp [hC])) (by go_simp) rfl
    · exact step_out ((wanted_guard rfl rfl sg).trans (by first | rfl | simp [hC])) ⟨fun h => absurd (hC.symm.trans h) (by decide), fun _ => rfl⟩),
      (fun aF wF F => by
    have sg : aF.tmps.getD 132 undef = (.bool z3) := F.done 2 132 (by kernel_rfl) rfl
    have s133 : (z3 = true → aF.tmps.getD 133 undef = .int .i64 o4.k) ∧ (z3 = false → aF.tmps.getD 133 undef = undef) := F.done 3 133 (by kernel_rfl) rfl
    rcases bools z3 with hC | hC
    · refine step_imp (V1 := fun _ => (fun v _ => v = (.bool z4))) ?_ (fun _ _ h => ⟨fun _ => h, fun hN => absurd (hC.symm.trans hN) (by decide)⟩)
      replace s133 := s133.1 hC
      exact step_val ((wanted_guard rfl rfl sg).trans (by first | rfl | simp [hC])) (by (go_simp; exact Q4.out)) rfl
    · exact step_out ((wanted_guard rfl rfl sg).trans (by first | rfl | simp [hC])) ⟨fun h => absurd (hC.symm.trans h) (by decide), fun _ => rfl⟩),
      (fun aF wF F => by
    have s132 : aF.tmps.getD 132 undef = (.bool z3) := F.done 2 132 (by kernel_rfl) rfl
    have s134 : (z3 = true → aF.tmps.getD 134 undef = (.bool z4)) ∧ (z3 = false → aF.tmps.getD 134 undef = undef) := F.done 4 134 (by kernel_rfl) rfl
    rcases bools z3 with hE | hE
    · replace s134 := s134.1 hE
      exact step_val (by simp [Region.wanted]) (by first | (go_simp; done) | (go_simp; simp_all; done) | (simp_all; done)) rfl
    · exact step_val (by simp [Region.wanted]) (by first | (go_simp; done) | (go_simp; simp_all; done) | (simp_all; done)) rfl),
      (fun aF wF F => by
    have s135 : aF.tmps.getD 135 undef = (.bool (z3 && z4)) := F.done 5 135 (by kernel_rfl) rfl
    exact step_val (by simp [Region.wanted]) (by go_simp) rfl),
      (fun aF wF F => by
    have sg : aF.tmps.getD 136 undef = (.bool (z3 && z4)) := F.done 6 136 (by kernel_rfl) rfl
    have s19 : aF.tmps.getD 19 undef = (.pointer (some ⟨bS, 0, none⟩)) := F.old 19 (by kernel_rfl)
    have c0 := cell_at HS.out F.kept 0 _ rfl
    have c1 := cell_at HS.out F.kept 1 _ rfl
    have c2 := cell_at HS.out F.kept 2 _ rfl
    have c3 := cell_at HS.out F.kept 3 _ rfl
    have c4 := cell_at HS.out F.kept 4 _ rfl
    have c5 := cell_at HS.out F.kept 5 _ rfl
    rcases bools (z3 && z4) with hC | hC
    · refine step_imp (V1 := fun _ => (fun v _ => v = (.agg #[.bool o3.v.lo.neg, .slice PM pM qM, .int .i64 o3.v.lo.e, .bool o3.v.hi.neg, .slice RM rM sM, .int .i64 o3.v.hi.e]))) ?_ (fun _ _ h => ⟨fun _ => h, fun hN => absurd (hC.symm.trans hN) (by decide)⟩)
      exact step_val ((wanted_guard rfl rfl sg).trans (by first | rfl | simp [hC])) (by go_simp) rfl
    · exact step_out ((wanted_guard rfl rfl sg).trans (by first | rfl | simp [hC])) ⟨fun h => absurd (hC.symm.trans h) (by decide), fun _ => rfl⟩),
      (fun aF wF F => by
    have sg : aF.tmps.getD 136 undef = (.bool (z3 && z4)) := F.done 6 136 (by kernel_rfl) rfl
    have s20 : aF.tmps.getD 20 undef = (.pointer (some ⟨bU, 0, none⟩)) := F.old 20 (by kernel_rfl)
    have c0 := cell_at HU.out F.kept 0 _ rfl
    have c1 := cell_at HU.out F.kept 1 _ rfl
    have c2 := cell_at HU.out F.kept 2 _ rfl
    have c3 := cell_at HU.out F.kept 3 _ rfl
    have c4 := cell_at HU.out F.kept 4 _ rfl
    have c5 := cell_at HU.out F.kept 5 _ rfl
    rcases bools (z3 && z4) with hC | hC
    · refine step_imp (V1 := fun _ => (fun v _ => v = (.agg #[.bool o4.v.lo.neg, .slice PN pN qN, .int .i64 o4.v.lo.e, .bool o4.v.hi.neg, .slice RN rN sN, .int .i64 o4.v.hi.e]))) ?_ (fun _ _ h => ⟨fun _ => h, fun hN => absurd (hC.symm.trans hN) (by decide)⟩)
      exact step_val ((wanted_guard rfl rfl sg).trans (by first | rfl | simp [hC])) (by go_simp) rfl
    · exact step_out ((wanted_guard rfl rfl sg).trans (by first | rfl | simp [hC])) ⟨fun h => absurd (hC.symm.trans h) (by decide), fun _ => rfl⟩),
      (fun aF wF F => by
    have sg : aF.tmps.getD 136 undef = (.bool (z3 && z4)) := F.done 6 136 (by kernel_rfl) rfl
    have s137 : ((z3 && z4) = true → aF.tmps.getD 137 undef = (.agg #[.bool o3.v.lo.neg, .slice PM pM qM, .int .i64 o3.v.lo.e, .bool o3.v.hi.neg, .slice RM rM sM, .int .i64 o3.v.hi.e])) ∧ ((z3 && z4) = false → aF.tmps.getD 137 undef = undef) := F.done 7 137 (by kernel_rfl) rfl
    have s138 : ((z3 && z4) = true → aF.tmps.getD 138 undef = (.agg #[.bool o4.v.lo.neg, .slice PN pN qN, .int .i64 o4.v.lo.e, .bool o4.v.hi.neg, .slice RN rN sN, .int .i64 o4.v.hi.e])) ∧ ((z3 && z4) = false → aF.tmps.getD 138 undef = undef) := F.done 8 138 (by kernel_rfl) rfl
    rcases bools (z3 && z4) with hC | hC
    · refine step_imp (V1 := fun _ => (fun v _ => v = (.bool true))) ?_ (fun _ _ h => ⟨fun _ => h, fun hN => absurd (hC.symm.trans hN) (by decide)⟩)
      replace s137 := s137.1 hC
      replace s138 := s138.1 hC
      exact step_good ((wanted_guard rfl rfl sg).trans (by first | rfl | simp [hC])) (by go_simp) (CW3.out hC _ _ _ ⟨_, _, _, _, _, _, rfl, ZM.out.1.kept F.kept, ZM.out.2.kept F.kept⟩ ⟨_, _, _, _, _, _, rfl, ZN.out.1.kept F.kept, ZN.out.2.kept F.kept⟩) (fun _ _ h => RetK.good h) (fun _ _ h => h)
    · exact step_out ((wanted_guard rfl rfl sg).trans (by first | rfl | simp [hC])) ⟨fun h => absurd (hC.symm.trans h) (by decide), fun _ => rfl⟩),
      (fun aF wF F => by
    have sg : aF.tmps.getD 136 undef = (.bool (z3 && z4)) := F.done 6 136 (by kernel_rfl) rfl
    have s139 : ((z3 && z4) = true → aF.tmps.getD 139 undef = (.bool true)) ∧ ((z3 && z4) = false → aF.tmps.getD 139 undef = undef) := F.done 9 139 (by kernel_rfl) rfl
    rcases bools (z3 && z4) with hC | hC
    · refine step_imp (V1 := fun _ => (fun v _ => v = (.bool false))) ?_ (fun _ _ h => ⟨fun _ => h, fun hN => absurd (hC.symm.trans hN) (by decide)⟩)
      replace s139 := s139.1 hC
      exact step_val ((wanted_guard rfl rfl sg).trans (by first | rfl | simp [hC])) (by go_simp) rfl
    · exact step_out ((wanted_guard rfl rfl sg).trans (by first | rfl | simp [hC])) ⟨fun h => absurd (hC.symm.trans h) (by decide), fun _ => rfl⟩),
      (fun aF wF F => by
    have s136 : aF.tmps.getD 136 undef = (.bool (z3 && z4)) := F.done 6 136 (by kernel_rfl) rfl
    have s140 : ((z3 && z4) = true → aF.tmps.getD 140 undef = (.bool false)) ∧ ((z3 && z4) = false → aF.tmps.getD 140 undef = undef) := F.done 10 140 (by kernel_rfl) rfl
    rcases bools (z3 && z4) with hE | hE
    · replace s140 := s140.1 hE
      exact step_val (by simp [Region.wanted]) (by first | (go_simp; done) | (go_simp; simp_all; done) | (simp_all; done)) rfl
    · exact step_val (by simp [Region.wanted]) (by first | (go_simp; done) | (go_simp; simp_all; done) | (simp_all; done)) rfl),
      trivial⟩) ?_
  intro u w1 k1 hu
  have e130 : u 0 = .int .i64 o3.k := hu 0 (by decide)
  have e131 : u 1 = (.bool z3) := hu 1 (by decide)
  have e132 : u 2 = (.bool z3) := hu 2 (by decide)
  have p133 := hu 3 (by decide)
  have p134 := hu 4 (by decide)
  have e135 : u 5 = (.bool (z3 && z4)) := hu 5 (by decide)
  have e136 : u 6 = (.bool (z3 && z4)) := hu 6 (by decide)
  have p137 := hu 7 (by decide)
  have p138 := hu 8 (by decide)
  have p139 := hu 9 (by decide)
  have p140 := hu 10 (by decide)
  have e141 : u 11 = (.bool false) := hu 11 (by decide)
  clear hu
  simp only [puts, slotOf, if_true, Act.put, List.setIfInBounds_toArray, List.set_cons_zero, List.set_cons_succ, List.getElem?_toArray, List.getElem?_cons_zero, List.getElem?_cons_succ, Option.bind_some, e130, e131, e132, e135, e136, e141]
  clear e130 e131 e132 e135 e136 e141
  generalize u 3 = v133 at *
  try simp only [VL, List.getD_cons_zero, List.getD_cons_succ] at p133
  generalize u 4 = v134 at *
  try simp only [VL, List.getD_cons_zero, List.getD_cons_succ] at p134
  generalize u 7 = v137 at *
  try simp only [VL, List.getD_cons_zero, List.getD_cons_succ] at p137
  generalize u 8 = v138 at *
  try simp only [VL, List.getD_cons_zero, List.getD_cons_succ] at p138
  generalize u 9 = v139 at *
  try simp only [VL, List.getD_cons_zero, List.getD_cons_succ] at p139
  generalize u 10 = v140 at *
  try simp only [VL, List.getD_cons_zero, List.getD_cons_succ] at p140
  clear p133 p134 p137 p138 p139 p140
  replace K := Lib.hid (K.out.trans k1)
  replace HA := Lib.hid (HA.out.kept k1)
  replace HB := Lib.hid (HB.out.kept k1)
  replace HX := Lib.hid (HX.out.kept k1)
  replace HY := Lib.hid (HY.out.kept k1)
  replace HS := Lib.hid (HS.out.kept k1)
  replace HU := Lib.hid (HU.out.kept k1)
  replace ZX := Lib.hid (And.intro (ZX.out.1.kept k1) (ZX.out.2.kept k1))
  replace ZY := Lib.hid (And.intro (ZY.out.1.kept k1) (ZY.out.2.kept k1))
  clear k1 ZM ZN Q3 Q4 CW3 C3 C4
  go_upto_region 17 with fail
  obtain ⟨-, c0, c1, c2, c3, c4, c5⟩ := HA.out.facts
  obtain ⟨-, d0, d1, d2, d3, d4, d5⟩ := HB.out.facts
  go_wp2_with fail
  refine (C5.out _ K.out).mono ?_
  rintro e w1 ⟨q, u, rfl, hd⟩
  obtain ⟨PE, pE, qE, RE, rE, sE, rfl, z1, z2⟩ := ivR_split hd
  simp only []
  have hx := HS.out.kept q
  obtain ⟨-, x0, x1, x2, x3, x4, x5⟩ := hx.facts
  obtain ⟨f0, f1, f2, f3, f4, f5⟩ := hx.free
  go_upto_region 18 with fail
  change Code.wp _ _ _ _ (ivW w1 bS _ _ _ _ _ _)
  have UP : Hid (∀ (b' : Nat) (x y z x' y' z' : Value), BlkI w1 b' x y z x' y' z' → b' ≠ bS → BlkI (ivW w1 bS (.bool o5.v.lo.neg) (.slice PE pE qE) (.int .i64 o5.v.lo.e) (.bool o5.v.hi.neg) (.slice RE rE sE) (.int .i64 o5.v.hi.e)) b' x y z x' y' z') := fun _ _ _ _ _ _ _ h hne => blkI_ivW h hne _ _ _ _ _ _
  have UD : Hid (∀ (v : Value) (r : Raw), DyR w1 v r → DyR (ivW w1 bS (.bool o5.v.lo.neg) (.slice PE pE qE) (.int .i64 o5.v.lo.e) (.bool o5.v.hi.neg) (.slice RE rE sE) (.int .i64 o5.v.hi.e)) v r) := fun _ _ h => h.ivW hx _ _ _ _ _ _
  have HX' := Lib.hid (hx.laid (.bool o5.v.lo.neg) (.slice PE pE qE) (.int .i64 o5.v.lo.e) (.bool o5.v.hi.neg) (.slice RE rE sE) (.int .i64 o5.v.hi.e))
  replace K := Lib.hid (ivW_kept (x := .bool o5.v.lo.neg) (y := .slice PE pE qE) (z := .int .i64 o5.v.lo.e) (x' := .bool o5.v.hi.neg) (y' := .slice RE rE sE) (z' := .int .i64 o5.v.hi.e) (K.out.trans q) (show w.heap.size ≤ bS by omega))
  replace HA := Lib.hid (UP.out _ _ _ _ _ _ _ (HA.out.kept q) (by omega)); replace HB := Lib.hid (UP.out _ _ _ _ _ _ _ (HB.out.kept q) (by omega)); replace HX := Lib.hid (UP.out _ _ _ _ _ _ _ (HX.out.kept q) (by omega)); replace HY := Lib.hid (UP.out _ _ _ _ _ _ _ (HY.out.kept q) (by omega)); replace HU := Lib.hid (UP.out _ _ _ _ _ _ _ (HU.out.kept q) (by omega)); replace ZX := Lib.hid (And.intro (UD.out _ _ (ZX.out.1.kept q)) (UD.out _ _ (ZX.out.2.kept q))); replace ZY := Lib.hid (And.intro (UD.out _ _ (ZY.out.1.kept q)) (UD.out _ _ (ZY.out.2.kept q)))
  replace HS := Lib.hid (HX'.out)
  have ZE := Lib.hid (And.intro (UD.out _ _ z1) (UD.out _ _ z2))
  clear UP UD HX' hx x0 x1 x2 x3 x4 x5 f0 f1 f2 f3 f4 f5 q hd z1 z2 c0 c1 c2 c3 c4 c5 d0 d1 d2 d3 d4 d5
  generalize ivW w1 bS (.bool o5.v.lo.neg) (.slice PE pE qE) (.int .i64 o5.v.lo.e) (.bool o5.v.hi.neg) (.slice RE rE sE) (.int .i64 o5.v.hi.e) = V at *
  obtain ⟨-, c0, c1, c2, c3, c4, c5⟩ := HX.out.facts
  obtain ⟨-, d0, d1, d2, d3, d4, d5⟩ := HY.out.facts
  go_wp2_with fail
  refine (C6.out _ _ _ K.out ⟨_, _, _, _, _, _, rfl, ZX.out.1, ZX.out.2⟩ ⟨_, _, _, _, _, _, rfl, ZY.out.1, ZY.out.2⟩).mono ?_
  rintro e w1 ⟨q, u, rfl, hd⟩
  obtain ⟨PI, pI, qI, RI, rI, sI, rfl, z1, z2⟩ := ivR_split hd
  simp only []
  have hx := HU.out.kept q
  obtain ⟨-, x0, x1, x2, x3, x4, x5⟩ := hx.facts
  obtain ⟨f0, f1, f2, f3, f4, f5⟩ := hx.free
  go_upto_region 19 with fail
  change Code.wp _ _ _ _ (ivW w1 bU _ _ _ _ _ _)
  have UP : Hid (∀ (b' : Nat) (x y z x' y' z' : Value), BlkI w1 b' x y z x' y' z' → b' ≠ bU → BlkI (ivW w1 bU (.bool o6.v.lo.neg) (.slice PI pI qI) (.int .i64 o6.v.lo.e) (.bool o6.v.hi.neg) (.slice RI rI sI) (.int .i64 o6.v.hi.e)) b' x y z x' y' z') := fun _ _ _ _ _ _ _ h hne => blkI_ivW h hne _ _ _ _ _ _
  have UD : Hid (∀ (v : Value) (r : Raw), DyR w1 v r → DyR (ivW w1 bU (.bool o6.v.lo.neg) (.slice PI pI qI) (.int .i64 o6.v.lo.e) (.bool o6.v.hi.neg) (.slice RI rI sI) (.int .i64 o6.v.hi.e)) v r) := fun _ _ h => h.ivW hx _ _ _ _ _ _
  have HX' := Lib.hid (hx.laid (.bool o6.v.lo.neg) (.slice PI pI qI) (.int .i64 o6.v.lo.e) (.bool o6.v.hi.neg) (.slice RI rI sI) (.int .i64 o6.v.hi.e))
  replace K := Lib.hid (ivW_kept (x := .bool o6.v.lo.neg) (y := .slice PI pI qI) (z := .int .i64 o6.v.lo.e) (x' := .bool o6.v.hi.neg) (y' := .slice RI rI sI) (z' := .int .i64 o6.v.hi.e) (K.out.trans q) (show w.heap.size ≤ bU by omega))
  replace HA := Lib.hid (UP.out _ _ _ _ _ _ _ (HA.out.kept q) (by omega)); replace HB := Lib.hid (UP.out _ _ _ _ _ _ _ (HB.out.kept q) (by omega)); replace HX := Lib.hid (UP.out _ _ _ _ _ _ _ (HX.out.kept q) (by omega)); replace HY := Lib.hid (UP.out _ _ _ _ _ _ _ (HY.out.kept q) (by omega)); replace HS := Lib.hid (UP.out _ _ _ _ _ _ _ (HS.out.kept q) (by omega)); replace ZX := Lib.hid (And.intro (UD.out _ _ (ZX.out.1.kept q)) (UD.out _ _ (ZX.out.2.kept q))); replace ZY := Lib.hid (And.intro (UD.out _ _ (ZY.out.1.kept q)) (UD.out _ _ (ZY.out.2.kept q))); replace ZE := Lib.hid (And.intro (UD.out _ _ (ZE.out.1.kept q)) (UD.out _ _ (ZE.out.2.kept q)))
  replace HU := Lib.hid (HX'.out)
  have ZI := Lib.hid (And.intro (UD.out _ _ z1) (UD.out _ _ z2))
  clear UP UD HX' hx x0 x1 x2 x3 x4 x5 f0 f1 f2 f3 f4 f5 q hd z1 z2 c0 c1 c2 c3 c4 c5 d0 d1 d2 d3 d4 d5
  generalize ivW w1 bU (.bool o6.v.lo.neg) (.slice PI pI qI) (.int .i64 o6.v.lo.e) (.bool o6.v.hi.neg) (.slice RI rI sI) (.int .i64 o6.v.hi.e) = V at *
  refine region_seq (m := 12) (V := VL [
      (fun v _ => v = .int .i64 o5.k),
      (fun v _ => v = (.bool z5)),
      (fun v _ => v = (.bool z5)),
      (fun v wv => (z5 = true → (fun v _ => v = .int .i64 o6.k) v wv) ∧ (z5 = false → v = undef)),
      (fun v wv => (z5 = true → (fun v _ => v = (.bool z6)) v wv) ∧ (z5 = false → v = undef)),
      (fun v _ => v = (.bool (z5 && z6))),
      (fun v _ => v = (.bool (z5 && z6))),
      (fun v wv => ((z5 && z6) = true → (fun v _ => v = (.agg #[.bool o5.v.lo.neg, .slice PE pE qE, .int .i64 o5.v.lo.e, .bool o5.v.hi.neg, .slice RE rE sE, .int .i64 o5.v.hi.e])) v wv) ∧ ((z5 && z6) = false → v = undef)),
      (fun v wv => ((z5 && z6) = true → (fun v _ => v = (.agg #[.bool o6.v.lo.neg, .slice PI pI qI, .int .i64 o6.v.lo.e, .bool o6.v.hi.neg, .slice RI rI sI, .int .i64 o6.v.hi.e])) v wv) ∧ ((z5 && z6) = false → v = undef)),
      (fun v wv => ((z5 && z6) = true → (fun v _ => v = (.bool true)) v wv) ∧ ((z5 && z6) = false → v = undef)),
      (fun v wv => ((z5 && z6) = true → (fun v _ => v = (.bool false)) v wv) ∧ ((z5 && z6) = false → v = undef)),
      (fun v _ => v = (.bool false))])
    rfl (by kernel_rfl) (by kernel_rfl) (by kernel_rfl) (mono_of _ ⟨mono_eq _, mono_eq _, mono_eq _, fun v w w' k h => ⟨fun hC => (fun v w w' k h => by first | exact h | exact h.kept k | exact ⟨h.1, h.2.kept k⟩) v w w' k (h.1 hC), h.2⟩, fun v w w' k h => ⟨fun hC => (fun v w w' k h => by first | exact h | exact h.kept k | exact ⟨h.1, h.2.kept k⟩) v w w' k (h.1 hC), h.2⟩, mono_eq _, mono_eq _, fun v w w' k h => ⟨fun hC => (fun v w w' k h => by first | exact h | exact h.kept k | exact ⟨h.1, h.2.kept k⟩) v w w' k (h.1 hC), h.2⟩, fun v w w' k h => ⟨fun hC => (fun v w w' k h => by first | exact h | exact h.kept k | exact ⟨h.1, h.2.kept k⟩) v w w' k (h.1 hC), h.2⟩, fun v w w' k h => ⟨fun hC => (fun v w w' k h => by first | exact h | exact h.kept k | exact ⟨h.1, h.2.kept k⟩) v w w' k (h.1 hC), h.2⟩, fun v w w' k h => ⟨fun hC => (fun v w w' k h => by first | exact h | exact h.kept k | exact ⟨h.1, h.2.kept k⟩) v w w' k (h.1 hC), h.2⟩, mono_eq _, trivial⟩) (steps_of ⟨
      (fun aF wF F => by
    have s16 : aF.tmps.getD 16 undef = .int .i64 o5.k := F.old 16 (by kernel_rfl)
    exact step_val (by simp [Region.wanted]) (by go_simp) rfl),
      (fun aF wF F => by
    have s156 : aF.tmps.getD 156 undef = .int .i64 o5.k := F.done 0 156 (by kernel_rfl) rfl
    exact step_val (by simp [Region.wanted]) (by (go_simp; exact Q5.out)) rfl),
      (fun aF wF F => by
    have s157 : aF.tmps.getD 157 undef = (.bool z5) := F.done 1 157 (by kernel_rfl) rfl
    exact step_val (by simp [Region.wanted]) (by go_simp) rfl),
      (fun aF wF F => by
    have sg : aF.tmps.getD 158 undef = (.bool z5) := F.done 2 158 (by kernel_rfl) rfl
    have s18 : aF.tmps.getD 18 undef = .int .i64 o6.k := F.old 18 (by kernel_rfl)
    rcases bools z5 with hC | hC
    · refine step_imp (V1 := fun _ => (fun v _ => v = .int .i64 o6.k)) ?_ (fun _ _ h => ⟨fun _ => h, fun hN => absurd (hC.symm.trans hN) (by decide)⟩)
      exact step_val ((wanted_guard rfl rfl sg).trans (by first | rfl | simp [hC])) (by go_simp) rfl
    · exact step_out ((wanted_guard rfl rfl sg).trans (by first | rfl | simp [hC])) ⟨fun h => absurd (hC.symm.trans h) (by decide), fun _ => rfl⟩),
      (fun aF wF F => by
    have sg : aF.tmps.getD 158 undef = (.bool z5) := F.done 2 158 (by kernel_rfl) rfl
    have s159 : (z5 = true → aF.tmps.getD 159 undef = .int .i64 o6.k) ∧ (z5 = false → aF.tmps.getD 159 undef = undef) := F.done 3 159 (by kernel_rfl) rfl
    rcases bools z5 with hC | hC
    · refine step_imp (V1 := fun _ => (fun v _ => v = (.bool z6))) ?_ (fun _ _ h => ⟨fun _ => h, fun hN => absurd (hC.symm.trans hN) (by decide)⟩)
      replace s159 := s159.1 hC
      exact step_val ((wanted_guard rfl rfl sg).trans (by first | rfl | simp [hC])) (by (go_simp; exact Q6.out)) rfl
    · exact step_out ((wanted_guard rfl rfl sg).trans (by first | rfl | simp [hC])) ⟨fun h => absurd (hC.symm.trans h) (by decide), fun _ => rfl⟩),
      (fun aF wF F => by
    have s158 : aF.tmps.getD 158 undef = (.bool z5) := F.done 2 158 (by kernel_rfl) rfl
    have s160 : (z5 = true → aF.tmps.getD 160 undef = (.bool z6)) ∧ (z5 = false → aF.tmps.getD 160 undef = undef) := F.done 4 160 (by kernel_rfl) rfl
    rcases bools z5 with hE | hE
    · replace s160 := s160.1 hE
      exact step_val (by simp [Region.wanted]) (by first | (go_simp; done) | (go_simp; simp_all; done) | (simp_all; done)) rfl
    · exact step_val (by simp [Region.wanted]) (by first | (go_simp; done) | (go_simp; simp_all; done) | (simp_all; done)) rfl),
      (fun aF wF F => by
    have s161 : aF.tmps.getD 161 undef = (.bool (z5 && z6)) := F.done 5 161 (by kernel_rfl) rfl
    exact step_val (by simp [Region.wanted]) (by go_simp) rfl),
      (fun aF wF F => by
    have sg : aF.tmps.getD 162 undef = (.bool (z5 && z6)) := F.done 6 162 (by kernel_rfl) rfl
    have s19 : aF.tmps.getD 19 undef = (.pointer (some ⟨bS, 0, none⟩)) := F.old 19 (by kernel_rfl)
    have c0 := cell_at HS.out F.kept 0 _ rfl
    have c1 := cell_at HS.out F.kept 1 _ rfl
    have c2 := cell_at HS.out F.kept 2 _ rfl
    have c3 := cell_at HS.out F.kept 3 _ rfl
    have c4 := cell_at HS.out F.kept 4 _ rfl
    have c5 := cell_at HS.out F.kept 5 _ rfl
    rcases bools (z5 && z6) with hC | hC
    · refine step_imp (V1 := fun _ => (fun v _ => v = (.agg #[.bool o5.v.lo.neg, .slice PE pE qE, .int .i64 o5.v.lo.e, .bool o5.v.hi.neg, .slice RE rE sE, .int .i64 o5.v.hi.e]))) ?_ (fun _ _ h => ⟨fun _ => h, fun hN => absurd (hC.symm.trans hN) (by decide)⟩)
      exact step_val ((wanted_guard rfl rfl sg).trans (by first | rfl | simp [hC])) (by go_simp) rfl
    · exact step_out ((wanted_guard rfl rfl sg).trans (by first | rfl | simp [hC])) ⟨fun h => absurd (hC.symm.trans h) (by decide), fun _ => rfl⟩),
      (fun aF wF F => by
    have sg : aF.tmps.getD 162 undef = (.bool (z5 && z6)) := F.done 6 162 (by kernel_rfl) rfl
    have s20 : aF.tmps.getD 20 undef = (.pointer (some ⟨bU, 0, none⟩)) := F.old 20 (by kernel_rfl)
    have c0 := cell_at HU.out F.kept 0 _ rfl
    have c1 := cell_at HU.out F.kept 1 _ rfl
    have c2 := cell_at HU.out F.kept 2 _ rfl
    have c3 := cell_at HU.out F.kept 3 _ rfl
    have c4 := cell_at HU.out F.kept 4 _ rfl
    have c5 := cell_at HU.out F.kept 5 _ rfl
    rcases bools (z5 && z6) with hC | hC
    · refine step_imp (V1 := fun _ => (fun v _ => v = (.agg #[.bool o6.v.lo.neg, .slice PI pI qI, .int .i64 o6.v.lo.e, .bool o6.v.hi.neg, .slice RI rI sI, .int .i64 o6.v.hi.e]))) ?_ (fun _ _ h => ⟨fun _ => h, fun hN => absurd (hC.symm.trans hN) (by decide)⟩)
      exact step_val ((wanted_guard rfl rfl sg).trans (by first | rfl | simp [hC])) (by go_simp) rfl
    · exact step_out ((wanted_guard rfl rfl sg).trans (by first | rfl | simp [hC])) ⟨fun h => absurd (hC.symm.trans h) (by decide), fun _ => rfl⟩),
      (fun aF wF F => by
    have sg : aF.tmps.getD 162 undef = (.bool (z5 && z6)) := F.done 6 162 (by kernel_rfl) rfl
    have s163 : ((z5 && z6) = true → aF.tmps.getD 163 undef = (.agg #[.bool o5.v.lo.neg, .slice PE pE qE, .int .i64 o5.v.lo.e, .bool o5.v.hi.neg, .slice RE rE sE, .int .i64 o5.v.hi.e])) ∧ ((z5 && z6) = false → aF.tmps.getD 163 undef = undef) := F.done 7 163 (by kernel_rfl) rfl
    have s164 : ((z5 && z6) = true → aF.tmps.getD 164 undef = (.agg #[.bool o6.v.lo.neg, .slice PI pI qI, .int .i64 o6.v.lo.e, .bool o6.v.hi.neg, .slice RI rI sI, .int .i64 o6.v.hi.e])) ∧ ((z5 && z6) = false → aF.tmps.getD 164 undef = undef) := F.done 8 164 (by kernel_rfl) rfl
    rcases bools (z5 && z6) with hC | hC
    · refine step_imp (V1 := fun _ => (fun v _ => v = (.bool true))) ?_ (fun _ _ h => ⟨fun _ => h, fun hN => absurd (hC.symm.trans hN) (by decide)⟩)
      replace s163 := s163.1 hC
      replace s164 := s164.1 hC
      exact step_good ((wanted_guard rfl rfl sg).trans (by first | rfl | simp [hC])) (by go_simp) (CW5.out hC _ _ _ ⟨_, _, _, _, _, _, rfl, ZE.out.1.kept F.kept, ZE.out.2.kept F.kept⟩ ⟨_, _, _, _, _, _, rfl, ZI.out.1.kept F.kept, ZI.out.2.kept F.kept⟩) (fun _ _ h => RetK.good h) (fun _ _ h => h)
    · exact step_out ((wanted_guard rfl rfl sg).trans (by first | rfl | simp [hC])) ⟨fun h => absurd (hC.symm.trans h) (by decide), fun _ => rfl⟩),
      (fun aF wF F => by
    have sg : aF.tmps.getD 162 undef = (.bool (z5 && z6)) := F.done 6 162 (by kernel_rfl) rfl
    have s165 : ((z5 && z6) = true → aF.tmps.getD 165 undef = (.bool true)) ∧ ((z5 && z6) = false → aF.tmps.getD 165 undef = undef) := F.done 9 165 (by kernel_rfl) rfl
    rcases bools (z5 && z6) with hC | hC
    · refine step_imp (V1 := fun _ => (fun v _ => v = (.bool false))) ?_ (fun _ _ h => ⟨fun _ => h, fun hN => absurd (hC.symm.trans hN) (by decide)⟩)
      replace s165 := s165.1 hC
      exact step_val ((wanted_guard rfl rfl sg).trans (by first | rfl | simp [hC])) (by go_simp) rfl
    · exact step_out ((wanted_guard rfl rfl sg).trans (by first | rfl | simp [hC])) ⟨fun h => absurd (hC.symm.trans h) (by decide), fun _ => rfl⟩),
      (fun aF wF F => by
    have s162 : aF.tmps.getD 162 undef = (.bool (z5 && z6)) := F.done 6 162 (by kernel_rfl) rfl
    have s166 : ((z5 && z6) = true → aF.tmps.getD 166 undef = (.bool false)) ∧ ((z5 && z6) = false → aF.tmps.getD 166 undef = undef) := F.done 10 166 (by kernel_rfl) rfl
    rcases bools (z5 && z6) with hE | hE
    · replace s166 := s166.1 hE
      exact step_val (by simp [Region.wanted]) (by first | (go_simp; done) | (go_simp; simp_all; done) | (simp_all; done)) rfl
    · exact step_val (by simp [Region.wanted]) (by first | (go_simp; done) | (go_simp; simp_all; done) | (simp_all; done)) rfl),
      trivial⟩) ?_
  intro u w1 k1 hu
  have e156 : u 0 = .int .i64 o5.k := hu 0 (by decide)
  have e157 : u 1 = (.bool z5) := hu 1 (by decide)
  have e158 : u 2 = (.bool z5) := hu 2 (by decide)
  have p159 := hu 3 (by decide)
  have p160 := hu 4 (by decide)
  have e161 : u 5 = (.bool (z5 && z6)) := hu 5 (by decide)
  have e162 : u 6 = (.bool (z5 && z6)) := hu 6 (by decide)
  have p163 := hu 7 (by decide)
  have p164 := hu 8 (by decide)
  have p165 := hu 9 (by decide)
  have p166 := hu 10 (by decide)
  have e167 : u 11 = (.bool false) := hu 11 (by decide)
  clear hu
  simp only [puts, slotOf, if_true, Act.put, List.setIfInBounds_toArray, List.set_cons_zero, List.set_cons_succ, List.getElem?_toArray, List.getElem?_cons_zero, List.getElem?_cons_succ, Option.bind_some, e156, e157, e158, e161, e162, e167]
  clear e156 e157 e158 e161 e162 e167
  generalize u 3 = v159 at *
  try simp only [VL, List.getD_cons_zero, List.getD_cons_succ] at p159
  generalize u 4 = v160 at *
  try simp only [VL, List.getD_cons_zero, List.getD_cons_succ] at p160
  generalize u 7 = v163 at *
  try simp only [VL, List.getD_cons_zero, List.getD_cons_succ] at p163
  generalize u 8 = v164 at *
  try simp only [VL, List.getD_cons_zero, List.getD_cons_succ] at p164
  generalize u 9 = v165 at *
  try simp only [VL, List.getD_cons_zero, List.getD_cons_succ] at p165
  generalize u 10 = v166 at *
  try simp only [VL, List.getD_cons_zero, List.getD_cons_succ] at p166
  clear p159 p160 p163 p164 p165 p166
  replace K := Lib.hid (K.out.trans k1)
  replace HA := Lib.hid (HA.out.kept k1)
  replace HB := Lib.hid (HB.out.kept k1)
  replace HX := Lib.hid (HX.out.kept k1)
  replace HY := Lib.hid (HY.out.kept k1)
  replace HS := Lib.hid (HS.out.kept k1)
  replace HU := Lib.hid (HU.out.kept k1)
  replace ZX := Lib.hid (And.intro (ZX.out.1.kept k1) (ZX.out.2.kept k1))
  replace ZY := Lib.hid (And.intro (ZY.out.1.kept k1) (ZY.out.2.kept k1))
  clear k1 ZE ZI Q5 Q6 CW5 C5 C6
  go_upto_region 21 with fail
  obtain ⟨-, c0, c1, c2, c3, c4, c5⟩ := HA.out.facts
  go_wp2_with fail
  refine (C7.out _ K.out).mono ?_
  rintro e w1 ⟨q, u, rfl, hd⟩
  obtain ⟨PG, pG, qG, RG, rG, sG, rfl, z1, z2⟩ := ivR_split hd
  simp only []
  have hx := HS.out.kept q
  obtain ⟨-, x0, x1, x2, x3, x4, x5⟩ := hx.facts
  obtain ⟨f0, f1, f2, f3, f4, f5⟩ := hx.free
  go_upto_region 22 with fail
  change Code.wp _ _ _ _ (ivW w1 bS _ _ _ _ _ _)
  have UP : Hid (∀ (b' : Nat) (x y z x' y' z' : Value), BlkI w1 b' x y z x' y' z' → b' ≠ bS → BlkI (ivW w1 bS (.bool o7.v.lo.neg) (.slice PG pG qG) (.int .i64 o7.v.lo.e) (.bool o7.v.hi.neg) (.slice RG rG sG) (.int .i64 o7.v.hi.e)) b' x y z x' y' z') := fun _ _ _ _ _ _ _ h hne => blkI_ivW h hne _ _ _ _ _ _
  have UD : Hid (∀ (v : Value) (r : Raw), DyR w1 v r → DyR (ivW w1 bS (.bool o7.v.lo.neg) (.slice PG pG qG) (.int .i64 o7.v.lo.e) (.bool o7.v.hi.neg) (.slice RG rG sG) (.int .i64 o7.v.hi.e)) v r) := fun _ _ h => h.ivW hx _ _ _ _ _ _
  have HX' := Lib.hid (hx.laid (.bool o7.v.lo.neg) (.slice PG pG qG) (.int .i64 o7.v.lo.e) (.bool o7.v.hi.neg) (.slice RG rG sG) (.int .i64 o7.v.hi.e))
  replace K := Lib.hid (ivW_kept (x := .bool o7.v.lo.neg) (y := .slice PG pG qG) (z := .int .i64 o7.v.lo.e) (x' := .bool o7.v.hi.neg) (y' := .slice RG rG sG) (z' := .int .i64 o7.v.hi.e) (K.out.trans q) (show w.heap.size ≤ bS by omega))
  replace HA := Lib.hid (UP.out _ _ _ _ _ _ _ (HA.out.kept q) (by omega)); replace HX := Lib.hid (UP.out _ _ _ _ _ _ _ (HX.out.kept q) (by omega)); replace HU := Lib.hid (UP.out _ _ _ _ _ _ _ (HU.out.kept q) (by omega)); replace ZX := Lib.hid (And.intro (UD.out _ _ (ZX.out.1.kept q)) (UD.out _ _ (ZX.out.2.kept q)))
  replace HS := Lib.hid (HX'.out)
  have ZG := Lib.hid (And.intro (UD.out _ _ z1) (UD.out _ _ z2))
  clear UP UD HX' hx x0 x1 x2 x3 x4 x5 f0 f1 f2 f3 f4 f5 q hd z1 z2 c0 c1 c2 c3 c4 c5
  generalize ivW w1 bS (.bool o7.v.lo.neg) (.slice PG pG qG) (.int .i64 o7.v.lo.e) (.bool o7.v.hi.neg) (.slice RG rG sG) (.int .i64 o7.v.hi.e) = V at *
  obtain ⟨-, c0, c1, c2, c3, c4, c5⟩ := HX.out.facts
  go_wp2_with fail
  refine (C8.out _ _ K.out ⟨_, _, _, _, _, _, rfl, ZX.out.1, ZX.out.2⟩).mono ?_
  rintro e w1 ⟨q, u, rfl, hd⟩
  obtain ⟨PJ, pJ, qJ, RJ, rJ, sJ, rfl, z1, z2⟩ := ivR_split hd
  simp only []
  have hx := HU.out.kept q
  obtain ⟨-, x0, x1, x2, x3, x4, x5⟩ := hx.facts
  obtain ⟨f0, f1, f2, f3, f4, f5⟩ := hx.free
  go_upto_region 23 with fail
  change Code.wp _ _ _ _ (ivW w1 bU _ _ _ _ _ _)
  have UP : Hid (∀ (b' : Nat) (x y z x' y' z' : Value), BlkI w1 b' x y z x' y' z' → b' ≠ bU → BlkI (ivW w1 bU (.bool o8.v.lo.neg) (.slice PJ pJ qJ) (.int .i64 o8.v.lo.e) (.bool o8.v.hi.neg) (.slice RJ rJ sJ) (.int .i64 o8.v.hi.e)) b' x y z x' y' z') := fun _ _ _ _ _ _ _ h hne => blkI_ivW h hne _ _ _ _ _ _
  have UD : Hid (∀ (v : Value) (r : Raw), DyR w1 v r → DyR (ivW w1 bU (.bool o8.v.lo.neg) (.slice PJ pJ qJ) (.int .i64 o8.v.lo.e) (.bool o8.v.hi.neg) (.slice RJ rJ sJ) (.int .i64 o8.v.hi.e)) v r) := fun _ _ h => h.ivW hx _ _ _ _ _ _
  have HX' := Lib.hid (hx.laid (.bool o8.v.lo.neg) (.slice PJ pJ qJ) (.int .i64 o8.v.lo.e) (.bool o8.v.hi.neg) (.slice RJ rJ sJ) (.int .i64 o8.v.hi.e))
  replace K := Lib.hid (ivW_kept (x := .bool o8.v.lo.neg) (y := .slice PJ pJ qJ) (z := .int .i64 o8.v.lo.e) (x' := .bool o8.v.hi.neg) (y' := .slice RJ rJ sJ) (z' := .int .i64 o8.v.hi.e) (K.out.trans q) (show w.heap.size ≤ bU by omega))
  replace HS := Lib.hid (UP.out _ _ _ _ _ _ _ (HS.out.kept q) (by omega)); replace ZX := Lib.hid (And.intro (UD.out _ _ (ZX.out.1.kept q)) (UD.out _ _ (ZX.out.2.kept q))); replace ZG := Lib.hid (And.intro (UD.out _ _ (ZG.out.1.kept q)) (UD.out _ _ (ZG.out.2.kept q)))
  replace HU := Lib.hid (HX'.out)
  have ZJ := Lib.hid (And.intro (UD.out _ _ z1) (UD.out _ _ z2))
  clear UP UD HX' hx x0 x1 x2 x3 x4 x5 f0 f1 f2 f3 f4 f5 q hd z1 z2 c0 c1 c2 c3 c4 c5
  generalize ivW w1 bU (.bool o8.v.lo.neg) (.slice PJ pJ qJ) (.int .i64 o8.v.lo.e) (.bool o8.v.hi.neg) (.slice RJ rJ sJ) (.int .i64 o8.v.hi.e) = V at *
  refine region_seq (m := 15) (V := VL [
      (fun v _ => v = (.bool true)),
      (fun v _ => v = (.bool true)),
      (fun v _ => v = .int .i64 o7.k),
      (fun v _ => v = (.bool (!z7))),
      (fun v _ => v = (.bool (!z7))),
      (fun v wv => (z7 = true → (fun v _ => v = .int .i64 o8.k) v wv) ∧ (z7 = false → v = undef)),
      (fun v wv => (z7 = true → (fun v _ => v = (.bool (!z8))) v wv) ∧ (z7 = false → v = undef)),
      (fun v _ => v = (.bool (!(z7 && z8)))),
      (fun v _ => v = (.bool (!(z7 && z8)))),
      (fun v wv => ((z7 && z8) = true → (fun v _ => v = (.agg #[.bool o7.v.lo.neg, .slice PG pG qG, .int .i64 o7.v.lo.e, .bool o7.v.hi.neg, .slice RG rG sG, .int .i64 o7.v.hi.e])) v wv) ∧ ((z7 && z8) = false → v = undef)),
      (fun v wv => ((z7 && z8) = true → (fun v _ => v = (.agg #[.bool o8.v.lo.neg, .slice PJ pJ qJ, .int .i64 o8.v.lo.e, .bool o8.v.hi.neg, .slice RJ rJ sJ, .int .i64 o8.v.hi.e])) v wv) ∧ ((z7 && z8) = false → v = undef)),
      (fun v wv => ((z7 && z8) = true → (fun v _ => v = (.bool true)) v wv) ∧ ((z7 && z8) = false → v = undef)),
      (fun v _ => v = (.bool true)),
      (fun v _ => v = (.bool true)),
      (fun v _ => v = (.bool true))])
    rfl (by kernel_rfl) (by kernel_rfl) (by kernel_rfl) (mono_of _ ⟨mono_eq _, mono_eq _, mono_eq _, mono_eq _, mono_eq _, fun v w w' k h => ⟨fun hC => (fun v w w' k h => by first | exact h | exact h.kept k | exact ⟨h.1, h.2.kept k⟩) v w w' k (h.1 hC), h.2⟩, fun v w w' k h => ⟨fun hC => (fun v w w' k h => by first | exact h | exact h.kept k | exact ⟨h.1, h.2.kept k⟩) v w w' k (h.1 hC), h.2⟩, mono_eq _, mono_eq _, fun v w w' k h => ⟨fun hC => (fun v w w' k h => by first | exact h | exact h.kept k | exact ⟨h.1, h.2.kept k⟩) v w w' k (h.1 hC), h.2⟩, fun v w w' k h => ⟨fun hC => (fun v w w' k h => by first | exact h | exact h.kept k | exact ⟨h.1, h.2.kept k⟩) v w w' k (h.1 hC), h.2⟩, fun v w w' k h => ⟨fun hC => (fun v w w' k h => by first | exact h | exact h.kept k | exact ⟨h.1, h.2.kept k⟩) v w w' k (h.1 hC), h.2⟩, mono_eq _, mono_eq _, mono_eq _, trivial⟩) (steps_of ⟨
      (fun aF wF F => by
    exact step_good (by simp [Region.wanted]) (by go_simp) (told_c (T.out.kept (K.out.trans F.kept))) (fun _ _ h => RetK.good h) (fun _ _ h => h)),
      (fun aF wF F => by
    have s180 : aF.tmps.getD 180 undef = (.bool true) := F.done 0 180 (by kernel_rfl) rfl
    exact step_val (by simp [Region.wanted]) (by go_simp) rfl),
      (fun aF wF F => by
    have s16 : aF.tmps.getD 16 undef = .int .i64 o7.k := F.old 16 (by kernel_rfl)
    have sg : aF.tmps.getD 181 undef = (.bool true) := F.done 1 181 (by kernel_rfl) rfl
    exact step_val ((wanted_guard rfl rfl sg).trans rfl) (by go_simp) rfl),
      (fun aF wF F => by
    have s182 : aF.tmps.getD 182 undef = .int .i64 o7.k := F.done 2 182 (by kernel_rfl) rfl
    have sg : aF.tmps.getD 181 undef = (.bool true) := F.done 1 181 (by kernel_rfl) rfl
    exact step_val ((wanted_guard rfl rfl sg).trans rfl) (by (go_simp; first | exact congrArg _ Q7.out | (have hq := Q7.out; grind))) rfl),
      (fun aF wF F => by
    have s183 : aF.tmps.getD 183 undef = (.bool (!z7)) := F.done 3 183 (by kernel_rfl) rfl
    have sg : aF.tmps.getD 181 undef = (.bool true) := F.done 1 181 (by kernel_rfl) rfl
    exact step_val ((wanted_guard rfl rfl sg).trans rfl) (by go_simp) rfl),
      (fun aF wF F => by
    have sg : aF.tmps.getD 184 undef = (.bool (!z7)) := F.done 4 184 (by kernel_rfl) rfl
    have s18 : aF.tmps.getD 18 undef = .int .i64 o8.k := F.old 18 (by kernel_rfl)
    rcases bools z7 with hC | hC
    · refine step_imp (V1 := fun _ => (fun v _ => v = .int .i64 o8.k)) ?_ (fun _ _ h => ⟨fun _ => h, fun hN => absurd (hC.symm.trans hN) (by decide)⟩)
      exact step_val ((wanted_guard rfl rfl sg).trans (by first | rfl | simp [hC])) (by go_simp) rfl
    · exact step_out ((wanted_guard rfl rfl sg).trans (by first | rfl | simp [hC])) ⟨fun h => absurd (hC.symm.trans h) (by decide), fun _ => rfl⟩),
      (fun aF wF F => by
    have sg : aF.tmps.getD 184 undef = (.bool (!z7)) := F.done 4 184 (by kernel_rfl) rfl
    have s185 : (z7 = true → aF.tmps.getD 185 undef = .int .i64 o8.k) ∧ (z7 = false → aF.tmps.getD 185 undef = undef) := F.done 5 185 (by kernel_rfl) rfl
    rcases bools z7 with hC | hC
    · refine step_imp (V1 := fun _ => (fun v _ => v = (.bool (!z8)))) ?_ (fun _ _ h => ⟨fun _ => h, fun hN => absurd (hC.symm.trans hN) (by decide)⟩)
      replace s185 := s185.1 hC
      exact step_val ((wanted_guard rfl rfl sg).trans (by first | rfl | simp [hC])) (by (go_simp; first | exact congrArg _ Q8.out | (have hq := Q8.out; grind))) rfl
    · exact step_out ((wanted_guard rfl rfl sg).trans (by first | rfl | simp [hC])) ⟨fun h => absurd (hC.symm.trans h) (by decide), fun _ => rfl⟩),
      (fun aF wF F => by
    have sg : aF.tmps.getD 181 undef = (.bool true) := F.done 1 181 (by kernel_rfl) rfl
    have s184 : aF.tmps.getD 184 undef = (.bool (!z7)) := F.done 4 184 (by kernel_rfl) rfl
    have s186 : (z7 = true → aF.tmps.getD 186 undef = (.bool (!z8))) ∧ (z7 = false → aF.tmps.getD 186 undef = undef) := F.done 6 186 (by kernel_rfl) rfl
    rcases bools z7 with hE | hE
    · replace s186 := s186.1 hE
      exact step_val ((wanted_guard rfl rfl sg).trans (by first | rfl | simp [hC])) (by first | (go_simp; done) | (go_simp; simp_all; done) | (simp_all; done)) rfl
    · exact step_val ((wanted_guard rfl rfl sg).trans (by first | rfl | simp [hC])) (by first | (go_simp; done) | (go_simp; simp_all; done) | (simp_all; done)) rfl),
      (fun aF wF F => by
    have s187 : aF.tmps.getD 187 undef = (.bool (!(z7 && z8))) := F.done 7 187 (by kernel_rfl) rfl
    have sg : aF.tmps.getD 181 undef = (.bool true) := F.done 1 181 (by kernel_rfl) rfl
    exact step_val ((wanted_guard rfl rfl sg).trans rfl) (by go_simp) rfl),
      (fun aF wF F => by
    have sg : aF.tmps.getD 188 undef = (.bool (!(z7 && z8))) := F.done 8 188 (by kernel_rfl) rfl
    have s19 : aF.tmps.getD 19 undef = (.pointer (some ⟨bS, 0, none⟩)) := F.old 19 (by kernel_rfl)
    have c0 := cell_at HS.out F.kept 0 _ rfl
    have c1 := cell_at HS.out F.kept 1 _ rfl
    have c2 := cell_at HS.out F.kept 2 _ rfl
    have c3 := cell_at HS.out F.kept 3 _ rfl
    have c4 := cell_at HS.out F.kept 4 _ rfl
    have c5 := cell_at HS.out F.kept 5 _ rfl
    rcases bools (z7 && z8) with hC | hC
    · refine step_imp (V1 := fun _ => (fun v _ => v = (.agg #[.bool o7.v.lo.neg, .slice PG pG qG, .int .i64 o7.v.lo.e, .bool o7.v.hi.neg, .slice RG rG sG, .int .i64 o7.v.hi.e]))) ?_ (fun _ _ h => ⟨fun _ => h, fun hN => absurd (hC.symm.trans hN) (by decide)⟩)
      exact step_val ((wanted_guard rfl rfl sg).trans (by first | rfl | simp [hC])) (by go_simp) rfl
    · exact step_out ((wanted_guard rfl rfl sg).trans (by first | rfl | simp [hC])) ⟨fun h => absurd (hC.symm.trans h) (by decide), fun _ => rfl⟩),
      (fun aF wF F => by
    have sg : aF.tmps.getD 188 undef = (.bool (!(z7 && z8))) := F.done 8 188 (by kernel_rfl) rfl
    have s20 : aF.tmps.getD 20 undef = (.pointer (some ⟨bU, 0, none⟩)) := F.old 20 (by kernel_rfl)
    have c0 := cell_at HU.out F.kept 0 _ rfl
    have c1 := cell_at HU.out F.kept 1 _ rfl
    have c2 := cell_at HU.out F.kept 2 _ rfl
    have c3 := cell_at HU.out F.kept 3 _ rfl
    have c4 := cell_at HU.out F.kept 4 _ rfl
    have c5 := cell_at HU.out F.kept 5 _ rfl
    rcases bools (z7 && z8) with hC | hC
    · refine step_imp (V1 := fun _ => (fun v _ => v = (.agg #[.bool o8.v.lo.neg, .slice PJ pJ qJ, .int .i64 o8.v.lo.e, .bool o8.v.hi.neg, .slice RJ rJ sJ, .int .i64 o8.v.hi.e]))) ?_ (fun _ _ h => ⟨fun _ => h, fun hN => absurd (hC.symm.trans hN) (by decide)⟩)
      exact step_val ((wanted_guard rfl rfl sg).trans (by first | rfl | simp [hC])) (by go_simp) rfl
    · exact step_out ((wanted_guard rfl rfl sg).trans (by first | rfl | simp [hC])) ⟨fun h => absurd (hC.symm.trans h) (by decide), fun _ => rfl⟩),
      (fun aF wF F => by
    have sg : aF.tmps.getD 188 undef = (.bool (!(z7 && z8))) := F.done 8 188 (by kernel_rfl) rfl
    have s189 : ((z7 && z8) = true → aF.tmps.getD 189 undef = (.agg #[.bool o7.v.lo.neg, .slice PG pG qG, .int .i64 o7.v.lo.e, .bool o7.v.hi.neg, .slice RG rG sG, .int .i64 o7.v.hi.e])) ∧ ((z7 && z8) = false → aF.tmps.getD 189 undef = undef) := F.done 9 189 (by kernel_rfl) rfl
    have s190 : ((z7 && z8) = true → aF.tmps.getD 190 undef = (.agg #[.bool o8.v.lo.neg, .slice PJ pJ qJ, .int .i64 o8.v.lo.e, .bool o8.v.hi.neg, .slice RJ rJ sJ, .int .i64 o8.v.hi.e])) ∧ ((z7 && z8) = false → aF.tmps.getD 190 undef = undef) := F.done 10 190 (by kernel_rfl) rfl
    rcases bools (z7 && z8) with hC | hC
    · refine step_imp (V1 := fun _ => (fun v _ => v = (.bool true))) ?_ (fun _ _ h => ⟨fun _ => h, fun hN => absurd (hC.symm.trans hN) (by decide)⟩)
      replace s189 := s189.1 hC
      replace s190 := s190.1 hC
      exact step_good ((wanted_guard rfl rfl sg).trans (by first | rfl | simp [hC])) (by go_simp) (CW7.out hC _ _ _ ⟨_, _, _, _, _, _, rfl, ZG.out.1.kept F.kept, ZG.out.2.kept F.kept⟩ ⟨_, _, _, _, _, _, rfl, ZJ.out.1.kept F.kept, ZJ.out.2.kept F.kept⟩) (fun _ _ h => RetK.good h) (fun _ _ h => h)
    · exact step_out ((wanted_guard rfl rfl sg).trans (by first | rfl | simp [hC])) ⟨fun h => absurd (hC.symm.trans h) (by decide), fun _ => rfl⟩),
      (fun aF wF F => by
    have sg : aF.tmps.getD 181 undef = (.bool true) := F.done 1 181 (by kernel_rfl) rfl
    have s188 : aF.tmps.getD 188 undef = (.bool (!(z7 && z8))) := F.done 8 188 (by kernel_rfl) rfl
    have s191 : ((z7 && z8) = true → aF.tmps.getD 191 undef = (.bool true)) ∧ ((z7 && z8) = false → aF.tmps.getD 191 undef = undef) := F.done 11 191 (by kernel_rfl) rfl
    rcases bools (z7 && z8) with hE | hE
    · replace s191 := s191.1 hE
      exact step_val ((wanted_guard rfl rfl sg).trans (by first | rfl | simp [hC])) (by first | (go_simp; done) | (go_simp; simp_all; done) | (simp_all; done)) rfl
    · exact step_val ((wanted_guard rfl rfl sg).trans (by first | rfl | simp [hC])) (by first | (go_simp; done) | (go_simp; simp_all; done) | (simp_all; done)) rfl),
      (fun aF wF F => by
    have s181 : aF.tmps.getD 181 undef = (.bool true) := F.done 1 181 (by kernel_rfl) rfl
    have s192 : aF.tmps.getD 192 undef = (.bool true) := F.done 12 192 (by kernel_rfl) rfl
    exact step_val (by simp [Region.wanted]) (by go_simp) rfl),
      (fun aF wF F => by
    have s193 : aF.tmps.getD 193 undef = (.bool true) := F.done 13 193 (by kernel_rfl) rfl
    exact step_val (by simp [Region.wanted]) (by go_simp) rfl),
      trivial⟩) ?_
  intro u w1 k1 hu
  have e180 : u 0 = (.bool true) := hu 0 (by decide)
  have e181 : u 1 = (.bool true) := hu 1 (by decide)
  have e182 : u 2 = .int .i64 o7.k := hu 2 (by decide)
  have e183 : u 3 = (.bool (!z7)) := hu 3 (by decide)
  have e184 : u 4 = (.bool (!z7)) := hu 4 (by decide)
  have p185 := hu 5 (by decide)
  have p186 := hu 6 (by decide)
  have e187 : u 7 = (.bool (!(z7 && z8))) := hu 7 (by decide)
  have e188 : u 8 = (.bool (!(z7 && z8))) := hu 8 (by decide)
  have p189 := hu 9 (by decide)
  have p190 := hu 10 (by decide)
  have p191 := hu 11 (by decide)
  have e192 : u 12 = (.bool true) := hu 12 (by decide)
  have e193 : u 13 = (.bool true) := hu 13 (by decide)
  have e12 : u 14 = (.bool true) := hu 14 (by decide)
  clear hu
  simp only [puts, slotOf, if_true, Act.put, List.setIfInBounds_toArray, List.set_cons_zero, List.set_cons_succ, List.getElem?_toArray, List.getElem?_cons_zero, List.getElem?_cons_succ, Option.bind_some, e180, e181, e182, e183, e184, e187, e188, e192, e193, e12]
  clear e180 e181 e182 e183 e184 e187 e188 e192 e193 e12
  generalize u 5 = v185 at *
  try simp only [VL, List.getD_cons_zero, List.getD_cons_succ] at p185
  generalize u 6 = v186 at *
  try simp only [VL, List.getD_cons_zero, List.getD_cons_succ] at p186
  generalize u 9 = v189 at *
  try simp only [VL, List.getD_cons_zero, List.getD_cons_succ] at p189
  generalize u 10 = v190 at *
  try simp only [VL, List.getD_cons_zero, List.getD_cons_succ] at p190
  generalize u 11 = v191 at *
  try simp only [VL, List.getD_cons_zero, List.getD_cons_succ] at p191
  go_wp2_with fail
  go_ret
  exact ⟨rfl, K.out.trans k1⟩





end Go.Proofs.YtjdplcenniogdaaDoor
