/- Contracts of package round, sixth part: Root. -/
import Derived.Test.YtjdplcenniogdaaDoorClaimTurnsp26
namespace Go.Proofs.YtjdplcenniogdaaDoor
open Go.RowKit

/-- round.Root, with numbers below nought. -/
def rootZ (d : Dy) (p : Nat) (up : Bool) : Outc Dy := if d.neg then bad 4 else rootD d p up
theorem rootZ_ok (d : Dy) (p : Nat) (up : Bool) : (rootZ d p up).Ok := by
  unfold rootZ
  split
  · exact bad_ok _
  · exact rootD_ok _ _ _
theorem rootZ_bad (d : Dy) (p : Nat) (up : Bool) : (rootZ d p up).raw.k ≠ 0 → (rootZ d p up).raw.v = rz := by
  intro h
  show ((rootZ d p up).v).raw = rz
  rw [(rootZ_ok d p up).2 h, dz_raw]

theorem bl_isq (n : Nat) : bl (isq n) ≤ bl n := by
  refine bl_mono ?_
  have h := (isq_spec n).1
  by_cases h0 : isq n = 0
  · omega
  · have := Nat.mul_le_mul_left (isq n) (Nat.pos_of_ne_zero h0)
    omega

set_option maxHeartbeats 2000000 in
set_option maxRecDepth 100000 in
theorem root1_c {w : World} {x : Dy} {p : Nat} {up : Bool} {bp bx bu : Nat} (hx : x.Ok) (hT : Tab w) (p1 : 1 ≤ p) (p2 : p ≤ 2000)
    (cp : w.cell? ⟨bp, 0, none⟩ = some (.int .i64 p)) (cx : BlkD w bx x) (cu : w.cell? ⟨bu, 0, none⟩ = some (.bool up)) :
    Calls Tryd.prog 95 #[.pointer (some ⟨bp, 0, none⟩), .pointer (some ⟨bx, 0, none⟩), .pointer (some ⟨bu, 0, none⟩)] w (Goes 104 (rootZ x p up).raw w) := by
  obtain ⟨A, l, c, hbx, hRx⟩ := cx
  obtain ⟨W, hW, kW, BR, sW⟩ := box1 w
  have hone := dyS_one' sW (hRx.kept kW)
  have hm := fun w1 (k : Kept w w1) v (hv : DyS w1 v [x]) => rmay_c hv (by intro z hz; simp at hz; subst hz; exact hx) (by simp) (by omega : (1 : Int) ≤ (p : Int)) (by omega)
  have HM := Lib.hid hm
  have HO := Lib.hid hone
  have HW := Lib.hid hW
  have HK := Lib.hid kW
  have HR := Lib.hid BR
  have HBX := Lib.hid hbx
  have CP := Lib.hid cp
  have CU := Lib.hid cu
  have lp := lt_of_cell cp
  have lu := lt_of_cell cu
  simp only at lp lu
  obtain ⟨lbx, x0, x1, x2, -⟩ := hbx.facts
  clear hm hone hW kW BR sW hbx
  cases hn : x.neg
  · have hz : rootZ x p up = rootD x p up := by unfold rootZ; rw [hn]; rfl
    rw [hz]
    rw [hn] at x0 HBX HO
    have bx1 := bl_of_len x.m 64 hx.len
    have xl := hx.lo
    have xh := hx.hi
    have limx : Lim w (.slice A l c) (limbs x.m) := by
      obtain ⟨A', l', c', he, -, hlim, -, -⟩ := hRx.shape
      injection he with he; injection he with he
      simp only [List.cons.injEq, and_true] at he
      rw [he.2.1]; exact hlim
    obtain ⟨k0, hk0⟩ : ∃ k, k = rootK0 x p := ⟨_, rfl⟩
    obtain ⟨kk, hkk⟩ : ∃ k, k = rootK x p := ⟨_, rfl⟩
    have hk0le : k0 ≤ 4002 := by rw [hk0]; unfold rootK0; omega
    have hkk' : kk = if (x.e - k0) % 2 = 0 then k0 else k0 + 1 := by rw [hkk, hk0]; rfl
    have hev : (x.e - kk) % 2 = 0 := by rw [hkk]; exact rootK_even x p
    have hkle : kk ≤ 4003 := by rw [hkk']; split <;> omega
    have hs1 := fun w1 (k : Kept w w1) => size_c (limx.kept k) (by have := hx.len; omega)
    have hle := fun w1 (k : Kept w w1) => left_c (limx.kept k) kk (by have := hx.len; omega) (by omega)
    have blX : bl (x.m * 2 ^ kk) ≤ 8100 := by
      by_cases hz : x.m = 0
      · rw [hz, Nat.zero_mul, bl_zero]; omega
      · rw [bl_mul_pow _ _ hz]; omega
    have lenX := limbs_len_bl (x.m * 2 ^ kk) 127 (by omega)
    have lenI := limbs_len_bl (isq (x.m * 2 ^ kk)) 127 (by have := bl_isq (x.m * 2 ^ kk); omega)
    have hsq := fun w1 u (hu : Lim w1 u (limbs (x.m * 2 ^ kk))) => square_c hu (by omega)
    have hti := fun w1 u (hu : Lim w1 u (limbs (isq (x.m * 2 ^ kk)))) => times_c hu hu (by omega) (by omega)
    have lenS : (limbs (isq (x.m * 2 ^ kk) * isq (x.m * 2 ^ kk))).length ≤ 127 := Nat.le_trans (limbs_length_mono (isq_spec (x.m * 2 ^ kk)).1) lenX
    have hor := fun w1 u v (hu : Lim w1 u (limbs (isq (x.m * 2 ^ kk) * isq (x.m * 2 ^ kk)))) (hv : Lim w1 v (limbs (x.m * 2 ^ kk))) => order_c hu hv (by omega) (by omega)
    obtain ⟨hh, hhh⟩ : ∃ h : Int, (x.e - kk) / 2 = h := ⟨_, rfl⟩
    obtain ⟨rb, hrb⟩ : ∃ rb, decide (¬ isq (x.m * 2 ^ kk) * isq (x.m * 2 ^ kk) = x.m * 2 ^ kk) = rb := ⟨_, rfl⟩
    have hcm : (cmpN (isq (x.m * 2 ^ kk) * isq (x.m * 2 ^ kk)) (x.m * 2 ^ kk) != 0) = rb := by
      rw [← hrb]
      unfold cmpN
      have := (isq_spec (x.m * 2 ^ kk)).1
      by_cases h1 : isq (x.m * 2 ^ kk) * isq (x.m * 2 ^ kk) < x.m * 2 ^ kk
      · rw [if_pos h1]; simp; omega
      · rw [if_neg h1, if_pos (by omega)]; simp; omega
    have hcu := fun w1 u (k : Kept w w1) (hu : Lim w1 u (limbs (isq (x.m * 2 ^ kk)))) => cut_c (v := u) (m := isq (x.m * 2 ^ kk)) (p := p) (e := hh) false rb up (w := w1)
      ⟨hu, by omega, by omega, by omega, p1, p2, hT.kept k⟩
    have hout : rootD x p up = cutD false (isq (x.m * 2 ^ kk)) hh rb p up := by unfold rootD; rw [← hkk, hhh, hrb]
    obtain ⟨o, ho⟩ : ∃ o, o = rootD x p up := ⟨_, rfl⟩
    rw [← ho]
    rw [← ho.trans hout] at hcu
    obtain ⟨s1, hs1'⟩ : ∃ s : Int, 2 * (p : Int) = s := ⟨_, rfl⟩
    obtain ⟨s2, hs2'⟩ : ∃ s : Int, s1 + 2 = s := ⟨_, rfl⟩
    obtain ⟨s3, hs3'⟩ : ∃ s : Int, s2 - (bl x.m : Int) = s := ⟨_, rfl⟩
    have hw1 : IntKind.i64.wrap (2 * (p : Int)) = s1 := by simp [IntKind.wrap_i64]; omega
    have hw2 : IntKind.i64.wrap (s1 + 2) = s2 := by simp [IntKind.wrap_i64]; omega
    have hw3 : IntKind.i64.wrap (s2 - (bl x.m : Int)) = s3 := by simp [IntKind.wrap_i64]; omega
    have hmx : max 0 s3 = (k0 : Int) := by rw [hk0]; unfold rootK0; omega
    obtain ⟨d0, hd0⟩ : ∃ d : Int, x.e - (k0 : Int) = d := ⟨_, rfl⟩
    obtain ⟨d1, hd1⟩ : ∃ d : Int, x.e - (kk : Int) = d := ⟨_, rfl⟩
    have hw4 : IntKind.i64.wrap (x.e - (k0 : Int)) = d0 := by rw [hd0]; simp [IntKind.wrap_i64]; omega
    have hw5 : IntKind.i64.wrap (x.e - (kk : Int)) = d1 := by rw [hd1]; simp [IntKind.wrap_i64]; omega
    have hw6 : IntKind.i64.wrap (d1.tdiv 2) = hh := by
      have : d1.tdiv 2 = hh := by
        rw [← hhh, hd1]
        rw [hd1] at hev
        rw [Int.tdiv_eq_ediv]
        split <;> omega
      rw [this]; simp [IntKind.wrap_i64]; omega
    have H1 := Lib.hid hs1
    have HL := Lib.hid hle
    have HSQ := Lib.hid hsq
    have HTI := Lib.hid hti
    have HOR := Lib.hid hor
    have HC := Lib.hid hcu
    have HW5 := Lib.hid hw5
    have HW6 := Lib.hid hw6
    have HCM := Lib.hid hcm
    have hq1 : IntKind.i64.wrap ((k0 : Int) + 1) = ((k0 + 1 : Nat) : Int) := by simp [IntKind.wrap_i64]; omega
    have hpar : d0.tmod 2 = 0 ↔ (x.e - k0) % 2 = 0 := by rw [hd0, ← Int.dvd_iff_tmod_eq_zero, Int.dvd_iff_emod_eq_zero]
    have HP := Lib.hid hpar
    have HKK := Lib.hid hkk'
    clear hs1 hle hsq hti hor hcu hw5 hw6 hcm hpar hkk' hRx hx hT p1 p2 hz hn bx1 xl xh limx hk0 hkk hk0le hev hkle blX lenX lenI lenS hhh hrb hout ho hs1' hs2' hs3' hd0 hd1
    generalize bl x.m = b1 at *
    by_cases hpp : d0.tmod 2 = 0
    · have hk := HKK.out
      rw [if_pos (HP.out.1 hpp)] at hk
      subst hk
      have hpb : (d0.tmod 2 != 0) = false := by simp [hpp]
      have hpc : (d0.tmod 2 == 0) = true := by simp [hpp]
      clear hpp HKK HP hq1
      generalize x.e = e1 at *
      go_enter Tryd.func95, Tryd.ntmps95
      go_wp2_with (first
        | (go_at_call 88; rw [← HW.out]; refine (HM.out _ (HK.out.trans (kept_alloc _ _)) _ HO.out).mono ?_; rintro e w1 ⟨rfl, q⟩; have K := Lib.hid (HK.out.trans ((kept_alloc _ _).trans q)); have hr := HR.out.kept ((kept_alloc _ _).trans q); have HR2 := Lib.hid hr; clear q hr x0 x1 x2 cp cu; have cp := cell_kept K.out CP.out; have cu := cell_kept K.out CU.out; obtain ⟨-, x0, x1, x2, -⟩ := (HBX.out.kept K.out).facts)
        | (go_at_call 89; refine (must_cR _ _ _).mono ?_; rintro e w3 ⟨he, rfl⟩; obtain rfl : e = .returned (.tuple #[]) := he))
      clear x0 x1 x2 cp cu
      refine region_lin (m := 9) (V := VL [
          (fun v _ => v = (.int .i64 p)),
          (fun v _ => v = (.int .i64 s1)),
          (fun v _ => v = (.int .i64 s2)),
          (fun v _ => v = (.pointer (some ⟨bx, 1, none⟩))),
          (fun v _ => v = (.slice A l c)),
          (fun v _ => v = (.int .i64 b1)),
          (fun v _ => v = (.int .i64 s3)),
          (fun v _ => v = (.int .i64 kk)),
          (fun v _ => v = (.int .i64 kk))])
        (by kernel_rfl) rfl (by kernel_rfl) (by kernel_rfl) (by kernel_rfl) (mono_of _ ⟨mono_eq _, mono_eq _, mono_eq _, mono_eq _, mono_eq _, mono_eq _, mono_eq _, mono_eq _, mono_eq _, trivial⟩) (steps_of ⟨
          (fun aF wF F => by
        have s0 : aF.tmps.getD 0 undef = (.pointer (some ⟨bp, 0, none⟩)) := F.old 0 (by kernel_rfl)
        exact step_val (by simp [Region.wanted]) (by have cq := cell_kept F.kept (cell_kept K.out CP.out); go_simp) rfl),
          (fun aF wF F => by
        have s15 : aF.tmps.getD 15 undef = (.int .i64 p) := F.done 0 15 (by kernel_rfl) rfl
        exact step_val (by simp [Region.wanted]) (by go_simp) rfl),
          (fun aF wF F => by
        have s16 : aF.tmps.getD 16 undef = (.int .i64 s1) := F.done 1 16 (by kernel_rfl) rfl
        exact step_val (by simp [Region.wanted]) (by go_simp) rfl),
          (fun aF wF F => by
        have s1 : aF.tmps.getD 1 undef = (.pointer (some ⟨bx, 0, none⟩)) := F.old 1 (by kernel_rfl)
        exact step_val (by simp [Region.wanted]) (by go_simp) rfl),
          (fun aF wF F => by
        have s18 : aF.tmps.getD 18 undef = (.pointer (some ⟨bx, 1, none⟩)) := F.done 3 18 (by kernel_rfl) rfl
        have c0 := cell_at (HBX.out.kept K.out) F.kept 1 _ rfl
        exact step_val (by simp [Region.wanted]) (by go_simp) rfl),
          (fun aF wF F => by
        have s19 : aF.tmps.getD 19 undef = (.slice A l c) := F.done 4 19 (by kernel_rfl) rfl
        exact step_good (by simp [Region.wanted]) (by go_simp) (H1.out _ (K.out.trans F.kept)) (fun _ _ h => RetQ.good h) (fun _ _ h => h)),
          (fun aF wF F => by
        have s17 : aF.tmps.getD 17 undef = (.int .i64 s2) := F.done 2 17 (by kernel_rfl) rfl
        have s20 : aF.tmps.getD 20 undef = (.int .i64 b1) := F.done 5 20 (by kernel_rfl) rfl
        exact step_val (by simp [Region.wanted]) (by go_simp) rfl),
          (fun aF wF F => by
        have s21 : aF.tmps.getD 21 undef = (.int .i64 s3) := F.done 6 21 (by kernel_rfl) rfl
        exact step_val (by simp [Region.wanted]) (by go_simp) rfl),
          (fun aF wF F => by
        have s22 : aF.tmps.getD 22 undef = (.int .i64 kk) := F.done 7 22 (by kernel_rfl) rfl
        exact step_val (by simp [Region.wanted]) (by go_simp) rfl),
          trivial⟩) ?_
      intro u w1 k1 hu
      have e15 : u 0 = (.int .i64 p) := hu 0 (by decide)
      have e16 : u 1 = (.int .i64 s1) := hu 1 (by decide)
      have e17 : u 2 = (.int .i64 s2) := hu 2 (by decide)
      have e18 : u 3 = (.pointer (some ⟨bx, 1, none⟩)) := hu 3 (by decide)
      have e19 : u 4 = (.slice A l c) := hu 4 (by decide)
      have e20 : u 5 = (.int .i64 b1) := hu 5 (by decide)
      have e21 : u 6 = (.int .i64 s3) := hu 6 (by decide)
      have e22 : u 7 = (.int .i64 kk) := hu 7 (by decide)
      have e4 : u 8 = (.int .i64 kk) := hu 8 (by decide)
      clear hu
      simp only [puts, slotOf, if_true, Act.put, List.setIfInBounds_toArray, List.set_cons_zero, List.set_cons_succ, List.getElem?_toArray, List.getElem?_cons_zero, List.getElem?_cons_succ, Option.bind_some, e15, e16, e17, e18, e19, e20, e21, e22, e4]
      clear e15 e16 e17 e18 e19 e20 e21 e22 e4
      have K1 := Lib.hid (K.out.trans k1)
      have HR3 := Lib.hid (HR2.out.kept k1)
      clear k1 u hw1 hw2 hw3 hmx
      obtain ⟨-, x0, x1, x2, -⟩ := (HBX.out.kept K1.out).facts
      go_wp2_with fail
      clear hpb hpc
      refine (HL.out _ K1.out).mono ?_
      rintro e w2 ⟨M, rfl, hM, q⟩
      have K2 := Lib.hid (K1.out.trans q)
      have HR4 := Lib.hid (HR3.out.kept q)
      have LM := Lib.hid hM
      clear hM q x0 x1 x2
      simp only []
      go_wp2_with fail
      refine (HSQ.out _ _ LM.out).mono ?_
      rintro e w3 ⟨X, rfl, hX, q⟩
      have K3 := Lib.hid (K2.out.trans q)
      have HR5 := Lib.hid (HR4.out.kept q)
      have LX := Lib.hid hX
      replace LM := Lib.hid (LM.out.kept q)
      clear hX q hw4
      have hw5 := HW5.out
      have hw6 := HW6.out
      have hcm := HCM.out
      simp only []
      go_wp2_with fail
      refine region_lin1 (m := 15) (V := VL [
          (fun v _ => v = X),
          (fun v _ => v = (.pointer (some ⟨bx, 2, none⟩))),
          (fun v _ => v = (.int .i64 e1)),
          (fun v _ => v = (.int .i64 ((kk : Nat) : Int))),
          (fun v _ => v = (.int .i64 d1)),
          (fun v _ => v = (.int .i64 hh)),
          (fun v _ => v = X),
          (fun v _ => v = X),
          (fun v wv => Lim wv v (limbs (isq (x.m * 2 ^ kk) * isq (x.m * 2 ^ kk)))),
          (fun v _ => v = M),
          (fun v _ => v = (.int .i64 (cmpN (isq (x.m * 2 ^ kk) * isq (x.m * 2 ^ kk)) (x.m * 2 ^ kk)))),
          (fun v _ => v = (.bool rb)),
          (fun v _ => v = (.int .i64 p)),
          (fun v _ => v = (.bool up)),
          (fun v wv => o.raw.k = 0 ∧ DyR wv v o.raw.v)])
        (by kernel_rfl) rfl rfl rfl (by kernel_rfl) (by kernel_rfl) (by kernel_rfl) (by kernel_rfl) (mono_of _ ⟨mono_eq _, mono_eq _, mono_eq _, mono_eq _, mono_eq _, mono_eq _, mono_eq _, mono_eq _, fun v w w' k h => by first | exact h | exact h.kept k | exact ⟨h.1, h.2.kept k⟩, mono_eq _, mono_eq _, mono_eq _, mono_eq _, mono_eq _, fun v w w' k h => by first | exact h | exact h.kept k | exact ⟨h.1, h.2.kept k⟩, trivial⟩) (steps_of ⟨
          (fun aF wF F => by
        have s6 : aF.tmps.getD 6 undef = X := F.old 6 (by kernel_rfl)
        exact step_val (by simp [Region.wanted]) (by go_simp) rfl),
          (fun aF wF F => by
        have s1 : aF.tmps.getD 1 undef = (.pointer (some ⟨bx, 0, none⟩)) := F.old 1 (by kernel_rfl)
        exact step_val (by simp [Region.wanted]) (by go_simp) rfl),
          (fun aF wF F => by
        have s38 : aF.tmps.getD 38 undef = (.pointer (some ⟨bx, 2, none⟩)) := F.done 1 38 (by kernel_rfl) rfl
        have c0 := cell_at (HBX.out.kept K3.out) F.kept 2 _ rfl
        exact step_val (by simp [Region.wanted]) (by go_simp) rfl),
          (fun aF wF F => by
        have s4 : aF.tmps.getD 4 undef = (.int .i64 ((kk : Nat) : Int)) := F.old 4 (by kernel_rfl)
        exact step_val (by simp [Region.wanted]) (by go_simp) rfl),
          (fun aF wF F => by
        have s39 : aF.tmps.getD 39 undef = (.int .i64 e1) := F.done 2 39 (by kernel_rfl) rfl
        have s40 : aF.tmps.getD 40 undef = (.int .i64 ((kk : Nat) : Int)) := F.done 3 40 (by kernel_rfl) rfl
        exact step_val (by simp [Region.wanted]) (by have hx := HW5.out; push_cast at hx; go_simp) rfl),
          (fun aF wF F => by
        have s41 : aF.tmps.getD 41 undef = (.int .i64 d1) := F.done 4 41 (by kernel_rfl) rfl
        exact step_val (by simp [Region.wanted]) (by go_simp) rfl),
          (fun aF wF F => by
        have s6 : aF.tmps.getD 6 undef = X := F.old 6 (by kernel_rfl)
        exact step_val (by simp [Region.wanted]) (by go_simp) rfl),
          (fun aF wF F => by
        have s6 : aF.tmps.getD 6 undef = X := F.old 6 (by kernel_rfl)
        exact step_val (by simp [Region.wanted]) (by go_simp) rfl),
          (fun aF wF F => by
        have s43 : aF.tmps.getD 43 undef = X := F.done 6 43 (by kernel_rfl) rfl
        have s44 : aF.tmps.getD 44 undef = X := F.done 7 44 (by kernel_rfl) rfl
        exact step_good (by simp [Region.wanted]) (by go_simp) (HTI.out _ _ (LX.out.kept F.kept)) (fun _ _ h => RetLim.good h) (fun _ _ h => h)),
          (fun aF wF F => by
        have s5 : aF.tmps.getD 5 undef = M := F.old 5 (by kernel_rfl)
        exact step_val (by simp [Region.wanted]) (by go_simp) rfl),
          (fun aF wF F => by
        have s45 : (fun v wv => Lim wv v (limbs (isq (x.m * 2 ^ kk) * isq (x.m * 2 ^ kk)))) (aF.tmps.getD 45 undef) wF := F.done 8 45 (by kernel_rfl) rfl
        have s46 : aF.tmps.getD 46 undef = M := F.done 9 46 (by kernel_rfl) rfl
        exact step_good (by simp [Region.wanted]) (by go_simp) (HOR.out _ _ _ s45 (LM.out.kept F.kept)) (fun _ _ h => RetQ.good h) (fun _ _ h => h)),
          (fun aF wF F => by
        have s47 : aF.tmps.getD 47 undef = (.int .i64 (cmpN (isq (x.m * 2 ^ kk) * isq (x.m * 2 ^ kk)) (x.m * 2 ^ kk))) := F.done 10 47 (by kernel_rfl) rfl
        exact step_val (by simp [Region.wanted]) (by go_simp) rfl),
          (fun aF wF F => by
        have s0 : aF.tmps.getD 0 undef = (.pointer (some ⟨bp, 0, none⟩)) := F.old 0 (by kernel_rfl)
        exact step_val (by simp [Region.wanted]) (by have cq := cell_kept F.kept (cell_kept K3.out CP.out); go_simp) rfl),
          (fun aF wF F => by
        have s2 : aF.tmps.getD 2 undef = (.pointer (some ⟨bu, 0, none⟩)) := F.old 2 (by kernel_rfl)
        exact step_val (by simp [Region.wanted]) (by have cq := cell_kept F.kept (cell_kept K3.out CU.out); go_simp) rfl),
          (fun aF wF F => by
        have s37 : aF.tmps.getD 37 undef = X := F.done 0 37 (by kernel_rfl) rfl
        have s42 : aF.tmps.getD 42 undef = (.int .i64 hh) := F.done 5 42 (by kernel_rfl) rfl
        have s48 : aF.tmps.getD 48 undef = (.bool rb) := F.done 11 48 (by kernel_rfl) rfl
        have s49 : aF.tmps.getD 49 undef = (.int .i64 p) := F.done 12 49 (by kernel_rfl) rfl
        have s50 : aF.tmps.getD 50 undef = (.bool up) := F.done 13 50 (by kernel_rfl) rfl
        exact step_goes (by simp [Region.wanted]) (by go_simp) (HC.out _ _ (K3.out.trans F.kept) (LX.out.kept F.kept)) (fun _ _ _ h0 h => ⟨h0, h⟩) (fun w2 k2 h0 => ⟨F.defers, ⟨K3.out.trans (F.kept.trans k2), .inr ⟨h0, rfl⟩⟩⟩)),
          trivial⟩) ?_
      intro u w1 k1 hu
      have e37 : u 0 = X := hu 0 (by decide)
      have e38 : u 1 = (.pointer (some ⟨bx, 2, none⟩)) := hu 1 (by decide)
      have e39 : u 2 = (.int .i64 e1) := hu 2 (by decide)
      have e40 : u 3 = (.int .i64 ((kk : Nat) : Int)) := hu 3 (by decide)
      have e41 : u 4 = (.int .i64 d1) := hu 4 (by decide)
      have e42 : u 5 = (.int .i64 hh) := hu 5 (by decide)
      have e43 : u 6 = X := hu 6 (by decide)
      have e44 : u 7 = X := hu 7 (by decide)
      have p45 := hu 8 (by decide)
      have e46 : u 9 = M := hu 9 (by decide)
      have e47 : u 10 = (.int .i64 (cmpN (isq (x.m * 2 ^ kk) * isq (x.m * 2 ^ kk)) (x.m * 2 ^ kk))) := hu 10 (by decide)
      have e48 : u 11 = (.bool rb) := hu 11 (by decide)
      have e49 : u 12 = (.int .i64 p) := hu 12 (by decide)
      have e50 : u 13 = (.bool up) := hu 13 (by decide)
      have p51 := hu 14 (by decide)
      clear hu
      simp only [puts, slotOf, if_true, Act.put, List.setIfInBounds_toArray, List.set_cons_zero, List.set_cons_succ, List.getElem?_toArray, List.getElem?_cons_zero, List.getElem?_cons_succ, Option.bind_some, e37, e38, e39, e40, e41, e42, e43, e44, e46, e47, e48, e49, e50]
      clear e37 e38 e39 e40 e41 e42 e43 e44 e46 e47 e48 e49 e50
      generalize u 8 = v45 at *
      try simp only [VL, List.getD_cons_zero, List.getD_cons_succ] at p45
      generalize u 14 = v51 at *
      try simp only [VL, List.getD_cons_zero, List.getD_cons_succ] at p51
      obtain ⟨h0, hd⟩ := p51
      obtain ⟨A', l', c', rfl, hd, g1, g2⟩ := dyR_parts hd
      have hb := HR5.out.kept k1
      obtain ⟨_, c0, c1, c2, f0, f1, f2⟩ := hb.facts
      have HD := Lib.hid hd
      have H0 := Lib.hid h0
      have HB := Lib.hid hb
      have K4 := Lib.hid (K3.out.trans k1)
      clear hd h0 hb k1 p45
      go_simp
      go_wp2_with fail
      exact ret_dy (HB.out.laid _ _ _) rfl rfl rfl ⟨dyW_kept K4.out (Nat.le_refl _), .inl ⟨H0.out, _, rfl, (HD.out.dyW HB.out (noLimb_bool _) (noLimb_slice _ _ _) (noLimb_i64 _)).dyR g1 g2⟩⟩
    · have hk := HKK.out
      rw [if_neg (fun h => hpp (HP.out.2 h))] at hk
      subst hk
      have hpb : (d0.tmod 2 != 0) = true := by simp [hpp]
      have hpc : (d0.tmod 2 == 0) = false := by simp [hpp]
      clear hpp HKK HP
      generalize x.e = e1 at *
      go_enter Tryd.func95, Tryd.ntmps95
      go_wp2_with (first
        | (go_at_call 88; rw [← HW.out]; refine (HM.out _ (HK.out.trans (kept_alloc _ _)) _ HO.out).mono ?_; rintro e w1 ⟨rfl, q⟩; have K := Lib.hid (HK.out.trans ((kept_alloc _ _).trans q)); have hr := HR.out.kept ((kept_alloc _ _).trans q); have HR2 := Lib.hid hr; clear q hr x0 x1 x2 cp cu; have cp := cell_kept K.out CP.out; have cu := cell_kept K.out CU.out; obtain ⟨-, x0, x1, x2, -⟩ := (HBX.out.kept K.out).facts)
        | (go_at_call 89; refine (must_cR _ _ _).mono ?_; rintro e w3 ⟨he, rfl⟩; obtain rfl : e = .returned (.tuple #[]) := he))
      clear x0 x1 x2 cp cu
      refine region_lin (m := 9) (V := VL [
          (fun v _ => v = (.int .i64 p)),
          (fun v _ => v = (.int .i64 s1)),
          (fun v _ => v = (.int .i64 s2)),
          (fun v _ => v = (.pointer (some ⟨bx, 1, none⟩))),
          (fun v _ => v = (.slice A l c)),
          (fun v _ => v = (.int .i64 b1)),
          (fun v _ => v = (.int .i64 s3)),
          (fun v _ => v = (.int .i64 k0)),
          (fun v _ => v = (.int .i64 k0))])
        (by kernel_rfl) rfl (by kernel_rfl) (by kernel_rfl) (by kernel_rfl) (mono_of _ ⟨mono_eq _, mono_eq _, mono_eq _, mono_eq _, mono_eq _, mono_eq _, mono_eq _, mono_eq _, mono_eq _, trivial⟩) (steps_of ⟨
          (fun aF wF F => by
        have s0 : aF.tmps.getD 0 undef = (.pointer (some ⟨bp, 0, none⟩)) := F.old 0 (by kernel_rfl)
        exact step_val (by simp [Region.wanted]) (by have cq := cell_kept F.kept (cell_kept K.out CP.out); go_simp) rfl),
          (fun aF wF F => by
        have s15 : aF.tmps.getD 15 undef = (.int .i64 p) := F.done 0 15 (by kernel_rfl) rfl
        exact step_val (by simp [Region.wanted]) (by go_simp) rfl),
          (fun aF wF F => by
        have s16 : aF.tmps.getD 16 undef = (.int .i64 s1) := F.done 1 16 (by kernel_rfl) rfl
        exact step_val (by simp [Region.wanted]) (by go_simp) rfl),
          (fun aF wF F => by
        have s1 : aF.tmps.getD 1 undef = (.pointer (some ⟨bx, 0, none⟩)) := F.old 1 (by kernel_rfl)
        exact step_val (by simp [Region.wanted]) (by go_simp) rfl),
          (fun aF wF F => by
        have s18 : aF.tmps.getD 18 undef = (.pointer (some ⟨bx, 1, none⟩)) := F.done 3 18 (by kernel_rfl) rfl
        have c0 := cell_at (HBX.out.kept K.out) F.kept 1 _ rfl
        exact step_val (by simp [Region.wanted]) (by go_simp) rfl),
          (fun aF wF F => by
        have s19 : aF.tmps.getD 19 undef = (.slice A l c) := F.done 4 19 (by kernel_rfl) rfl
        exact step_good (by simp [Region.wanted]) (by go_simp) (H1.out _ (K.out.trans F.kept)) (fun _ _ h => RetQ.good h) (fun _ _ h => h)),
          (fun aF wF F => by
        have s17 : aF.tmps.getD 17 undef = (.int .i64 s2) := F.done 2 17 (by kernel_rfl) rfl
        have s20 : aF.tmps.getD 20 undef = (.int .i64 b1) := F.done 5 20 (by kernel_rfl) rfl
        exact step_val (by simp [Region.wanted]) (by go_simp) rfl),
          (fun aF wF F => by
        have s21 : aF.tmps.getD 21 undef = (.int .i64 s3) := F.done 6 21 (by kernel_rfl) rfl
        exact step_val (by simp [Region.wanted]) (by go_simp) rfl),
          (fun aF wF F => by
        have s22 : aF.tmps.getD 22 undef = (.int .i64 k0) := F.done 7 22 (by kernel_rfl) rfl
        exact step_val (by simp [Region.wanted]) (by go_simp) rfl),
          trivial⟩) ?_
      intro u w1 k1 hu
      have e15 : u 0 = (.int .i64 p) := hu 0 (by decide)
      have e16 : u 1 = (.int .i64 s1) := hu 1 (by decide)
      have e17 : u 2 = (.int .i64 s2) := hu 2 (by decide)
      have e18 : u 3 = (.pointer (some ⟨bx, 1, none⟩)) := hu 3 (by decide)
      have e19 : u 4 = (.slice A l c) := hu 4 (by decide)
      have e20 : u 5 = (.int .i64 b1) := hu 5 (by decide)
      have e21 : u 6 = (.int .i64 s3) := hu 6 (by decide)
      have e22 : u 7 = (.int .i64 k0) := hu 7 (by decide)
      have e4 : u 8 = (.int .i64 k0) := hu 8 (by decide)
      clear hu
      simp only [puts, slotOf, if_true, Act.put, List.setIfInBounds_toArray, List.set_cons_zero, List.set_cons_succ, List.getElem?_toArray, List.getElem?_cons_zero, List.getElem?_cons_succ, Option.bind_some, e15, e16, e17, e18, e19, e20, e21, e22, e4]
      clear e15 e16 e17 e18 e19 e20 e21 e22 e4
      have K1 := Lib.hid (K.out.trans k1)
      have HR3 := Lib.hid (HR2.out.kept k1)
      clear k1 u hw1 hw2 hw3 hmx
      obtain ⟨-, x0, x1, x2, -⟩ := (HBX.out.kept K1.out).facts
      go_wp2_with fail
      clear hpb hpc hq1
      refine (HL.out _ K1.out).mono ?_
      rintro e w2 ⟨M, rfl, hM, q⟩
      have K2 := Lib.hid (K1.out.trans q)
      have HR4 := Lib.hid (HR3.out.kept q)
      have LM := Lib.hid hM
      clear hM q x0 x1 x2
      simp only []
      go_wp2_with fail
      refine (HSQ.out _ _ LM.out).mono ?_
      rintro e w3 ⟨X, rfl, hX, q⟩
      have K3 := Lib.hid (K2.out.trans q)
      have HR5 := Lib.hid (HR4.out.kept q)
      have LX := Lib.hid hX
      replace LM := Lib.hid (LM.out.kept q)
      clear hX q hw4
      have hw5 := HW5.out
      have hw6 := HW6.out
      have hcm := HCM.out
      simp only []
      go_wp2_with fail
      refine region_lin1 (m := 15) (V := VL [
          (fun v _ => v = X),
          (fun v _ => v = (.pointer (some ⟨bx, 2, none⟩))),
          (fun v _ => v = (.int .i64 e1)),
          (fun v _ => v = (.int .i64 (((k0 + 1) : Nat) : Int))),
          (fun v _ => v = (.int .i64 d1)),
          (fun v _ => v = (.int .i64 hh)),
          (fun v _ => v = X),
          (fun v _ => v = X),
          (fun v wv => Lim wv v (limbs (isq (x.m * 2 ^ (k0 + 1)) * isq (x.m * 2 ^ (k0 + 1))))),
          (fun v _ => v = M),
          (fun v _ => v = (.int .i64 (cmpN (isq (x.m * 2 ^ (k0 + 1)) * isq (x.m * 2 ^ (k0 + 1))) (x.m * 2 ^ (k0 + 1))))),
          (fun v _ => v = (.bool rb)),
          (fun v _ => v = (.int .i64 p)),
          (fun v _ => v = (.bool up)),
          (fun v wv => o.raw.k = 0 ∧ DyR wv v o.raw.v)])
        (by kernel_rfl) rfl rfl rfl (by kernel_rfl) (by kernel_rfl) (by kernel_rfl) (by kernel_rfl) (mono_of _ ⟨mono_eq _, mono_eq _, mono_eq _, mono_eq _, mono_eq _, mono_eq _, mono_eq _, mono_eq _, fun v w w' k h => by first | exact h | exact h.kept k | exact ⟨h.1, h.2.kept k⟩, mono_eq _, mono_eq _, mono_eq _, mono_eq _, mono_eq _, fun v w w' k h => by first | exact h | exact h.kept k | exact ⟨h.1, h.2.kept k⟩, trivial⟩) (steps_of ⟨
          (fun aF wF F => by
        have s6 : aF.tmps.getD 6 undef = X := F.old 6 (by kernel_rfl)
        exact step_val (by simp [Region.wanted]) (by go_simp) rfl),
          (fun aF wF F => by
        have s1 : aF.tmps.getD 1 undef = (.pointer (some ⟨bx, 0, none⟩)) := F.old 1 (by kernel_rfl)
        exact step_val (by simp [Region.wanted]) (by go_simp) rfl),
          (fun aF wF F => by
        have s38 : aF.tmps.getD 38 undef = (.pointer (some ⟨bx, 2, none⟩)) := F.done 1 38 (by kernel_rfl) rfl
        have c0 := cell_at (HBX.out.kept K3.out) F.kept 2 _ rfl
        exact step_val (by simp [Region.wanted]) (by go_simp) rfl),
          (fun aF wF F => by
        have s4 : aF.tmps.getD 4 undef = (.int .i64 (((k0 + 1) : Nat) : Int)) := F.old 4 (by kernel_rfl)
        exact step_val (by simp [Region.wanted]) (by go_simp) rfl),
          (fun aF wF F => by
        have s39 : aF.tmps.getD 39 undef = (.int .i64 e1) := F.done 2 39 (by kernel_rfl) rfl
        have s40 : aF.tmps.getD 40 undef = (.int .i64 (((k0 + 1) : Nat) : Int)) := F.done 3 40 (by kernel_rfl) rfl
        exact step_val (by simp [Region.wanted]) (by have hx := HW5.out; push_cast at hx; go_simp) rfl),
          (fun aF wF F => by
        have s41 : aF.tmps.getD 41 undef = (.int .i64 d1) := F.done 4 41 (by kernel_rfl) rfl
        exact step_val (by simp [Region.wanted]) (by go_simp) rfl),
          (fun aF wF F => by
        have s6 : aF.tmps.getD 6 undef = X := F.old 6 (by kernel_rfl)
        exact step_val (by simp [Region.wanted]) (by go_simp) rfl),
          (fun aF wF F => by
        have s6 : aF.tmps.getD 6 undef = X := F.old 6 (by kernel_rfl)
        exact step_val (by simp [Region.wanted]) (by go_simp) rfl),
          (fun aF wF F => by
        have s43 : aF.tmps.getD 43 undef = X := F.done 6 43 (by kernel_rfl) rfl
        have s44 : aF.tmps.getD 44 undef = X := F.done 7 44 (by kernel_rfl) rfl
        exact step_good (by simp [Region.wanted]) (by go_simp) (HTI.out _ _ (LX.out.kept F.kept)) (fun _ _ h => RetLim.good h) (fun _ _ h => h)),
          (fun aF wF F => by
        have s5 : aF.tmps.getD 5 undef = M := F.old 5 (by kernel_rfl)
        exact step_val (by simp [Region.wanted]) (by go_simp) rfl),
          (fun aF wF F => by
        have s45 : (fun v wv => Lim wv v (limbs (isq (x.m * 2 ^ (k0 + 1)) * isq (x.m * 2 ^ (k0 + 1))))) (aF.tmps.getD 45 undef) wF := F.done 8 45 (by kernel_rfl) rfl
        have s46 : aF.tmps.getD 46 undef = M := F.done 9 46 (by kernel_rfl) rfl
        exact step_good (by simp [Region.wanted]) (by go_simp) (HOR.out _ _ _ s45 (LM.out.kept F.kept)) (fun _ _ h => RetQ.good h) (fun _ _ h => h)),
          (fun aF wF F => by
        have s47 : aF.tmps.getD 47 undef = (.int .i64 (cmpN (isq (x.m * 2 ^ (k0 + 1)) * isq (x.m * 2 ^ (k0 + 1))) (x.m * 2 ^ (k0 + 1)))) := F.done 10 47 (by kernel_rfl) rfl
        exact step_val (by simp [Region.wanted]) (by go_simp) rfl),
          (fun aF wF F => by
        have s0 : aF.tmps.getD 0 undef = (.pointer (some ⟨bp, 0, none⟩)) := F.old 0 (by kernel_rfl)
        exact step_val (by simp [Region.wanted]) (by have cq := cell_kept F.kept (cell_kept K3.out CP.out); go_simp) rfl),
          (fun aF wF F => by
        have s2 : aF.tmps.getD 2 undef = (.pointer (some ⟨bu, 0, none⟩)) := F.old 2 (by kernel_rfl)
        exact step_val (by simp [Region.wanted]) (by have cq := cell_kept F.kept (cell_kept K3.out CU.out); go_simp) rfl),
          (fun aF wF F => by
        have s37 : aF.tmps.getD 37 undef = X := F.done 0 37 (by kernel_rfl) rfl
        have s42 : aF.tmps.getD 42 undef = (.int .i64 hh) := F.done 5 42 (by kernel_rfl) rfl
        have s48 : aF.tmps.getD 48 undef = (.bool rb) := F.done 11 48 (by kernel_rfl) rfl
        have s49 : aF.tmps.getD 49 undef = (.int .i64 p) := F.done 12 49 (by kernel_rfl) rfl
        have s50 : aF.tmps.getD 50 undef = (.bool up) := F.done 13 50 (by kernel_rfl) rfl
        exact step_goes (by simp [Region.wanted]) (by go_simp) (HC.out _ _ (K3.out.trans F.kept) (LX.out.kept F.kept)) (fun _ _ _ h0 h => ⟨h0, h⟩) (fun w2 k2 h0 => ⟨F.defers, ⟨K3.out.trans (F.kept.trans k2), .inr ⟨h0, rfl⟩⟩⟩)),
          trivial⟩) ?_
      intro u w1 k1 hu
      have e37 : u 0 = X := hu 0 (by decide)
      have e38 : u 1 = (.pointer (some ⟨bx, 2, none⟩)) := hu 1 (by decide)
      have e39 : u 2 = (.int .i64 e1) := hu 2 (by decide)
      have e40 : u 3 = (.int .i64 (((k0 + 1) : Nat) : Int)) := hu 3 (by decide)
      have e41 : u 4 = (.int .i64 d1) := hu 4 (by decide)
      have e42 : u 5 = (.int .i64 hh) := hu 5 (by decide)
      have e43 : u 6 = X := hu 6 (by decide)
      have e44 : u 7 = X := hu 7 (by decide)
      have p45 := hu 8 (by decide)
      have e46 : u 9 = M := hu 9 (by decide)
      have e47 : u 10 = (.int .i64 (cmpN (isq (x.m * 2 ^ (k0 + 1)) * isq (x.m * 2 ^ (k0 + 1))) (x.m * 2 ^ (k0 + 1)))) := hu 10 (by decide)
      have e48 : u 11 = (.bool rb) := hu 11 (by decide)
      have e49 : u 12 = (.int .i64 p) := hu 12 (by decide)
      have e50 : u 13 = (.bool up) := hu 13 (by decide)
      have p51 := hu 14 (by decide)
      clear hu
      simp only [puts, slotOf, if_true, Act.put, List.setIfInBounds_toArray, List.set_cons_zero, List.set_cons_succ, List.getElem?_toArray, List.getElem?_cons_zero, List.getElem?_cons_succ, Option.bind_some, e37, e38, e39, e40, e41, e42, e43, e44, e46, e47, e48, e49, e50]
      clear e37 e38 e39 e40 e41 e42 e43 e44 e46 e47 e48 e49 e50
      generalize u 8 = v45 at *
      try simp only [VL, List.getD_cons_zero, List.getD_cons_succ] at p45
      generalize u 14 = v51 at *
      try simp only [VL, List.getD_cons_zero, List.getD_cons_succ] at p51
      obtain ⟨h0, hd⟩ := p51
      obtain ⟨A', l', c', rfl, hd, g1, g2⟩ := dyR_parts hd
      have hb := HR5.out.kept k1
      obtain ⟨_, c0, c1, c2, f0, f1, f2⟩ := hb.facts
      have HD := Lib.hid hd
      have H0 := Lib.hid h0
      have HB := Lib.hid hb
      have K4 := Lib.hid (K3.out.trans k1)
      clear hd h0 hb k1 p45
      go_simp
      go_wp2_with fail
      exact ret_dy (HB.out.laid _ _ _) rfl rfl rfl ⟨dyW_kept K4.out (Nat.le_refl _), .inl ⟨H0.out, _, rfl, (HD.out.dyW HB.out (noLimb_bool _) (noLimb_slice _ _ _) (noLimb_i64 _)).dyR g1 g2⟩⟩
  · have hz : rootZ x p up = bad 4 := by unfold rootZ; rw [hn]; rfl
    rw [hz]
    rw [hn] at x0 HBX HO
    clear hRx hx hT p1 p2 hz hn
    generalize x.e = e1 at *
    go_enter Tryd.func95, Tryd.ntmps95
    go_wp2_with (first
      | (go_at_call 88; rw [← HW.out]; refine (HM.out _ (HK.out.trans (kept_alloc _ _)) _ HO.out).mono ?_; rintro e w1 ⟨rfl, q⟩; have K := Lib.hid (HK.out.trans ((kept_alloc _ _).trans q)); have hr := HR.out.kept ((kept_alloc _ _).trans q); have HR2 := Lib.hid hr; clear q hr x0 x1 x2 cp cu; have cp := cell_kept K.out CP.out; have cu := cell_kept K.out CU.out; obtain ⟨-, x0, x1, x2, -⟩ := (HBX.out.kept K.out).facts)
      | (go_at_call 89; refine (must_cR _ _ _).mono ?_; rintro e w3 ⟨he, rfl⟩; obtain rfl : e = .panicked (failV 104 _) := he))
    exact ⟨rfl, K.out, .inr ⟨by decide, rfl⟩⟩



set_option maxHeartbeats 2000000 in
set_option maxRecDepth 100000 in
theorem root_c {w : World} {v : Value} {d : Dy} {p : Nat} {up : Bool} (hv : DyR w v d.raw) (hd : d.Ok) (hT : Tab w) (p1 : 1 ≤ p) (p2 : p ≤ 2000) :
    Calls Tryd.prog 60 #[v, .int .i64 p, .bool up] w (RetE (rootZ d p up).raw w) := by
  have hmf : ∀ (fn : Fn) (first cap : Array Value) (w : World), (Instr.makeFunc fn first cap).run Tryd.prog w = .ok (.func fn first cap) w := fun _ _ _ _ => rfl
  obtain ⟨A, l, c, rfl, hv⟩ := dyR_split hv
  obtain ⟨W, hW, kW, B0, cp, cu, BR⟩ := boxes4 w (.bool d.neg) (.slice A l c) (.int .i64 d.e) (.int .i64 p) (.bool up)
  have hf := face_cR (w := W) (K := 95) (cap := #[.pointer (some ⟨w.heap.size + 1, 0, none⟩), .pointer (some ⟨w.heap.size, 0, none⟩), .pointer (some ⟨w.heap.size + 1 + 1, 0, none⟩)]) (o := (rootZ d p up).raw)
    (fun w1 k => root1_c hd (hT.kept (kW.trans k)) p1 p2 (cell_kept k cp) ⟨A, l, c, B0.kept k, hv.kept (kW.trans k)⟩ (cell_kept k cu)) (rootZ_bad d p up) (fun _ => rfl)
  have HF := Lib.hid hf
  have HW := Lib.hid hW
  have HK := Lib.hid kW
  have HR := Lib.hid BR
  clear hf hW kW B0 cp cu BR hv hd hT p1 p2
  generalize rootZ d p up = o at *
  generalize d.neg = nd at *
  generalize d.e = ed at *
  go_enter Tryd.func60, Tryd.ntmps60
  go_wp2_with (go_at_call 86; rw [← HW.out]; refine HF.out.mono ?_; rintro e w1 ⟨q, u, rfl, hd⟩; obtain ⟨A', l', c', rfl, hd, g3, g4⟩ := dyR_parts hd; have HD := Lib.hid hd; have hb2 := HR.out.kept q; obtain ⟨_, c0, c1, c2, f0, f1, f2⟩ := hb2.facts; have HB2 := Lib.hid hb2; clear hd hb2)
  exact ret_dy2 (HB2.out.laid _ _ _) rfl rfl rfl ⟨dyW_kept (HK.out.trans q) (by omega), _, rfl, (HD.out.dyW HB2.out (noLimb_bool _) (noLimb_slice _ _ _) (noLimb_i64 _)).dyR g3 g4⟩

end Go.Proofs.YtjdplcenniogdaaDoor
