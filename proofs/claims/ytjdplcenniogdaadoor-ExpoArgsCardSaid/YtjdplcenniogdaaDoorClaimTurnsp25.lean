/- Contracts of package round, third part: cut. -/
import Derived.Test.YtjdplcenniogdaaDoorClaimTurnsp24
namespace Go.Proofs.YtjdplcenniogdaaDoor
open Go.RowKit

theorem lim_single (w : World) (k : Nat) (hk : k < 18446744073709551616) (h0 : k ≠ 0) : Lim (w.alloc (.cells #[.int .u64 k] 28)) (.slice (some ⟨w.heap.size, 0, none⟩) 1 1) (limbs k) := by
  rw [limbs_one k h0 hk]
  exact lim_one hk (by simp) (new0 _ _ _) 1 (Nat.le_refl _)

theorem blk_new0 (w : World) : Blk (w.alloc (.cells #[.bool false, .slice none 0 0, .int .i64 0] 24)) w.heap.size (.bool false) (.slice none 0 0) (.int .i64 0) := blk_new _ _ _ _

/-- What cut is given. -/
structure CutIn (w : World) (v : Value) (m : Nat) (e : Int) (p : Nat) : Prop where
  lim : Lim w v (limbs m)
  len : (limbs m).length ≤ 20000
  e1 : -1000000000 ≤ e
  e2 : e ≤ 1000000000
  p1 : 1 ≤ p
  p2 : p ≤ 2000
  tab : Tab w

theorem CutIn.bl {w : World} {v : Value} {m : Nat} {e : Int} {p : Nat} (h : CutIn w v m e p) : bl m ≤ 1280000 := by
  have := bl_of_len m 20000 h.len; omega

theorem CutIn.fits {w w1 : World} {v u : Value} {m n : Nat} {e : Int} {p j : Nat} (h : CutIn w v m e p) (k : Kept w w1) (hu : Lim w1 u (limbs n)) (hn : n ≤ m + 1) (hj : j ≤ 1280000) (neg : Bool) :
    Calls Tryd.prog 80 #[.bool neg, u, .int .i64 (e + j)] w1 (RetE (fitD neg n (e + j)).raw w1) := by
  have h1 : _root_.Go.Proofs.YtjdplcenniogdaaDoor.bl n ≤ 1280001 := Nat.le_trans (bl_mono hn) (bl_add m 1 1280000 h.bl (by decide))
  have h2 := limbs_len_bl n 20001 (by omega)
  have := h.e1
  have := h.e2
  exact Fit_c hu (by omega) (by omega) (by omega) (h.tab.kept k)

theorem cutM_eq (m : Nat) (rest : Bool) (p : Nat) (aw : Bool) (r' : Bool) (hr : (cutN m rest p).1 = r') : cutM m rest p aw = if (r' && aw) = true then m / 2 ^ (bl m - p) + 1 else m / 2 ^ (bl m - p) := by
  unfold cutM; rw [hr]; rfl

set_option maxHeartbeats 4000000 in
set_option maxRecDepth 100000 in
theorem cut_c {w : World} {v : Value} {m p : Nat} {e : Int} (neg rest up : Bool) (h : CutIn w v m e p) :
    Calls Tryd.prog 93 #[.bool neg, v, .int .i64 e, .bool rest, .int .i64 p, .bool up] w (Goes 104 (cutD neg m e rest p up).raw w) := by
  have hbl := h.bl
  have p1 := h.p1
  have p2 := h.p2
  have e1 := h.e1
  have e2 := h.e2
  have hsz := fun w1 (k : Kept w w1) => size_c (h.lim.kept k) (by have := h.len; omega)
  have hri := fun w1 (k : Kept w w1) (j : Nat) (hj : j ≤ 1280000) => right_c (h.lim.kept k) j (by have := h.len; omega) (by omega)
  have hze := fun w1 (k : Kept w w1) (h0 : m ≠ 0) => zeros_c (h.lim.kept k) (by have := h.len; omega) h0 (h.tab.kept k)
  have hpl := fun w1 u n (hu : Lim w1 u (limbs n)) (hn : n ≤ m) (u1 : Value) (hu1 : Lim w1 u1 (limbs 1)) => plus_c hu hu1 (by have h1 := limbs_len_bl n 20000 (by have := bl_mono hn; omega); omega) (by rw [limbs_one 1 (by decide) (by decide)]; decide)
  have hfi := fun w1 u n (j : Nat) (k : Kept w w1) (hu : Lim w1 u (limbs n)) (hn : n ≤ m + 1) (hj : j ≤ 1280000) => h.fits k hu hn hj neg
  have HSZ := Lib.hid hsz
  have HRI := Lib.hid hri
  have HZE := Lib.hid hze
  have HPL := Lib.hid hpl
  have HFI := Lib.hid hfi
  have HLI := Lib.hid h.lim
  obtain ⟨A, l, c, rfl, -, -⟩ := h.lim.shape
  clear hsz hri hze hpl hfi h
  unfold cutD
  obtain ⟨aw, haw⟩ : ∃ aw, (up != neg) = aw := ⟨_, rfl⟩
  rw [haw]
  have hnb1 : ((!up) == neg) = aw := by rw [← haw]; cases up <;> cases neg <;> rfl
  have hnb2 : (!(up == neg)) = aw := by rw [← haw]; cases up <;> cases neg <;> rfl
  clear haw
  obtain ⟨W, hW⟩ : ∃ W, W = w.alloc (.cells #[.bool false, .slice none 0 0, .int .i64 0] 24) := ⟨_, rfl⟩
  have HK := Lib.hid (show Kept w W by rw [hW]; exact kept_alloc _ _)
  have HB := Lib.hid (show Blk W w.heap.size (.bool false) (.slice none 0 0) (.int .i64 0) by rw [hW]; exact blk_new0 w)
  have HW := Lib.hid hW
  clear hW
  by_cases hn : p < bl m
  · obtain ⟨j, hj⟩ : ∃ j, bl m - p = j := ⟨_, rfl⟩
    have hws : IntKind.i64.wrap ((bl m : Int) - (p : Int)) = (j : Int) := by simp [IntKind.wrap_i64]; omega
    have hwe : IntKind.i64.wrap (e + (j : Int)) = e + (j : Int) := by simp [IntKind.wrap_i64]; omega
    have HM0 := Lib.hid (show m ≠ 0 by rintro rfl; rw [bl_zero] at hn; omega)
    have HJ := Lib.hid (show j ≤ 1280000 by omega)
    have hd : decide (0 < j) = true := by simp; omega
    cases hrest : rest
    · obtain ⟨bz, hbz⟩ : ∃ bz, decide (tz m < j) = bz := ⟨_, rfl⟩
      have hc : (cutN m false p).1 = bz := by
        unfold cutN
        simp only [hj]
        rw [hd, hbz, Bool.false_or, Bool.true_and]
      rw [cutM_eq m false p aw bz hc, hj]
      clear hc hj hrest hn
      cases bz
      · rw [Bool.false_and, if_neg (by decide)]
        obtain ⟨o, ho⟩ : ∃ o, o = fitD neg (m / 2 ^ j) (e + ((j : Nat) : Int)) := ⟨_, rfl⟩
        have hf2 := fun w1 u (k : Kept w w1) (hu : Lim w1 u (limbs (m / 2 ^ j))) => HFI.out w1 u (m / 2 ^ j) j k hu (Nat.le_succ_of_le (Nat.div_le_self _ _)) HJ.out
        rw [← ho] at hf2 ⊢
        skip
        have HF2 := Lib.hid hf2
        clear ho hf2
        by_cases hk : o.k = 0
        · have hkb : (o.raw.k == 0) = true := by rw [beq_iff_eq]; exact hk
          have HKK := Lib.hid hk
          clear hk
          go_enter Tryd.func93, Tryd.ntmps93
          go_wp2_with (first
            | (go_at_call 90; rw [← HW.out]; refine (HSZ.out _ HK.out).mono ?_; rintro e w1 ⟨rfl, q, hq⟩; have K := Lib.hid (show Kept W w1 from hq ▸ Kept.drewN (Below.refl W.heap.size W) q); clear hq; replace HW : True := trivial; have LX := Lib.hid (HLI.out.kept (HK.out.trans K.out)))
            | (go_at_call 104; refine (HZE.out _ (HK.out.trans K.out) HM0.out).mono ?_; rintro e w1 ⟨rfl, q, hq⟩; replace K := Lib.hid (show Kept W w1 from hq ▸ Kept.drewN K.out q); clear hq)
            | (go_at_call 105; refine (HRI.out _ (HK.out.trans K.out) _ HJ.out).mono ?_; rintro e w1 ⟨X, rfl, hX, q⟩; replace K := Lib.hid (K.out.trans q); replace LX := Lib.hid hX; clear hX q)
            | (go_at_call 102; refine (HPL.out _ _ _ (LX.out.kept (kept_alloc _ _)) (by first | exact Nat.div_le_self _ _ | exact Nat.le_refl _) _ (lim_single _ 1 (by decide) (by decide))).mono ?_; rintro e w1 ⟨X, rfl, hX, q⟩; replace K := Lib.hid (K.out.trans ((kept_alloc _ _).trans q)); replace LX := Lib.hid hX; clear hX q)
            | (go_at_call 80; refine (HF2.out _ _ (HK.out.trans K.out) LX.out).mono ?_; rintro e w2 ⟨q, u, rfl, hd⟩; obtain ⟨A', l', c', rfl, -, hd, g1, g2⟩ := hd.shape; have HD := Lib.hid hd; replace K := Lib.hid (K.out.trans q); clear hd q; have hb := HB.out.kept K.out; obtain ⟨hsz, c0, c1, c2, f0, f1, f2⟩ := hb.facts; have HB2 := Lib.hid hb; clear hb)
            | (go_at_call 89; refine (must_cR _ _ _).mono ?_; rintro e w3 ⟨he, rfl⟩; first | (obtain rfl : e = .returned (.tuple #[]) := he) | (obtain rfl : e = .panicked (failV 104 _) := he)))
          exact ret_dy (blk_alloc (HB2.out.laid _ _ _) _) rfl rfl rfl ⟨(dyW_kept (HK.out.trans K.out) (Nat.le_refl _)).trans (kept_alloc _ _), .inl ⟨HKK.out, _, rfl, ((HD.out.dyW HB2.out (noLimb_bool _) (noLimb_slice _ _ _) (noLimb_i64 _)).kept (kept_alloc _ _)).dyR g1 g2⟩⟩
        · have hkb : (o.raw.k == 0) = false := by rw [beq_eq_false_iff_ne]; exact hk
          have HKK := Lib.hid hk
          clear hk
          go_enter Tryd.func93, Tryd.ntmps93
          go_wp2_with (first
            | (go_at_call 90; rw [← HW.out]; refine (HSZ.out _ HK.out).mono ?_; rintro e w1 ⟨rfl, q, hq⟩; have K := Lib.hid (show Kept W w1 from hq ▸ Kept.drewN (Below.refl W.heap.size W) q); clear hq; replace HW : True := trivial; have LX := Lib.hid (HLI.out.kept (HK.out.trans K.out)))
            | (go_at_call 104; refine (HZE.out _ (HK.out.trans K.out) HM0.out).mono ?_; rintro e w1 ⟨rfl, q, hq⟩; replace K := Lib.hid (show Kept W w1 from hq ▸ Kept.drewN K.out q); clear hq)
            | (go_at_call 105; refine (HRI.out _ (HK.out.trans K.out) _ HJ.out).mono ?_; rintro e w1 ⟨X, rfl, hX, q⟩; replace K := Lib.hid (K.out.trans q); replace LX := Lib.hid hX; clear hX q)
            | (go_at_call 102; refine (HPL.out _ _ _ (LX.out.kept (kept_alloc _ _)) (by first | exact Nat.div_le_self _ _ | exact Nat.le_refl _) _ (lim_single _ 1 (by decide) (by decide))).mono ?_; rintro e w1 ⟨X, rfl, hX, q⟩; replace K := Lib.hid (K.out.trans ((kept_alloc _ _).trans q)); replace LX := Lib.hid hX; clear hX q)
            | (go_at_call 80; refine (HF2.out _ _ (HK.out.trans K.out) LX.out).mono ?_; rintro e w2 ⟨q, u, rfl, hd⟩; obtain ⟨A', l', c', rfl, -, hd, g1, g2⟩ := hd.shape; have HD := Lib.hid hd; replace K := Lib.hid (K.out.trans q); clear hd q; have hb := HB.out.kept K.out; obtain ⟨hsz, c0, c1, c2, f0, f1, f2⟩ := hb.facts; have HB2 := Lib.hid hb; clear hb)
            | (go_at_call 89; refine (must_cR _ _ _).mono ?_; rintro e w3 ⟨he, rfl⟩; first | (obtain rfl : e = .returned (.tuple #[]) := he) | (obtain rfl : e = .panicked (failV 104 _) := he)))
          exact ⟨rfl, (HK.out.trans K.out).trans (kept_alloc _ _), .inr ⟨HKK.out, rfl⟩⟩
      · cases aw
        · rw [Bool.true_and, if_neg (by decide)]
          obtain ⟨o, ho⟩ : ∃ o, o = fitD neg (m / 2 ^ j) (e + ((j : Nat) : Int)) := ⟨_, rfl⟩
          have hf2 := fun w1 u (k : Kept w w1) (hu : Lim w1 u (limbs (m / 2 ^ j))) => HFI.out w1 u (m / 2 ^ j) j k hu (Nat.le_succ_of_le (Nat.div_le_self _ _)) HJ.out
          rw [← ho] at hf2 ⊢
          skip
          have HF2 := Lib.hid hf2
          clear ho hf2
          by_cases hk : o.k = 0
          · have hkb : (o.raw.k == 0) = true := by rw [beq_iff_eq]; exact hk
            have HKK := Lib.hid hk
            clear hk
            go_enter Tryd.func93, Tryd.ntmps93
            go_wp2_with (first
              | (go_at_call 90; rw [← HW.out]; refine (HSZ.out _ HK.out).mono ?_; rintro e w1 ⟨rfl, q, hq⟩; have K := Lib.hid (show Kept W w1 from hq ▸ Kept.drewN (Below.refl W.heap.size W) q); clear hq; replace HW : True := trivial; have LX := Lib.hid (HLI.out.kept (HK.out.trans K.out)))
              | (go_at_call 104; refine (HZE.out _ (HK.out.trans K.out) HM0.out).mono ?_; rintro e w1 ⟨rfl, q, hq⟩; replace K := Lib.hid (show Kept W w1 from hq ▸ Kept.drewN K.out q); clear hq)
              | (go_at_call 105; refine (HRI.out _ (HK.out.trans K.out) _ HJ.out).mono ?_; rintro e w1 ⟨X, rfl, hX, q⟩; replace K := Lib.hid (K.out.trans q); replace LX := Lib.hid hX; clear hX q)
              | (go_at_call 102; refine (HPL.out _ _ _ (LX.out.kept (kept_alloc _ _)) (by first | exact Nat.div_le_self _ _ | exact Nat.le_refl _) _ (lim_single _ 1 (by decide) (by decide))).mono ?_; rintro e w1 ⟨X, rfl, hX, q⟩; replace K := Lib.hid (K.out.trans ((kept_alloc _ _).trans q)); replace LX := Lib.hid hX; clear hX q)
              | (go_at_call 80; refine (HF2.out _ _ (HK.out.trans K.out) LX.out).mono ?_; rintro e w2 ⟨q, u, rfl, hd⟩; obtain ⟨A', l', c', rfl, -, hd, g1, g2⟩ := hd.shape; have HD := Lib.hid hd; replace K := Lib.hid (K.out.trans q); clear hd q; have hb := HB.out.kept K.out; obtain ⟨hsz, c0, c1, c2, f0, f1, f2⟩ := hb.facts; have HB2 := Lib.hid hb; clear hb)
              | (go_at_call 89; refine (must_cR _ _ _).mono ?_; rintro e w3 ⟨he, rfl⟩; first | (obtain rfl : e = .returned (.tuple #[]) := he) | (obtain rfl : e = .panicked (failV 104 _) := he)))
            exact ret_dy (blk_alloc (HB2.out.laid _ _ _) _) rfl rfl rfl ⟨(dyW_kept (HK.out.trans K.out) (Nat.le_refl _)).trans (kept_alloc _ _), .inl ⟨HKK.out, _, rfl, ((HD.out.dyW HB2.out (noLimb_bool _) (noLimb_slice _ _ _) (noLimb_i64 _)).kept (kept_alloc _ _)).dyR g1 g2⟩⟩
          · have hkb : (o.raw.k == 0) = false := by rw [beq_eq_false_iff_ne]; exact hk
            have HKK := Lib.hid hk
            clear hk
            go_enter Tryd.func93, Tryd.ntmps93
            go_wp2_with (first
              | (go_at_call 90; rw [← HW.out]; refine (HSZ.out _ HK.out).mono ?_; rintro e w1 ⟨rfl, q, hq⟩; have K := Lib.hid (show Kept W w1 from hq ▸ Kept.drewN (Below.refl W.heap.size W) q); clear hq; replace HW : True := trivial; have LX := Lib.hid (HLI.out.kept (HK.out.trans K.out)))
              | (go_at_call 104; refine (HZE.out _ (HK.out.trans K.out) HM0.out).mono ?_; rintro e w1 ⟨rfl, q, hq⟩; replace K := Lib.hid (show Kept W w1 from hq ▸ Kept.drewN K.out q); clear hq)
              | (go_at_call 105; refine (HRI.out _ (HK.out.trans K.out) _ HJ.out).mono ?_; rintro e w1 ⟨X, rfl, hX, q⟩; replace K := Lib.hid (K.out.trans q); replace LX := Lib.hid hX; clear hX q)
              | (go_at_call 102; refine (HPL.out _ _ _ (LX.out.kept (kept_alloc _ _)) (by first | exact Nat.div_le_self _ _ | exact Nat.le_refl _) _ (lim_single _ 1 (by decide) (by decide))).mono ?_; rintro e w1 ⟨X, rfl, hX, q⟩; replace K := Lib.hid (K.out.trans ((kept_alloc _ _).trans q)); replace LX := Lib.hid hX; clear hX q)
              | (go_at_call 80; refine (HF2.out _ _ (HK.out.trans K.out) LX.out).mono ?_; rintro e w2 ⟨q, u, rfl, hd⟩; obtain ⟨A', l', c', rfl, -, hd, g1, g2⟩ := hd.shape; have HD := Lib.hid hd; replace K := Lib.hid (K.out.trans q); clear hd q; have hb := HB.out.kept K.out; obtain ⟨hsz, c0, c1, c2, f0, f1, f2⟩ := hb.facts; have HB2 := Lib.hid hb; clear hb)
              | (go_at_call 89; refine (must_cR _ _ _).mono ?_; rintro e w3 ⟨he, rfl⟩; first | (obtain rfl : e = .returned (.tuple #[]) := he) | (obtain rfl : e = .panicked (failV 104 _) := he)))
            exact ⟨rfl, (HK.out.trans K.out).trans (kept_alloc _ _), .inr ⟨HKK.out, rfl⟩⟩
        · rw [Bool.true_and, if_pos rfl]
          obtain ⟨o, ho⟩ : ∃ o, o = fitD neg (m / 2 ^ j + 1) (e + ((j : Nat) : Int)) := ⟨_, rfl⟩
          have hf2 := fun w1 u (k : Kept w w1) (hu : Lim w1 u (limbs (m / 2 ^ j + 1))) => HFI.out w1 u (m / 2 ^ j + 1) j k hu (Nat.succ_le_succ (Nat.div_le_self _ _)) HJ.out
          rw [← ho] at hf2 ⊢
          skip
          have HF2 := Lib.hid hf2
          clear ho hf2
          by_cases hk : o.k = 0
          · have hkb : (o.raw.k == 0) = true := by rw [beq_iff_eq]; exact hk
            have HKK := Lib.hid hk
            clear hk
            go_enter Tryd.func93, Tryd.ntmps93
            go_wp2_with (first
              | (go_at_call 90; rw [← HW.out]; refine (HSZ.out _ HK.out).mono ?_; rintro e w1 ⟨rfl, q, hq⟩; have K := Lib.hid (show Kept W w1 from hq ▸ Kept.drewN (Below.refl W.heap.size W) q); clear hq; replace HW : True := trivial; have LX := Lib.hid (HLI.out.kept (HK.out.trans K.out)))
              | (go_at_call 104; refine (HZE.out _ (HK.out.trans K.out) HM0.out).mono ?_; rintro e w1 ⟨rfl, q, hq⟩; replace K := Lib.hid (show Kept W w1 from hq ▸ Kept.drewN K.out q); clear hq)
              | (go_at_call 105; refine (HRI.out _ (HK.out.trans K.out) _ HJ.out).mono ?_; rintro e w1 ⟨X, rfl, hX, q⟩; replace K := Lib.hid (K.out.trans q); replace LX := Lib.hid hX; clear hX q)
              | (go_at_call 102; refine (HPL.out _ _ _ (LX.out.kept (kept_alloc _ _)) (by first | exact Nat.div_le_self _ _ | exact Nat.le_refl _) _ (lim_single _ 1 (by decide) (by decide))).mono ?_; rintro e w1 ⟨X, rfl, hX, q⟩; replace K := Lib.hid (K.out.trans ((kept_alloc _ _).trans q)); replace LX := Lib.hid hX; clear hX q)
              | (go_at_call 80; refine (HF2.out _ _ (HK.out.trans K.out) LX.out).mono ?_; rintro e w2 ⟨q, u, rfl, hd⟩; obtain ⟨A', l', c', rfl, -, hd, g1, g2⟩ := hd.shape; have HD := Lib.hid hd; replace K := Lib.hid (K.out.trans q); clear hd q; have hb := HB.out.kept K.out; obtain ⟨hsz, c0, c1, c2, f0, f1, f2⟩ := hb.facts; have HB2 := Lib.hid hb; clear hb)
              | (go_at_call 89; refine (must_cR _ _ _).mono ?_; rintro e w3 ⟨he, rfl⟩; first | (obtain rfl : e = .returned (.tuple #[]) := he) | (obtain rfl : e = .panicked (failV 104 _) := he)))
            exact ret_dy (blk_alloc (HB2.out.laid _ _ _) _) rfl rfl rfl ⟨(dyW_kept (HK.out.trans K.out) (Nat.le_refl _)).trans (kept_alloc _ _), .inl ⟨HKK.out, _, rfl, ((HD.out.dyW HB2.out (noLimb_bool _) (noLimb_slice _ _ _) (noLimb_i64 _)).kept (kept_alloc _ _)).dyR g1 g2⟩⟩
          · have hkb : (o.raw.k == 0) = false := by rw [beq_eq_false_iff_ne]; exact hk
            have HKK := Lib.hid hk
            clear hk
            go_enter Tryd.func93, Tryd.ntmps93
            go_wp2_with (first
              | (go_at_call 90; rw [← HW.out]; refine (HSZ.out _ HK.out).mono ?_; rintro e w1 ⟨rfl, q, hq⟩; have K := Lib.hid (show Kept W w1 from hq ▸ Kept.drewN (Below.refl W.heap.size W) q); clear hq; replace HW : True := trivial; have LX := Lib.hid (HLI.out.kept (HK.out.trans K.out)))
              | (go_at_call 104; refine (HZE.out _ (HK.out.trans K.out) HM0.out).mono ?_; rintro e w1 ⟨rfl, q, hq⟩; replace K := Lib.hid (show Kept W w1 from hq ▸ Kept.drewN K.out q); clear hq)
              | (go_at_call 105; refine (HRI.out _ (HK.out.trans K.out) _ HJ.out).mono ?_; rintro e w1 ⟨X, rfl, hX, q⟩; replace K := Lib.hid (K.out.trans q); replace LX := Lib.hid hX; clear hX q)
              | (go_at_call 102; refine (HPL.out _ _ _ (LX.out.kept (kept_alloc _ _)) (by first | exact Nat.div_le_self _ _ | exact Nat.le_refl _) _ (lim_single _ 1 (by decide) (by decide))).mono ?_; rintro e w1 ⟨X, rfl, hX, q⟩; replace K := Lib.hid (K.out.trans ((kept_alloc _ _).trans q)); replace LX := Lib.hid hX; clear hX q)
              | (go_at_call 80; refine (HF2.out _ _ (HK.out.trans K.out) LX.out).mono ?_; rintro e w2 ⟨q, u, rfl, hd⟩; obtain ⟨A', l', c', rfl, -, hd, g1, g2⟩ := hd.shape; have HD := Lib.hid hd; replace K := Lib.hid (K.out.trans q); clear hd q; have hb := HB.out.kept K.out; obtain ⟨hsz, c0, c1, c2, f0, f1, f2⟩ := hb.facts; have HB2 := Lib.hid hb; clear hb)
              | (go_at_call 89; refine (must_cR _ _ _).mono ?_; rintro e w3 ⟨he, rfl⟩; first | (obtain rfl : e = .returned (.tuple #[]) := he) | (obtain rfl : e = .panicked (failV 104 _) := he)))
            exact ⟨rfl, (HK.out.trans K.out).trans (kept_alloc _ _), .inr ⟨HKK.out, rfl⟩⟩
    · have hc : (cutN m true p).1 = true := by
        unfold cutN
        simp
      rw [cutM_eq m true p aw true hc, hj]
      clear hc hj hrest hn
      cases aw
      · rw [Bool.true_and, if_neg (by decide)]
        obtain ⟨o, ho⟩ : ∃ o, o = fitD neg (m / 2 ^ j) (e + ((j : Nat) : Int)) := ⟨_, rfl⟩
        have hf2 := fun w1 u (k : Kept w w1) (hu : Lim w1 u (limbs (m / 2 ^ j))) => HFI.out w1 u (m / 2 ^ j) j k hu (Nat.le_succ_of_le (Nat.div_le_self _ _)) HJ.out
        rw [← ho] at hf2 ⊢
        skip
        have HF2 := Lib.hid hf2
        clear ho hf2
        by_cases hk : o.k = 0
        · have hkb : (o.raw.k == 0) = true := by rw [beq_iff_eq]; exact hk
          have HKK := Lib.hid hk
          clear hk
          go_enter Tryd.func93, Tryd.ntmps93
          go_wp2_with (first
            | (go_at_call 90; rw [← HW.out]; refine (HSZ.out _ HK.out).mono ?_; rintro e w1 ⟨rfl, q, hq⟩; have K := Lib.hid (show Kept W w1 from hq ▸ Kept.drewN (Below.refl W.heap.size W) q); clear hq; replace HW : True := trivial; have LX := Lib.hid (HLI.out.kept (HK.out.trans K.out)))
            | (go_at_call 104; refine (HZE.out _ (HK.out.trans K.out) HM0.out).mono ?_; rintro e w1 ⟨rfl, q, hq⟩; replace K := Lib.hid (show Kept W w1 from hq ▸ Kept.drewN K.out q); clear hq)
            | (go_at_call 105; refine (HRI.out _ (HK.out.trans K.out) _ HJ.out).mono ?_; rintro e w1 ⟨X, rfl, hX, q⟩; replace K := Lib.hid (K.out.trans q); replace LX := Lib.hid hX; clear hX q)
            | (go_at_call 102; refine (HPL.out _ _ _ (LX.out.kept (kept_alloc _ _)) (by first | exact Nat.div_le_self _ _ | exact Nat.le_refl _) _ (lim_single _ 1 (by decide) (by decide))).mono ?_; rintro e w1 ⟨X, rfl, hX, q⟩; replace K := Lib.hid (K.out.trans ((kept_alloc _ _).trans q)); replace LX := Lib.hid hX; clear hX q)
            | (go_at_call 80; refine (HF2.out _ _ (HK.out.trans K.out) LX.out).mono ?_; rintro e w2 ⟨q, u, rfl, hd⟩; obtain ⟨A', l', c', rfl, -, hd, g1, g2⟩ := hd.shape; have HD := Lib.hid hd; replace K := Lib.hid (K.out.trans q); clear hd q; have hb := HB.out.kept K.out; obtain ⟨hsz, c0, c1, c2, f0, f1, f2⟩ := hb.facts; have HB2 := Lib.hid hb; clear hb)
            | (go_at_call 89; refine (must_cR _ _ _).mono ?_; rintro e w3 ⟨he, rfl⟩; first | (obtain rfl : e = .returned (.tuple #[]) := he) | (obtain rfl : e = .panicked (failV 104 _) := he)))
          exact ret_dy (blk_alloc (HB2.out.laid _ _ _) _) rfl rfl rfl ⟨(dyW_kept (HK.out.trans K.out) (Nat.le_refl _)).trans (kept_alloc _ _), .inl ⟨HKK.out, _, rfl, ((HD.out.dyW HB2.out (noLimb_bool _) (noLimb_slice _ _ _) (noLimb_i64 _)).kept (kept_alloc _ _)).dyR g1 g2⟩⟩
        · have hkb : (o.raw.k == 0) = false := by rw [beq_eq_false_iff_ne]; exact hk
          have HKK := Lib.hid hk
          clear hk
          go_enter Tryd.func93, Tryd.ntmps93
          go_wp2_with (first
            | (go_at_call 90; rw [← HW.out]; refine (HSZ.out _ HK.out).mono ?_; rintro e w1 ⟨rfl, q, hq⟩; have K := Lib.hid (show Kept W w1 from hq ▸ Kept.drewN (Below.refl W.heap.size W) q); clear hq; replace HW : True := trivial; have LX := Lib.hid (HLI.out.kept (HK.out.trans K.out)))
            | (go_at_call 104; refine (HZE.out _ (HK.out.trans K.out) HM0.out).mono ?_; rintro e w1 ⟨rfl, q, hq⟩; replace K := Lib.hid (show Kept W w1 from hq ▸ Kept.drewN K.out q); clear hq)
            | (go_at_call 105; refine (HRI.out _ (HK.out.trans K.out) _ HJ.out).mono ?_; rintro e w1 ⟨X, rfl, hX, q⟩; replace K := Lib.hid (K.out.trans q); replace LX := Lib.hid hX; clear hX q)
            | (go_at_call 102; refine (HPL.out _ _ _ (LX.out.kept (kept_alloc _ _)) (by first | exact Nat.div_le_self _ _ | exact Nat.le_refl _) _ (lim_single _ 1 (by decide) (by decide))).mono ?_; rintro e w1 ⟨X, rfl, hX, q⟩; replace K := Lib.hid (K.out.trans ((kept_alloc _ _).trans q)); replace LX := Lib.hid hX; clear hX q)
            | (go_at_call 80; refine (HF2.out _ _ (HK.out.trans K.out) LX.out).mono ?_; rintro e w2 ⟨q, u, rfl, hd⟩; obtain ⟨A', l', c', rfl, -, hd, g1, g2⟩ := hd.shape; have HD := Lib.hid hd; replace K := Lib.hid (K.out.trans q); clear hd q; have hb := HB.out.kept K.out; obtain ⟨hsz, c0, c1, c2, f0, f1, f2⟩ := hb.facts; have HB2 := Lib.hid hb; clear hb)
            | (go_at_call 89; refine (must_cR _ _ _).mono ?_; rintro e w3 ⟨he, rfl⟩; first | (obtain rfl : e = .returned (.tuple #[]) := he) | (obtain rfl : e = .panicked (failV 104 _) := he)))
          exact ⟨rfl, (HK.out.trans K.out).trans (kept_alloc _ _), .inr ⟨HKK.out, rfl⟩⟩
      · rw [Bool.true_and, if_pos rfl]
        obtain ⟨o, ho⟩ : ∃ o, o = fitD neg (m / 2 ^ j + 1) (e + ((j : Nat) : Int)) := ⟨_, rfl⟩
        have hf2 := fun w1 u (k : Kept w w1) (hu : Lim w1 u (limbs (m / 2 ^ j + 1))) => HFI.out w1 u (m / 2 ^ j + 1) j k hu (Nat.succ_le_succ (Nat.div_le_self _ _)) HJ.out
        rw [← ho] at hf2 ⊢
        skip
        have HF2 := Lib.hid hf2
        clear ho hf2
        by_cases hk : o.k = 0
        · have hkb : (o.raw.k == 0) = true := by rw [beq_iff_eq]; exact hk
          have HKK := Lib.hid hk
          clear hk
          go_enter Tryd.func93, Tryd.ntmps93
          go_wp2_with (first
            | (go_at_call 90; rw [← HW.out]; refine (HSZ.out _ HK.out).mono ?_; rintro e w1 ⟨rfl, q, hq⟩; have K := Lib.hid (show Kept W w1 from hq ▸ Kept.drewN (Below.refl W.heap.size W) q); clear hq; replace HW : True := trivial; have LX := Lib.hid (HLI.out.kept (HK.out.trans K.out)))
            | (go_at_call 104; refine (HZE.out _ (HK.out.trans K.out) HM0.out).mono ?_; rintro e w1 ⟨rfl, q, hq⟩; replace K := Lib.hid (show Kept W w1 from hq ▸ Kept.drewN K.out q); clear hq)
            | (go_at_call 105; refine (HRI.out _ (HK.out.trans K.out) _ HJ.out).mono ?_; rintro e w1 ⟨X, rfl, hX, q⟩; replace K := Lib.hid (K.out.trans q); replace LX := Lib.hid hX; clear hX q)
            | (go_at_call 102; refine (HPL.out _ _ _ (LX.out.kept (kept_alloc _ _)) (by first | exact Nat.div_le_self _ _ | exact Nat.le_refl _) _ (lim_single _ 1 (by decide) (by decide))).mono ?_; rintro e w1 ⟨X, rfl, hX, q⟩; replace K := Lib.hid (K.out.trans ((kept_alloc _ _).trans q)); replace LX := Lib.hid hX; clear hX q)
            | (go_at_call 80; refine (HF2.out _ _ (HK.out.trans K.out) LX.out).mono ?_; rintro e w2 ⟨q, u, rfl, hd⟩; obtain ⟨A', l', c', rfl, -, hd, g1, g2⟩ := hd.shape; have HD := Lib.hid hd; replace K := Lib.hid (K.out.trans q); clear hd q; have hb := HB.out.kept K.out; obtain ⟨hsz, c0, c1, c2, f0, f1, f2⟩ := hb.facts; have HB2 := Lib.hid hb; clear hb)
            | (go_at_call 89; refine (must_cR _ _ _).mono ?_; rintro e w3 ⟨he, rfl⟩; first | (obtain rfl : e = .returned (.tuple #[]) := he) | (obtain rfl : e = .panicked (failV 104 _) := he)))
          exact ret_dy (blk_alloc (HB2.out.laid _ _ _) _) rfl rfl rfl ⟨(dyW_kept (HK.out.trans K.out) (Nat.le_refl _)).trans (kept_alloc _ _), .inl ⟨HKK.out, _, rfl, ((HD.out.dyW HB2.out (noLimb_bool _) (noLimb_slice _ _ _) (noLimb_i64 _)).kept (kept_alloc _ _)).dyR g1 g2⟩⟩
        · have hkb : (o.raw.k == 0) = false := by rw [beq_eq_false_iff_ne]; exact hk
          have HKK := Lib.hid hk
          clear hk
          go_enter Tryd.func93, Tryd.ntmps93
          go_wp2_with (first
            | (go_at_call 90; rw [← HW.out]; refine (HSZ.out _ HK.out).mono ?_; rintro e w1 ⟨rfl, q, hq⟩; have K := Lib.hid (show Kept W w1 from hq ▸ Kept.drewN (Below.refl W.heap.size W) q); clear hq; replace HW : True := trivial; have LX := Lib.hid (HLI.out.kept (HK.out.trans K.out)))
            | (go_at_call 104; refine (HZE.out _ (HK.out.trans K.out) HM0.out).mono ?_; rintro e w1 ⟨rfl, q, hq⟩; replace K := Lib.hid (show Kept W w1 from hq ▸ Kept.drewN K.out q); clear hq)
            | (go_at_call 105; refine (HRI.out _ (HK.out.trans K.out) _ HJ.out).mono ?_; rintro e w1 ⟨X, rfl, hX, q⟩; replace K := Lib.hid (K.out.trans q); replace LX := Lib.hid hX; clear hX q)
            | (go_at_call 102; refine (HPL.out _ _ _ (LX.out.kept (kept_alloc _ _)) (by first | exact Nat.div_le_self _ _ | exact Nat.le_refl _) _ (lim_single _ 1 (by decide) (by decide))).mono ?_; rintro e w1 ⟨X, rfl, hX, q⟩; replace K := Lib.hid (K.out.trans ((kept_alloc _ _).trans q)); replace LX := Lib.hid hX; clear hX q)
            | (go_at_call 80; refine (HF2.out _ _ (HK.out.trans K.out) LX.out).mono ?_; rintro e w2 ⟨q, u, rfl, hd⟩; obtain ⟨A', l', c', rfl, -, hd, g1, g2⟩ := hd.shape; have HD := Lib.hid hd; replace K := Lib.hid (K.out.trans q); clear hd q; have hb := HB.out.kept K.out; obtain ⟨hsz, c0, c1, c2, f0, f1, f2⟩ := hb.facts; have HB2 := Lib.hid hb; clear hb)
            | (go_at_call 89; refine (must_cR _ _ _).mono ?_; rintro e w3 ⟨he, rfl⟩; first | (obtain rfl : e = .returned (.tuple #[]) := he) | (obtain rfl : e = .panicked (failV 104 _) := he)))
          exact ⟨rfl, (HK.out.trans K.out).trans (kept_alloc _ _), .inr ⟨HKK.out, rfl⟩⟩
  · have hj : bl m - p = 0 := by omega
    obtain ⟨i0, hi0⟩ : ∃ i0 : Int, (bl m : Int) - (p : Int) = i0 := ⟨_, rfl⟩
    have hws : IntKind.i64.wrap ((bl m : Int) - (p : Int)) = i0 := by rw [← hi0]; simp [IntKind.wrap_i64]; omega
    have hj0 : decide ((0 : Int) < i0) = false := by simp; omega
    have hc : (cutN m rest p).1 = rest := by
      unfold cutN
      simp only [hj]
      simp
    rw [cutM_eq m rest p aw rest hc, hj]
    rw [Nat.pow_zero, Nat.div_one]
    have HJ := Lib.hid (show (0 : Nat) ≤ 1280000 by omega)
    clear hc hj hn hi0
    cases rest
    · rw [Bool.false_and, if_neg (by decide)]
      obtain ⟨o, ho⟩ : ∃ o, o = fitD neg m (e + ((0 : Nat) : Int)) := ⟨_, rfl⟩
      have hf2 := fun w1 u (k : Kept w w1) (hu : Lim w1 u (limbs m)) => HFI.out w1 u m 0 k hu (Nat.le_succ _) HJ.out
      rw [← ho] at hf2 ⊢
      simp only [Int.natCast_zero, Int.add_zero] at hf2 ho
      have HF2 := Lib.hid hf2
      clear ho hf2
      by_cases hk : o.k = 0
      · have hkb : (o.raw.k == 0) = true := by rw [beq_iff_eq]; exact hk
        have HKK := Lib.hid hk
        clear hk
        go_enter Tryd.func93, Tryd.ntmps93
        go_wp2_with (first
          | (go_at_call 90; rw [← HW.out]; refine (HSZ.out _ HK.out).mono ?_; rintro e w1 ⟨rfl, q, hq⟩; have K := Lib.hid (show Kept W w1 from hq ▸ Kept.drewN (Below.refl W.heap.size W) q); clear hq; replace HW : True := trivial; have LX := Lib.hid (HLI.out.kept (HK.out.trans K.out)))
          | (go_at_call 104; refine (HZE.out _ (HK.out.trans K.out) HM0.out).mono ?_; rintro e w1 ⟨rfl, q, hq⟩; replace K := Lib.hid (show Kept W w1 from hq ▸ Kept.drewN K.out q); clear hq)
          | (go_at_call 105; refine (HRI.out _ (HK.out.trans K.out) _ HJ.out).mono ?_; rintro e w1 ⟨X, rfl, hX, q⟩; replace K := Lib.hid (K.out.trans q); replace LX := Lib.hid hX; clear hX q)
          | (go_at_call 102; refine (HPL.out _ _ _ (LX.out.kept (kept_alloc _ _)) (by first | exact Nat.div_le_self _ _ | exact Nat.le_refl _) _ (lim_single _ 1 (by decide) (by decide))).mono ?_; rintro e w1 ⟨X, rfl, hX, q⟩; replace K := Lib.hid (K.out.trans ((kept_alloc _ _).trans q)); replace LX := Lib.hid hX; clear hX q)
          | (go_at_call 80; refine (HF2.out _ _ (HK.out.trans K.out) LX.out).mono ?_; rintro e w2 ⟨q, u, rfl, hd⟩; obtain ⟨A', l', c', rfl, -, hd, g1, g2⟩ := hd.shape; have HD := Lib.hid hd; replace K := Lib.hid (K.out.trans q); clear hd q; have hb := HB.out.kept K.out; obtain ⟨hsz, c0, c1, c2, f0, f1, f2⟩ := hb.facts; have HB2 := Lib.hid hb; clear hb)
          | (go_at_call 89; refine (must_cR _ _ _).mono ?_; rintro e w3 ⟨he, rfl⟩; first | (obtain rfl : e = .returned (.tuple #[]) := he) | (obtain rfl : e = .panicked (failV 104 _) := he)))
        exact ret_dy (blk_alloc (HB2.out.laid _ _ _) _) rfl rfl rfl ⟨(dyW_kept (HK.out.trans K.out) (Nat.le_refl _)).trans (kept_alloc _ _), .inl ⟨HKK.out, _, rfl, ((HD.out.dyW HB2.out (noLimb_bool _) (noLimb_slice _ _ _) (noLimb_i64 _)).kept (kept_alloc _ _)).dyR g1 g2⟩⟩
      · have hkb : (o.raw.k == 0) = false := by rw [beq_eq_false_iff_ne]; exact hk
        have HKK := Lib.hid hk
        clear hk
        go_enter Tryd.func93, Tryd.ntmps93
        go_wp2_with (first
          | (go_at_call 90; rw [← HW.out]; refine (HSZ.out _ HK.out).mono ?_; rintro e w1 ⟨rfl, q, hq⟩; have K := Lib.hid (show Kept W w1 from hq ▸ Kept.drewN (Below.refl W.heap.size W) q); clear hq; replace HW : True := trivial; have LX := Lib.hid (HLI.out.kept (HK.out.trans K.out)))
          | (go_at_call 104; refine (HZE.out _ (HK.out.trans K.out) HM0.out).mono ?_; rintro e w1 ⟨rfl, q, hq⟩; replace K := Lib.hid (show Kept W w1 from hq ▸ Kept.drewN K.out q); clear hq)
          | (go_at_call 105; refine (HRI.out _ (HK.out.trans K.out) _ HJ.out).mono ?_; rintro e w1 ⟨X, rfl, hX, q⟩; replace K := Lib.hid (K.out.trans q); replace LX := Lib.hid hX; clear hX q)
          | (go_at_call 102; refine (HPL.out _ _ _ (LX.out.kept (kept_alloc _ _)) (by first | exact Nat.div_le_self _ _ | exact Nat.le_refl _) _ (lim_single _ 1 (by decide) (by decide))).mono ?_; rintro e w1 ⟨X, rfl, hX, q⟩; replace K := Lib.hid (K.out.trans ((kept_alloc _ _).trans q)); replace LX := Lib.hid hX; clear hX q)
          | (go_at_call 80; refine (HF2.out _ _ (HK.out.trans K.out) LX.out).mono ?_; rintro e w2 ⟨q, u, rfl, hd⟩; obtain ⟨A', l', c', rfl, -, hd, g1, g2⟩ := hd.shape; have HD := Lib.hid hd; replace K := Lib.hid (K.out.trans q); clear hd q; have hb := HB.out.kept K.out; obtain ⟨hsz, c0, c1, c2, f0, f1, f2⟩ := hb.facts; have HB2 := Lib.hid hb; clear hb)
          | (go_at_call 89; refine (must_cR _ _ _).mono ?_; rintro e w3 ⟨he, rfl⟩; first | (obtain rfl : e = .returned (.tuple #[]) := he) | (obtain rfl : e = .panicked (failV 104 _) := he)))
        exact ⟨rfl, (HK.out.trans K.out).trans (kept_alloc _ _), .inr ⟨HKK.out, rfl⟩⟩
    · cases aw
      · rw [Bool.true_and, if_neg (by decide)]
        obtain ⟨o, ho⟩ : ∃ o, o = fitD neg m (e + ((0 : Nat) : Int)) := ⟨_, rfl⟩
        have hf2 := fun w1 u (k : Kept w w1) (hu : Lim w1 u (limbs m)) => HFI.out w1 u m 0 k hu (Nat.le_succ _) HJ.out
        rw [← ho] at hf2 ⊢
        simp only [Int.natCast_zero, Int.add_zero] at hf2 ho
        have HF2 := Lib.hid hf2
        clear ho hf2
        by_cases hk : o.k = 0
        · have hkb : (o.raw.k == 0) = true := by rw [beq_iff_eq]; exact hk
          have HKK := Lib.hid hk
          clear hk
          go_enter Tryd.func93, Tryd.ntmps93
          go_wp2_with (first
            | (go_at_call 90; rw [← HW.out]; refine (HSZ.out _ HK.out).mono ?_; rintro e w1 ⟨rfl, q, hq⟩; have K := Lib.hid (show Kept W w1 from hq ▸ Kept.drewN (Below.refl W.heap.size W) q); clear hq; replace HW : True := trivial; have LX := Lib.hid (HLI.out.kept (HK.out.trans K.out)))
            | (go_at_call 104; refine (HZE.out _ (HK.out.trans K.out) HM0.out).mono ?_; rintro e w1 ⟨rfl, q, hq⟩; replace K := Lib.hid (show Kept W w1 from hq ▸ Kept.drewN K.out q); clear hq)
            | (go_at_call 105; refine (HRI.out _ (HK.out.trans K.out) _ HJ.out).mono ?_; rintro e w1 ⟨X, rfl, hX, q⟩; replace K := Lib.hid (K.out.trans q); replace LX := Lib.hid hX; clear hX q)
            | (go_at_call 102; refine (HPL.out _ _ _ (LX.out.kept (kept_alloc _ _)) (by first | exact Nat.div_le_self _ _ | exact Nat.le_refl _) _ (lim_single _ 1 (by decide) (by decide))).mono ?_; rintro e w1 ⟨X, rfl, hX, q⟩; replace K := Lib.hid (K.out.trans ((kept_alloc _ _).trans q)); replace LX := Lib.hid hX; clear hX q)
            | (go_at_call 80; refine (HF2.out _ _ (HK.out.trans K.out) LX.out).mono ?_; rintro e w2 ⟨q, u, rfl, hd⟩; obtain ⟨A', l', c', rfl, -, hd, g1, g2⟩ := hd.shape; have HD := Lib.hid hd; replace K := Lib.hid (K.out.trans q); clear hd q; have hb := HB.out.kept K.out; obtain ⟨hsz, c0, c1, c2, f0, f1, f2⟩ := hb.facts; have HB2 := Lib.hid hb; clear hb)
            | (go_at_call 89; refine (must_cR _ _ _).mono ?_; rintro e w3 ⟨he, rfl⟩; first | (obtain rfl : e = .returned (.tuple #[]) := he) | (obtain rfl : e = .panicked (failV 104 _) := he)))
          exact ret_dy (blk_alloc (HB2.out.laid _ _ _) _) rfl rfl rfl ⟨(dyW_kept (HK.out.trans K.out) (Nat.le_refl _)).trans (kept_alloc _ _), .inl ⟨HKK.out, _, rfl, ((HD.out.dyW HB2.out (noLimb_bool _) (noLimb_slice _ _ _) (noLimb_i64 _)).kept (kept_alloc _ _)).dyR g1 g2⟩⟩
        · have hkb : (o.raw.k == 0) = false := by rw [beq_eq_false_iff_ne]; exact hk
          have HKK := Lib.hid hk
          clear hk
          go_enter Tryd.func93, Tryd.ntmps93
          go_wp2_with (first
            | (go_at_call 90; rw [← HW.out]; refine (HSZ.out _ HK.out).mono ?_; rintro e w1 ⟨rfl, q, hq⟩; have K := Lib.hid (show Kept W w1 from hq ▸ Kept.drewN (Below.refl W.heap.size W) q); clear hq; replace HW : True := trivial; have LX := Lib.hid (HLI.out.kept (HK.out.trans K.out)))
            | (go_at_call 104; refine (HZE.out _ (HK.out.trans K.out) HM0.out).mono ?_; rintro e w1 ⟨rfl, q, hq⟩; replace K := Lib.hid (show Kept W w1 from hq ▸ Kept.drewN K.out q); clear hq)
            | (go_at_call 105; refine (HRI.out _ (HK.out.trans K.out) _ HJ.out).mono ?_; rintro e w1 ⟨X, rfl, hX, q⟩; replace K := Lib.hid (K.out.trans q); replace LX := Lib.hid hX; clear hX q)
            | (go_at_call 102; refine (HPL.out _ _ _ (LX.out.kept (kept_alloc _ _)) (by first | exact Nat.div_le_self _ _ | exact Nat.le_refl _) _ (lim_single _ 1 (by decide) (by decide))).mono ?_; rintro e w1 ⟨X, rfl, hX, q⟩; replace K := Lib.hid (K.out.trans ((kept_alloc _ _).trans q)); replace LX := Lib.hid hX; clear hX q)
            | (go_at_call 80; refine (HF2.out _ _ (HK.out.trans K.out) LX.out).mono ?_; rintro e w2 ⟨q, u, rfl, hd⟩; obtain ⟨A', l', c', rfl, -, hd, g1, g2⟩ := hd.shape; have HD := Lib.hid hd; replace K := Lib.hid (K.out.trans q); clear hd q; have hb := HB.out.kept K.out; obtain ⟨hsz, c0, c1, c2, f0, f1, f2⟩ := hb.facts; have HB2 := Lib.hid hb; clear hb)
            | (go_at_call 89; refine (must_cR _ _ _).mono ?_; rintro e w3 ⟨he, rfl⟩; first | (obtain rfl : e = .returned (.tuple #[]) := he) | (obtain rfl : e = .panicked (failV 104 _) := he)))
          exact ⟨rfl, (HK.out.trans K.out).trans (kept_alloc _ _), .inr ⟨HKK.out, rfl⟩⟩
      · rw [Bool.true_and, if_pos rfl]
        obtain ⟨o, ho⟩ : ∃ o, o = fitD neg (m + 1) (e + ((0 : Nat) : Int)) := ⟨_, rfl⟩
        have hf2 := fun w1 u (k : Kept w w1) (hu : Lim w1 u (limbs (m + 1))) => HFI.out w1 u (m + 1) 0 k hu (Nat.le_refl _) HJ.out
        rw [← ho] at hf2 ⊢
        simp only [Int.natCast_zero, Int.add_zero] at hf2 ho
        have HF2 := Lib.hid hf2
        clear ho hf2
        by_cases hk : o.k = 0
        · have hkb : (o.raw.k == 0) = true := by rw [beq_iff_eq]; exact hk
          have HKK := Lib.hid hk
          clear hk
          go_enter Tryd.func93, Tryd.ntmps93
          go_wp2_with (first
            | (go_at_call 90; rw [← HW.out]; refine (HSZ.out _ HK.out).mono ?_; rintro e w1 ⟨rfl, q, hq⟩; have K := Lib.hid (show Kept W w1 from hq ▸ Kept.drewN (Below.refl W.heap.size W) q); clear hq; replace HW : True := trivial; have LX := Lib.hid (HLI.out.kept (HK.out.trans K.out)))
            | (go_at_call 104; refine (HZE.out _ (HK.out.trans K.out) HM0.out).mono ?_; rintro e w1 ⟨rfl, q, hq⟩; replace K := Lib.hid (show Kept W w1 from hq ▸ Kept.drewN K.out q); clear hq)
            | (go_at_call 105; refine (HRI.out _ (HK.out.trans K.out) _ HJ.out).mono ?_; rintro e w1 ⟨X, rfl, hX, q⟩; replace K := Lib.hid (K.out.trans q); replace LX := Lib.hid hX; clear hX q)
            | (go_at_call 102; refine (HPL.out _ _ _ (LX.out.kept (kept_alloc _ _)) (by first | exact Nat.div_le_self _ _ | exact Nat.le_refl _) _ (lim_single _ 1 (by decide) (by decide))).mono ?_; rintro e w1 ⟨X, rfl, hX, q⟩; replace K := Lib.hid (K.out.trans ((kept_alloc _ _).trans q)); replace LX := Lib.hid hX; clear hX q)
            | (go_at_call 80; refine (HF2.out _ _ (HK.out.trans K.out) LX.out).mono ?_; rintro e w2 ⟨q, u, rfl, hd⟩; obtain ⟨A', l', c', rfl, -, hd, g1, g2⟩ := hd.shape; have HD := Lib.hid hd; replace K := Lib.hid (K.out.trans q); clear hd q; have hb := HB.out.kept K.out; obtain ⟨hsz, c0, c1, c2, f0, f1, f2⟩ := hb.facts; have HB2 := Lib.hid hb; clear hb)
            | (go_at_call 89; refine (must_cR _ _ _).mono ?_; rintro e w3 ⟨he, rfl⟩; first | (obtain rfl : e = .returned (.tuple #[]) := he) | (obtain rfl : e = .panicked (failV 104 _) := he)))
          exact ret_dy (blk_alloc (HB2.out.laid _ _ _) _) rfl rfl rfl ⟨(dyW_kept (HK.out.trans K.out) (Nat.le_refl _)).trans (kept_alloc _ _), .inl ⟨HKK.out, _, rfl, ((HD.out.dyW HB2.out (noLimb_bool _) (noLimb_slice _ _ _) (noLimb_i64 _)).kept (kept_alloc _ _)).dyR g1 g2⟩⟩
        · have hkb : (o.raw.k == 0) = false := by rw [beq_eq_false_iff_ne]; exact hk
          have HKK := Lib.hid hk
          clear hk
          go_enter Tryd.func93, Tryd.ntmps93
          go_wp2_with (first
            | (go_at_call 90; rw [← HW.out]; refine (HSZ.out _ HK.out).mono ?_; rintro e w1 ⟨rfl, q, hq⟩; have K := Lib.hid (show Kept W w1 from hq ▸ Kept.drewN (Below.refl W.heap.size W) q); clear hq; replace HW : True := trivial; have LX := Lib.hid (HLI.out.kept (HK.out.trans K.out)))
            | (go_at_call 104; refine (HZE.out _ (HK.out.trans K.out) HM0.out).mono ?_; rintro e w1 ⟨rfl, q, hq⟩; replace K := Lib.hid (show Kept W w1 from hq ▸ Kept.drewN K.out q); clear hq)
            | (go_at_call 105; refine (HRI.out _ (HK.out.trans K.out) _ HJ.out).mono ?_; rintro e w1 ⟨X, rfl, hX, q⟩; replace K := Lib.hid (K.out.trans q); replace LX := Lib.hid hX; clear hX q)
            | (go_at_call 102; refine (HPL.out _ _ _ (LX.out.kept (kept_alloc _ _)) (by first | exact Nat.div_le_self _ _ | exact Nat.le_refl _) _ (lim_single _ 1 (by decide) (by decide))).mono ?_; rintro e w1 ⟨X, rfl, hX, q⟩; replace K := Lib.hid (K.out.trans ((kept_alloc _ _).trans q)); replace LX := Lib.hid hX; clear hX q)
            | (go_at_call 80; refine (HF2.out _ _ (HK.out.trans K.out) LX.out).mono ?_; rintro e w2 ⟨q, u, rfl, hd⟩; obtain ⟨A', l', c', rfl, -, hd, g1, g2⟩ := hd.shape; have HD := Lib.hid hd; replace K := Lib.hid (K.out.trans q); clear hd q; have hb := HB.out.kept K.out; obtain ⟨hsz, c0, c1, c2, f0, f1, f2⟩ := hb.facts; have HB2 := Lib.hid hb; clear hb)
            | (go_at_call 89; refine (must_cR _ _ _).mono ?_; rintro e w3 ⟨he, rfl⟩; first | (obtain rfl : e = .returned (.tuple #[]) := he) | (obtain rfl : e = .panicked (failV 104 _) := he)))
          exact ⟨rfl, (HK.out.trans K.out).trans (kept_alloc _ _), .inr ⟨HKK.out, rfl⟩⟩



end Go.Proofs.YtjdplcenniogdaaDoor
