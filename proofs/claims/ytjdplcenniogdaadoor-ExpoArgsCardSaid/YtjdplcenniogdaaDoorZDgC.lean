/- Contracts of package sluicewayref1, first part: trim, May, Bits, Cmp. -/
import Derived.Test.YtjdplcenniogdaaDoorZDgB
import Derived.Test.YtjdplcenniogdaaDoorClaimTurnsp05
namespace Go.Proofs.YtjdplcenniogdaaDoor
open Go.RowKit

set_option maxHeartbeats 1000000 in
set_option maxRecDepth 100000 in
theorem qmayN_c {w : World} {v : Value} {xs : List Nat} (hv : Lim w v xs) (hl : xs.length ≤ 17592186044416) :
    Calls Tryd.prog 36 #[v] w (RetQ (.bool (mayN xs)) w) := by
  obtain ⟨hs, A, c, rfl, hc, hA⟩ := hv
  unfold mayN
  by_cases h0 : xs.length = 0
  · rw [h0]
    clear hs hA
    have HL := Lib.hid h0
    clear h0 hl hc
    go_enter Tryd.func36, Tryd.ntmps36
    go_wp2_with fail
    go_ret
    exact RetQ.mk0 _ _
  · obtain ⟨b, off, rfl, hb, hcell⟩ := hA (by omega)
    have hck := hcell (xs.length - 1) (by omega)
    clear hcell hs hA hb
    generalize nth xs (xs.length - 1) = x at *
    generalize xs.length = m at *
    obtain ⟨l, rfl⟩ : ∃ l, m = l + 1 := ⟨m - 1, by omega⟩
    clear h0
    rw [Nat.add_sub_cancel] at hck
    have e0 : (l + 1 == 0) = false := by simp
    rw [e0, Bool.false_or]
    clear e0
    have e1 : (((l + 1 : Nat) : Int) == 0) = false := by simp; omega
    by_cases h1 : l + 1 ≤ 64
    · have d1 : decide (l + 1 ≤ 64) = true := by simpa using h1
      rw [d1, Bool.true_and]
      have e3 : (x != 0) = (((x : Nat) : Int) != 0) := by
        by_cases hx : x = 0
        · subst hx; rfl
        · have : ((x : Nat) : Int) ≠ 0 := by omega
          rw [bne_iff_ne.2 hx, bne_iff_ne.2 this]
      rw [e3]
      clear e3 d1
      go_enter Tryd.func36, Tryd.ntmps36
      go_wp2_with fail
      go_ret
      exact RetQ.mk0 _ _
    · have d1 : decide (l + 1 ≤ 64) = false := by simpa using h1
      rw [d1, Bool.false_and]
      clear d1
      go_enter Tryd.func36, Tryd.ntmps36
      go_wp2_with fail
      go_ret
      exact RetQ.mk0 _ _

namespace Dg

set_option maxHeartbeats 1000000 in
set_option maxRecDepth 100000 in
theorem trim_c {w : World} {v : Value} {xs : List Nat} (hv : Lim w v xs) (hl : xs.length ≤ 17592186044416) :
    Calls Tryd.prog 109 #[v] w (RetLimQ (limbs (val xs)) w) := by
  have hv' := hv
  obtain ⟨hs, A, c, rfl, hc, hA⟩ := hv
  refine Calls.mono (R := fun e w' => e = .returned (.slice A (tl xs) c) ∧ w = w') ?_ (fun e w' ⟨he, hw⟩ => ⟨_, he, hv'.trimmed, hw⟩)
  clear hv'
  have HA := Lib.hid hA
  clear hA hs
  generalize hn : xs.length = n at *
  have htl : tl xs = trimN xs n := by unfold tl; rw [hn]
  rw [htl]
  clear hn htl
  go_enter Tryd.func109, Tryd.ntmps109
  go_wp2_with fail
  go_loop [3] (fun s => ∃ k : Nat, k ≤ n ∧ s = .int .i64 k ∧ trimN xs k = trimN xs n) (fun s => (intOf s).toNat)
  case atStart => exact ⟨n, Nat.le_refl _, rfl, rfl⟩
  case round =>
    obtain ⟨k, hk, rfl, ht⟩ := hrel
    have HT := Lib.hid ht
    clear ht
    cases k with
    | zero =>
      go_wp2_with fail
      go_ret
      exact ⟨by rw [← HT.out]; rfl, rfl⟩
    | succ k =>
      obtain ⟨b, off, rfl, hb, hcell⟩ := HA.out (by omega)
      have hck := hcell k (by omega)
      clear hcell
      by_cases hz : nth xs k = 0
      · rw [hz] at hck
        have HZ := Lib.hid hz
        clear hz
        go_wp2_with fail
        go_round
        case rel => exact ⟨k, by omega, by go_num, by rw [← HT.out, trimN, if_pos HZ.out]⟩
        case measure => simp [intOf]
      · have hz' : ((nth xs k : Int) == 0) = false := by simp; omega
        have HZ := Lib.hid hz
        clear hz
        go_wp2_with fail
        go_ret
        exact ⟨by rw [← HT.out, trimN, if_neg HZ.out]; rfl, rfl⟩

theorem bl_half {x : Nat} (h : x ≠ 0) : bl x = bl (x / 2) + 1 := by
  by_cases h1 : x / 2 = 0
  · have : x = 1 := by omega
    subst this
    rfl
  · obtain ⟨q, hq⟩ : ∃ q, bl (x / 2) = q + 1 := ⟨bl (x / 2) - 1, by have := bl_pos _ h1; omega⟩
    have a := two_bl_le _ h1
    have b := lt_two_bl (x / 2)
    rw [hq] at a b ⊢
    rw [Nat.add_sub_cancel] at a
    exact bl_eq x (q + 1) (by rw [Nat.pow_succ]; omega) (by rw [Nat.pow_succ]; omega)

set_option maxHeartbeats 1000000 in
set_option maxRecDepth 100000 in
theorem bits_c {w : World} {v : Value} {n : Nat} (hv : Lim w v (limbs n)) (hl : (limbs n).length ≤ 17592186044416) :
    Calls Tryd.prog 76 #[v] w (RetQ (.int .i64 (bl n)) w) := by
  obtain ⟨hs, A, c, rfl, hc, hA⟩ := hv
  by_cases h0 : n = 0
  · subst h0
    rw [limbs_zero]
    clear hs hA hc hl
    have e : ((bl 0 : Nat) : Int) = 0 := rfl
    rw [e]
    clear e
    go_enter Tryd.func76, Tryd.ntmps76
    go_wp2_with fail
    go_ret
    exact RetQ.mk0 _ _
  · have hp := length_limbs_pos n h0
    obtain ⟨b, off, rfl, hb, hcell⟩ := hA hp
    have hck := hcell ((limbs n).length - 1) (by omega)
    have hlt := nth_lt hs ((limbs n).length - 1)
    have hbl : bl n = 16 * ((limbs n).length - 1) + bl (nth (limbs n) ((limbs n).length - 1)) := bl_top n h0
    have hb16 : bl (nth (limbs n) ((limbs n).length - 1)) ≤ 16 := bl_le _ 16 hlt
    rw [hbl]
    clear hcell hs hA hb hbl h0
    generalize nth (limbs n) ((limbs n).length - 1) = x at *
    generalize (limbs n).length = m at *
    obtain ⟨l, rfl⟩ : ∃ l, m = l + 1 := ⟨m - 1, by omega⟩
    clear hp
    rw [Nat.add_sub_cancel] at *
    have e1 : (((l + 1 : Nat) : Int) == 0) = false := by simp; omega
    go_enter Tryd.func76, Tryd.ntmps76
    go_wp2_with fail
    go_loop [3, 4] (fun s t => ∃ i y : Nat, s = .int .i64 i ∧ t = .int .u32 y ∧ y < 65536 ∧ i + bl y = 16 * l + bl x) (fun _ t => (intOf t).toNat)
    case atStart => exact ⟨16 * l, x, by go_num, rfl, hlt, rfl⟩
    case round =>
      obtain ⟨i, y, rfl, rfl, hy, ht⟩ := hrel
      have HT := Lib.hid ht
      clear ht
      by_cases hz : y = 0
      · subst hz
        have HT' := HT.out
        rw [bl_zero] at HT'
        go_wp2_with fail
        go_ret
        exact ⟨ret_int (by omega), 0, rfl⟩
      · have hz' : decide ((0 : Int) < (y : Int)) = true := by simp; omega
        have hz2 : decide (0 < y) = true := by simp; omega
        have hz3 : 0 < y := by omega
        have HB := Lib.hid (bl_half hz)
        have HZ := Lib.hid hz
        have hi : i < 281474976710657 := by have := HT.out; omega
        clear hz
        go_wp2_with fail
        go_round
        case rel => exact ⟨i + 1, y / 2, by go_num, by go_num, by omega, by have := HT.out; have := HB.out; omega⟩
        case measure => simp [intOf]; omega

theorem nth_limbs_lt (n i : Nat) : nth (limbs n) i < 65536 := nth_lt (small_limbs n) i

set_option maxHeartbeats 2000000 in
set_option maxRecDepth 100000 in
theorem cmp_c {w : World} {v u : Value} {n m : Nat} (hv : Lim w v (limbs n)) (hu : Lim w u (limbs m)) (hl : (limbs n).length ≤ 17592186044416) (_hl : (limbs m).length ≤ 17592186044416) :
    Calls Tryd.prog 77 #[v, u] w (RetQ (.int .i64 (cmpN n m)) w) := by
  obtain ⟨hs, A, c, rfl, hc, hA⟩ := hv
  obtain ⟨hs', A', c', rfl, hc', hA'⟩ := hu
  by_cases hne : (limbs n).length = (limbs m).length
  · have ht := cmpTop_limbs n m hne
    rw [← ht]
    have HA := Lib.hid hA
    have HA' := Lib.hid hA'
    rw [← hne] at HA' hc' ⊢
    clear hA hA' hs hs' ht hne
    have hx := nth_limbs_lt n
    have hy := nth_limbs_lt m
    generalize limbs n = xs at *
    generalize limbs m = ys at *
    generalize hnx : xs.length = l at *
    clear hnx
    have HX := Lib.hid hx
    have HY := Lib.hid hy
    clear hx hy
    have en : (((l : Nat) : Int) != (l : Int)) = false := by simp
    go_enter Tryd.func77, Tryd.ntmps77
    go_wp2_with fail
    go_loopw [5] (fun i wr => ∃ k : Nat, k ≤ l ∧ i = .int .i64 ((k : Int) - 1) ∧ (∃ q, wr = w.drewN q) ∧ cmpTop xs ys k = cmpTop xs ys l) (fun i _ => (intOf i + 1).toNat)
    case atStart => exact ⟨l, Nat.le_refl _, rfl, ⟨0, rfl⟩, rfl⟩
    case round =>
      obtain ⟨k, hk, rfl, ⟨q, rfl⟩, ht⟩ := hrel
      have HT := Lib.hid ht
      clear ht
      cases k with
      | zero =>
        go_wp2_with fail
        go_ret
        refine ⟨?_, q, rfl⟩
        rw [← HT.out]; rfl
      | succ k =>
        obtain ⟨b, off, rfl, hb, hcell⟩ := HA.out (by omega)
        have hck := hcell k (by omega)
        clear hcell
        obtain ⟨b', off', rfl, hb', hcell⟩ := HA'.out (by omega)
        have hck' := hcell k (by omega)
        have hkl : k < l := by omega
        have hxk := HX.out k
        have hyk := HY.out k
        clear hcell
        have HE := Lib.hid (show cmpTop xs ys (k + 1) = if nth xs k = nth ys k then cmpTop xs ys k else if nth xs k < nth ys k then -1 else 1 from rfl)
        generalize nth xs k = x at *
        generalize nth ys k = y at *
        by_cases he : x = y
        · subst he
          have e1 : decide (x < x) = false := by simp
          go_wp2_with fail
          go_quiet (fail)
          go_wp2_with fail
          go_quiet (fail)
          go_wp2_with fail
          go_roundw
          case rel => exact ⟨k, by omega, by go_num, ⟨_, rfl⟩, by rw [← HT.out, HE.out]; simp⟩
          case measure => simp [intOf]
        · have HN := Lib.hid he
          by_cases hlt : x < y
          · clear he
            have e2 : decide (x < y) = true := by simp; omega
            go_wp2_with fail
            go_quiet (fail)
            go_wp2_with fail
            go_ret
            refine ⟨ret_int ?_, by simp only [World.drewN_drewN]; exact ⟨_, rfl⟩⟩
            rw [← HT.out, HE.out, if_neg HN.out, if_pos hlt]
          · have e2 : decide (x < y) = false := by simp; omega
            have e3 : decide (y < x) = true := by simp; omega
            clear he
            go_wp2_with fail
            go_quiet (fail)
            go_wp2_with fail
            go_quiet (fail)
            go_wp2_with fail
            go_ret
            refine ⟨ret_int ?_, by simp only [World.drewN_drewN]; exact ⟨_, rfl⟩⟩
            rw [← HT.out, HE.out, if_neg HN.out, if_neg hlt]
  · have en : ((((limbs n).length : Nat) : Int) != ((limbs m).length : Int)) = true := by simp; omega
    have hcm : cmpN n m = if (limbs n).length < (limbs m).length then -1 else 1 := by
      by_cases hlt : (limbs n).length < (limbs m).length
      · have := cmpN_length n m hlt
        simp [cmpN, hlt, this]
      · have := cmpN_length m n (by omega)
        simp only [cmpN, hlt]
        rw [if_neg (by omega), if_neg (by omega)]; rfl
    rw [hcm]
    clear hcm hne hA hA' hs hs'
    generalize (limbs n).length = l at *
    generalize (limbs m).length = l' at *
    by_cases hlt : l < l'
    · rw [if_pos hlt]
      have ed : decide (l < l') = true := by simp; omega
      go_enter Tryd.func77, Tryd.ntmps77
      go_wp2_with fail
      go_ret
      exact ⟨rfl, 0, rfl⟩
    · rw [if_neg hlt]
      have ed : decide (l < l') = false := by simp; omega
      go_enter Tryd.func77, Tryd.ntmps77
      go_wp2_with fail
      go_ret
      exact ⟨rfl, 0, rfl⟩

end Dg
end Go.Proofs.YtjdplcenniogdaaDoor
