/- Plain mathematics, no program: naturals as lists of digits of sixteen bits, their values, canonical lists (after the text of limbs). -/
import Derived.Test.YtjdplcenniogdaaDoorClaimTurnsp02
namespace Go.Proofs.YtjdplcenniogdaaDoor.Dg


/-- The value of limbs, the least first. -/
def val : List Nat → Nat
  | [] => 0
  | x :: xs => x + 65536 * val xs

def Small (xs : List Nat) : Prop := ∀ x ∈ xs, x < 65536

/-- The canonical limbs of a natural. -/
def limbs (n : Nat) : List Nat := if _h : n = 0 then [] else (n % 65536) :: limbs (n / 65536)
termination_by n
decreasing_by exact Nat.div_lt_self (by omega) (by decide)

theorem limbs_zero : limbs 0 = [] := by rw [limbs]; simp
theorem limbs_pos (n : Nat) (h : n ≠ 0) : limbs n = (n % 65536) :: limbs (n / 65536) := by rw [limbs]; simp [h]

theorem val_limbs (n : Nat) : val (limbs n) = n := by
  induction n using Nat.strongRecOn with
  | _ n ih =>
    by_cases h : n = 0
    · subst h; rw [limbs_zero]; rfl
    · rw [limbs_pos n h, val, ih (n / 65536) (Nat.div_lt_self (by omega) (by decide))]
      exact Nat.mod_add_div n 65536

theorem small_limbs (n : Nat) : Small (limbs n) := by
  induction n using Nat.strongRecOn with
  | _ n ih =>
    by_cases h : n = 0
    · subst h; rw [limbs_zero]; intro x hx; cases hx
    · rw [limbs_pos n h]
      intro x hx
      rcases List.mem_cons.1 hx with rfl | hx
      · exact Nat.mod_lt _ (by decide)
      · exact ih (n / 65536) (Nat.div_lt_self (by omega) (by decide)) x hx

/-- How many limbs are left when the noughts behind place k are struck. -/
def trimN (xs : List Nat) : Nat → Nat
  | 0 => 0
  | k + 1 => if nth xs k = 0 then trimN xs k else k + 1

def tl (xs : List Nat) : Nat := trimN xs xs.length

theorem trimN_le (xs : List Nat) : ∀ k, trimN xs k ≤ k
  | 0 => Nat.le_refl _
  | k + 1 => by
    unfold trimN; split
    · exact Nat.le_succ_of_le (trimN_le xs k)
    · exact Nat.le_refl _

theorem tl_le (xs : List Nat) : tl xs ≤ xs.length := trimN_le xs _


theorem nth_lt {xs : List Nat} (h : Small xs) (i : Nat) : nth xs i < 65536 := by
  unfold nth
  by_cases hi : i < xs.length
  · rw [List.getD_eq_getElem?_getD, List.getElem?_eq_getElem hi]; exact h _ (List.getElem_mem hi)
  · rw [List.getD_eq_getElem?_getD, List.getElem?_eq_none (by omega)]; decide

theorem trimN_cons (x : Nat) (xs : List Nat) : ∀ k, trimN (x :: xs) (k + 1) = if trimN xs k = 0 then (if x = 0 then 0 else 1) else trimN xs k + 1
  | 0 => by simp [trimN, nth]
  | k + 1 => by
    rw [trimN, nth_cons_succ, trimN_cons x xs k, trimN]
    by_cases h : nth xs k = 0
    · simp [h]
    · simp [h]

/-- Trimmed limbs are the canonical ones of their value. -/
theorem take_tl (xs : List Nat) (h : Small xs) : xs.take (tl xs) = limbs (val xs) := by
  induction xs with
  | nil => simp [tl, trimN, val, limbs_zero]
  | cons x xs ih =>
    have hx : x < 65536 := h x (List.mem_cons_self)
    have hs : Small xs := fun y hy => h y (List.mem_cons_of_mem _ hy)
    have ih' := ih hs
    have ht : tl (x :: xs) = if tl xs = 0 then (if x = 0 then 0 else 1) else tl xs + 1 := trimN_cons x xs xs.length
    have hv : tl xs = 0 ↔ val xs = 0 := by
      constructor
      · intro h0
        rw [h0] at ih'
        have := val_limbs (val xs)
        rw [← ih'] at this
        simpa [val] using this.symm
      · intro h0
        rw [h0, limbs_zero] at ih'
        have h1 := congrArg List.length ih'
        have h2 := tl_le xs
        rw [List.length_take, List.length_nil] at h1
        omega
    by_cases h0 : val xs = 0
    · rw [ht, if_pos (hv.2 h0)]
      by_cases hx0 : x = 0
      · simp [hx0, val, h0, limbs_zero]
      · rw [if_neg hx0, val, h0]
        have e1 : (x + 65536 * 0) % 65536 = x := by omega
        have e2 : (x + 65536 * 0) / 65536 = 0 := by omega
        rw [limbs_pos _ (by omega), e1, e2, limbs_zero]
        simp
    · rw [ht, if_neg (fun h => h0 (hv.1 h)), List.take_succ_cons, ih', val]
      rw [limbs_pos (x + 65536 * val xs) (by omega)]
      have e1 : (x + 65536 * val xs) % 65536 = x := by omega
      have e2 : (x + 65536 * val xs) / 65536 = val xs := by omega
      rw [e1, e2]

theorem length_limbs (n : Nat) : (limbs n).length = if n = 0 then 0 else Nat.log2 n / 16 + 1 := by
  induction n using Nat.strongRecOn with
  | _ n ih =>
    by_cases h : n = 0
    · subst h; simp [limbs_zero]
    · rw [limbs_pos n h, List.length_cons, ih (n / 65536) (Nat.div_lt_self (by omega) (by decide)), if_neg h]
      by_cases h1 : n / 65536 = 0
      · rw [if_pos h1]
        have : Nat.log2 n < 16 := (Nat.log2_lt h).2 (by omega)
        omega
      · rw [if_neg h1]
        have key : Nat.log2 n = Nat.log2 (n / 65536) + 16 := by
          have a1 := Nat.log2_self_le h1
          have a2 := Nat.lt_log2_self (n := n / 65536)
          have b1 : 2 ^ (Nat.log2 (n / 65536) + 16) ≤ n := by
            rw [Nat.pow_add]
            calc 2 ^ Nat.log2 (n / 65536) * 2 ^ 16 ≤ (n / 65536) * 2 ^ 16 := Nat.mul_le_mul_right _ a1
              _ ≤ n := Nat.div_mul_le_self n 65536
          have b2 : n < 2 ^ (Nat.log2 (n / 65536) + 16 + 1) := by
            have : n < (n / 65536 + 1) * 65536 := by
              have := Nat.lt_mul_div_succ n (show 0 < 65536 by decide)
              rw [Nat.mul_comm] at this; exact this
            calc n < (n / 65536 + 1) * 65536 := this
              _ ≤ 2 ^ (Nat.log2 (n / 65536) + 1) * 65536 := Nat.mul_le_mul_right _ a2
              _ = 2 ^ (Nat.log2 (n / 65536) + 16 + 1) := by rw [show Nat.log2 (n / 65536) + 16 + 1 = (Nat.log2 (n / 65536) + 1) + 16 by omega, Nat.pow_add _ _ 16]
          have c1 := (Nat.le_log2 h).2 b1
          have c2 := (Nat.log2_lt h).2 b2
          omega
        rw [key]
        omega



/-- Compare from the top. -/
def cmpTop (xs ys : List Nat) : Nat → Int
  | 0 => 0
  | k + 1 => if nth xs k = nth ys k then cmpTop xs ys k else if nth xs k < nth ys k then -1 else 1

theorem val_append (xs ys : List Nat) : val (xs ++ ys) = val xs + 65536 ^ xs.length * val ys := by
  induction xs with
  | nil => simp [val]
  | cons x xs ih =>
    rw [List.cons_append, val, ih, val, List.length_cons, Nat.pow_succ]
    generalize 65536 ^ xs.length = p
    rw [Nat.mul_add, Nat.add_assoc]
    congr 2
    rw [← Nat.mul_assoc, Nat.mul_comm p]

theorem val_lt (xs : List Nat) (h : Small xs) : val xs < 65536 ^ xs.length := by
  induction xs with
  | nil => simp [val]
  | cons x xs ih =>
    have hx : x < 65536 := h x (List.mem_cons_self)
    have := ih (fun y hy => h y (List.mem_cons_of_mem _ hy))
    rw [val, List.length_cons, Nat.pow_succ]
    generalize 65536 ^ xs.length = p at *
    omega

theorem small_take {xs : List Nat} (h : Small xs) (k : Nat) : Small (xs.take k) := fun x hx => h x (List.mem_of_mem_take hx)
theorem small_drop {xs : List Nat} (h : Small xs) (k : Nat) : Small (xs.drop k) := fun x hx => h x (List.mem_of_mem_drop hx)


/-- Value of the first k + 1 limbs. -/
theorem val_take_succ (xs : List Nat) (k : Nat) (h : k < xs.length) : val (xs.take (k + 1)) = val (xs.take k) + 65536 ^ k * nth xs k := by
  rw [take_succ_nth xs k h, val_append, List.length_take, Nat.min_eq_left (by omega)]
  simp [val]

theorem cmpTop_val (xs ys : List Nat) (hx : Small xs) (hy : Small ys) : ∀ k, k ≤ xs.length → k ≤ ys.length → cmpTop xs ys k = cmpN (val (xs.take k)) (val (ys.take k))
  | 0, _, _ => by simp [cmpTop, cmpN]
  | k + 1, h1, h2 => by
    have ih := cmpTop_val xs ys hx hy k (by omega) (by omega)
    rw [cmpTop, val_take_succ xs k (by omega), val_take_succ ys k (by omega), ih]
    have a := val_lt _ (small_take hx k)
    have b := val_lt _ (small_take hy k)
    rw [List.length_take, Nat.min_eq_left (by omega)] at a b
    generalize 65536 ^ k = p at *
    generalize val (xs.take k) = u at *
    generalize val (ys.take k) = v at *
    generalize nth xs k = x
    generalize nth ys k = y
    by_cases e : x = y
    · subst e
      rw [if_pos rfl]
      unfold cmpN
      simp only [Nat.add_lt_add_iff_right, Nat.add_right_cancel_iff]
    · rw [if_neg e]
      by_cases l : x < y
      · rw [if_pos l]
        have : p * (x + 1) ≤ p * y := Nat.mul_le_mul_left _ l
        rw [Nat.mul_add] at this
        unfold cmpN
        rw [if_pos (by omega)]
      · rw [if_neg l]
        have : p * (y + 1) ≤ p * x := Nat.mul_le_mul_left _ (by omega)
        rw [Nat.mul_add] at this
        unfold cmpN
        rw [if_neg (by omega), if_neg (by omega)]

theorem lt_pow_length (n : Nat) : n < 65536 ^ (limbs n).length := by
  have := val_lt _ (small_limbs n)
  rwa [val_limbs] at this

theorem pow_length_le (n : Nat) (h : n ≠ 0) : 65536 ^ ((limbs n).length - 1) ≤ n := by
  induction n using Nat.strongRecOn with
  | _ n ih =>
    rw [limbs_pos n h, List.length_cons, Nat.add_sub_cancel]
    by_cases h1 : n / 65536 = 0
    · rw [h1, limbs_zero]; simp; omega
    · have := ih _ (Nat.div_lt_self (by omega) (by decide)) h1
      have hl : 0 < (limbs (n / 65536)).length := by rw [limbs_pos _ h1]; simp
      obtain ⟨l, hl⟩ : ∃ l, (limbs (n / 65536)).length = l + 1 := ⟨_, (Nat.succ_pred_eq_of_pos hl).symm⟩
      rw [hl] at this ⊢
      rw [Nat.add_sub_cancel] at this
      rw [Nat.pow_succ]
      generalize 65536 ^ l = p at *
      omega

/-- Longer canonical limbs are greater. -/
theorem cmpN_length (n m : Nat) (h : (limbs n).length < (limbs m).length) : n < m := by
  have a := lt_pow_length n
  have hm : m ≠ 0 := by rintro rfl; rw [limbs_zero] at h; simp at h
  have b := pow_length_le m hm
  have c : 65536 ^ (limbs n).length ≤ 65536 ^ ((limbs m).length - 1) := Nat.pow_le_pow_right (by decide) (by omega)
  omega

theorem cmpTop_limbs (n m : Nat) (h : (limbs n).length = (limbs m).length) : cmpTop (limbs n) (limbs m) (limbs n).length = cmpN n m := by
  rw [cmpTop_val _ _ (small_limbs n) (small_limbs m) _ (Nat.le_refl _) (by omega), List.take_of_length_le (Nat.le_refl _), List.take_of_length_le (by omega), val_limbs, val_limbs]

theorem limbs_last (n : Nat) (h : n ≠ 0) : nth (limbs n) ((limbs n).length - 1) ≠ 0 := by
  induction n using Nat.strongRecOn with
  | _ n ih =>
    rw [limbs_pos n h, List.length_cons, Nat.add_sub_cancel]
    by_cases h1 : n / 65536 = 0
    · rw [h1, limbs_zero]; simp [nth]; omega
    · have hl : 0 < (limbs (n / 65536)).length := by rw [limbs_pos _ h1]; simp
      have := ih _ (Nat.div_lt_self (by omega) (by decide)) h1
      obtain ⟨l, hl⟩ : ∃ l, (limbs (n / 65536)).length = l + 1 := ⟨_, (Nat.succ_pred_eq_of_pos hl).symm⟩
      rw [hl] at this ⊢
      rw [nth_cons_succ]; exact this

theorem length_limbs_pos (n : Nat) (h : n ≠ 0) : 0 < (limbs n).length := by rw [limbs_pos n h]; simp

/-- The top limb tells the bits. -/
theorem bl_top (n : Nat) (h : n ≠ 0) : bl n = 16 * ((limbs n).length - 1) + bl (nth (limbs n) ((limbs n).length - 1)) := by
  induction n using Nat.strongRecOn with
  | _ n ih =>
    rw [limbs_pos n h, List.length_cons, Nat.add_sub_cancel]
    by_cases h1 : n / 65536 = 0
    · rw [h1, limbs_zero]
      have : n % 65536 = n := by omega
      simp [nth, this]
    · have hl : 0 < (limbs (n / 65536)).length := by rw [limbs_pos _ h1]; simp
      have IH := ih _ (Nat.div_lt_self (by omega) (by decide)) h1
      obtain ⟨l, hl⟩ : ∃ l, (limbs (n / 65536)).length = l + 1 := ⟨_, (Nat.succ_pred_eq_of_pos hl).symm⟩
      rw [hl, Nat.add_sub_cancel] at IH
      rw [hl, nth_cons_succ]
      have key : bl n = bl (n / 65536) + 16 := by
        obtain ⟨q, hq⟩ : ∃ q, bl (n / 65536) = q + 1 := ⟨bl (n / 65536) - 1, by have := bl_pos _ h1; omega⟩
        have a := two_bl_le _ h1
        have b := lt_two_bl (n / 65536)
        rw [hq] at a b ⊢
        rw [Nat.add_sub_cancel] at a
        have := bl_eq n (q + 16) (by rw [Nat.pow_add]; have : (2:Nat) ^ 16 = 65536 := by decide
                                     rw [this]; omega) (by rw [show q + 16 + 1 = (q + 1) + 16 by omega, Nat.pow_add]; have : (2:Nat) ^ 16 = 65536 := by decide
                                                           rw [this]; omega)
        omega
      omega

end Go.Proofs.YtjdplcenniogdaaDoor.Dg
