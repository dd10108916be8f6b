/- Plain mathematics, no program: a quotient's half digit (math/bits.Div64). -/
import Derived.Test.YtgododcbmkpbjaaGreatDoorClaimJknop02
set_option maxRecDepth 100000
set_option maxHeartbeats 16000000
namespace Go.Proofs.YtgododcbmkpbjaaGreatDoor
theorem nth_set (xs : List Nat) (i j y : Nat) (hi : i < xs.length) : nth (xs.set i y) j = if i = j then y else nth xs j := by
 unfold nth
 rw [List.getD_eq_getElem?_getD, List.getD_eq_getElem?_getD, List.getElem?_set]
 by_cases e : i = j
 ·subst e; simp [hi]
 ·simp [e]
theorem nth_ge (xs : List Nat) (i : Nat) (h : xs.length ≤ i) : nth xs i = 0 := by
 unfold nth; rw [List.getD_eq_getElem?_getD, List.getElem?_eq_none h]; rfl
theorem val_set (xs : List Nat) (i y : Nat) (hi : i < xs.length) : val (xs.set i y) + 18446744073709551616 ^ i * nth xs i = val xs + 18446744073709551616 ^ i * y := by
 induction xs generalizing i with
 | nil => simp at hi
 | cons x xs ih =>
   cases i with
   | zero => simp [val, nth]; omega
   | succ i =>
     have := ih i (by simpa using hi)
     rw [List.set_cons_succ, val, val, nth_cons_succ, Nat.pow_succ]
     generalize 18446744073709551616 ^ i = p at *
     generalize val (xs.set i y) = a at *
     generalize val xs = b at *
     generalize nth xs i = c at *
     have e1 : p * 18446744073709551616 * c = 18446744073709551616 * (p * c) := by rw [Nat.mul_right_comm, Nat.mul_comm]
     have e2 : p * 18446744073709551616 * y = 18446744073709551616 * (p * y) := by rw [Nat.mul_right_comm, Nat.mul_comm]
     rw [e1, e2]
     omega
theorem small_set {xs : List Nat} (h : Small xs) (i y : Nat) (hy : y < 18446744073709551616) : Small (xs.set i y) := by
 intro x hx
 rcases List.mem_or_eq_of_mem_set hx with h' | rfl
 ·exact h x h'
 ·exact hy
theorem small_replicate (n : Nat) : Small (List.replicate n 0) := by
 intro x hx
 rw [(List.mem_replicate.1 hx).2]; decide
theorem val_replicate (n : Nat) : val (List.replicate n 0) = 0 := by
 induction n with
 | zero => rfl
 | succ n ih => rw [List.replicate_succ, val, ih]
theorem nth_replicate (n i : Nat) : nth (List.replicate n 0) i = 0 := by
 unfold nth
 rw [List.getD_eq_getElem?_getD, List.getElem?_replicate]
 split <;> rfl
theorem or_lt {a b : Nat} (ha : a < 18446744073709551616) (hb : b < 18446744073709551616) : a ||| b < 18446744073709551616 := Nat.or_lt_two_pow (n := 64) ha hb
/-- One round of Left. -/
def leftStep (out : List Nat) (q r i x : Nat) : List Nat :=
 (out.set (q + i) (nth out (q + i) ||| (x * 2 ^ r % 18446744073709551616))).set (q + i + 1) (nth out (q + i + 1) ||| (x / 2 / 2 ^ (63 - r)))
def leftF (xs : List Nat) (q r n : Nat) : Nat → List Nat
 | 0 => List.replicate n 0
 | k + 1 => leftStep (leftF xs q r n k) q r k (nth xs k)
theorem leftF_length (xs : List Nat) (q r n : Nat) : ∀ k, (leftF xs q r n k).length = n
 | 0 => by simp [leftF]
 | k + 1 => by simp [leftF, leftStep, leftF_length xs q r n k]
theorem leftF_small (xs : List Nat) (h : Small xs) (q r n : Nat) : ∀ k, Small (leftF xs q r n k)
 | 0 => small_replicate n
 | k + 1 => by
   have ih := leftF_small xs h q r n k
   unfold leftF leftStep
   refine small_set (small_set ih _ _ (or_lt (nth_lt ih _) (Nat.mod_lt _ (by decide)))) _ _ (or_lt (nth_lt ih _) ?_)
   refine Nat.lt_of_le_of_lt (Nat.div_le_self _ _) (Nat.lt_of_le_of_lt (Nat.div_le_self _ _) (nth_lt h _))
theorem shift_parts (x r : Nat) (hr : r < 64) : x / 2 / 2 ^ (63 - r) = x * 2 ^ r / 18446744073709551616 := by
 rw [Nat.div_div_eq_div_mul]
 have e : (18446744073709551616 : Nat) = 2 * 2 ^ (63 - r) * 2 ^ r := by
  rw [Nat.mul_assoc, ← Nat.pow_add, show 63 - r + r = 63 by omega]
 rw [e, Nat.mul_div_mul_right _ _ (Nat.pow_pos (by decide))]
theorem or_carry (c x r : Nat) (hr : r < 64) (hc : c < 2 ^ r) : c ||| (x * 2 ^ r % 18446744073709551616) = c + x * 2 ^ r % 18446744073709551616 := by
 have e : (18446744073709551616 : Nat) = 2 ^ (64 - r) * 2 ^ r := by
  rw [← Nat.pow_add, show 64 - r + r = 64 by omega]
 rw [e, Nat.mul_mod_mul_right, Nat.mul_comm, Nat.or_comm, ← Nat.two_pow_add_eq_or_of_lt hc, Nat.add_comm]
theorem leftF_inv (xs : List Nat) (h : Small xs) (q r n : Nat) (hr : r < 64) (hn : n = q + xs.length + 1) : ∀ k, k ≤ xs.length →
 val (leftF xs q r n k) = val (xs.take k) * 2 ^ r * 18446744073709551616 ^ q ∧ nth (leftF xs q r n k) (q + k) < 2 ^ r ∧ ∀ j, q + k < j → nth (leftF xs q r n k) j = 0
 | 0, _ => by
   refine ⟨by simp [leftF, val_replicate, val], ?_, fun j _ => ?_⟩
   ·rw [leftF, nth_replicate]; exact Nat.pow_pos (by decide)
   ·rw [leftF, nth_replicate]
 | k + 1, hk => by
   obtain ⟨i1, i2, i3⟩ := leftF_inv xs h q r n hr hn k (by omega)
   have hl := leftF_length xs q r n k
   have hx := nth_lt h k
   rw [leftF]
   generalize leftF xs q r n k = out at *
   unfold leftStep
   have h0 := i3 (q + k + 1) (by omega)
   rw [h0, Nat.zero_or, shift_parts _ r hr, or_carry _ _ r hr i2]
   have hx2 : nth xs k * 2 ^ r / 18446744073709551616 < 2 ^ r := by
    rw [Nat.div_lt_iff_lt_mul (by decide), Nat.mul_comm (2 ^ r)]
    exact Nat.mul_lt_mul_of_pos_right hx (Nat.pow_pos (by decide))
   generalize hX : nth xs k * 2 ^ r = X at *
   have l1 : q + k < out.length := by omega
   have l2 : q + k + 1 < (out.set (q + k) (nth out (q + k) + X % 18446744073709551616)).length := by rw [List.length_set]; omega
   refine ⟨?_, ?_, fun j hj => ?_⟩
   ·have v1 := val_set out (q + k) (nth out (q + k) + X % 18446744073709551616) l1
    have v2 := val_set _ (q + k + 1) (X / 18446744073709551616) l2
    rw [nth_set _ _ _ _ l1, if_neg (by omega), h0] at v2
    rw [val_take_succ xs k (by omega), Nat.add_mul, Nat.add_mul, ← i1, Nat.mul_assoc (18446744073709551616 ^ k), hX]
    rw [Nat.pow_succ] at v2
    have e3 : 18446744073709551616 ^ k * X * 18446744073709551616 ^ q = 18446744073709551616 ^ (q + k) * X := by rw [Nat.mul_right_comm, ← Nat.pow_add, Nat.add_comm k q]
    rw [e3]
    have e4 : 18446744073709551616 ^ (q + k) * X = 18446744073709551616 ^ (q + k) * 18446744073709551616 * (X / 18446744073709551616) + 18446744073709551616 ^ (q + k) * (X % 18446744073709551616) := by
     rw [Nat.mul_assoc, ← Nat.mul_add, Nat.div_add_mod]
    rw [e4]
    rw [Nat.mul_add] at v1
    generalize 18446744073709551616 ^ (q + k) * 18446744073709551616 * (X / 18446744073709551616) = a at *
    generalize 18446744073709551616 ^ (q + k) * (X % 18446744073709551616) = b at *
    generalize 18446744073709551616 ^ (q + k) * nth out (q + k) = c at *
    omega
   ·rw [← Nat.add_assoc, nth_set _ _ _ _ l2, if_pos rfl]; exact hx2
   ·rw [nth_set _ _ _ _ l2, if_neg (by omega), nth_set _ _ _ _ l1, if_neg (by omega)]
    exact i3 j (by omega)
theorem two_pow_split (n : Nat) : 2 ^ n = 2 ^ (n % 64) * 18446744073709551616 ^ (n / 64) := by
 have e : (18446744073709551616 : Nat) = 2 ^ 64 := by decide
 rw [e, ← Nat.pow_mul, ← Nat.pow_add, Nat.mod_add_div]
/-- What Left computes. -/
theorem leftF_val (xs : List Nat) (h : Small xs) (n : Nat) : val (leftF xs (n / 64) (n % 64) (n / 64 + xs.length + 1) xs.length) = val xs * 2 ^ n := by
 have := (leftF_inv xs h (n / 64) (n % 64) _ (Nat.mod_lt _ (by decide)) rfl xs.length (Nat.le_refl _)).1
 rw [this, List.take_of_length_le (Nat.le_refl _), Nat.mul_assoc, ← two_pow_split]
/-- Rounds of Plus: the limbs and the carry. -/
def addS (out ys : List Nat) : Nat → List Nat × Nat
 | 0 => (out, 0)
 | k + 1 => let s := addS out ys k
   (s.1.set k ((nth s.1 k + nth ys k + s.2) % 18446744073709551616), (nth s.1 k + nth ys k + s.2) / 18446744073709551616)
theorem addS_succ (out ys : List Nat) (k : Nat) : addS out ys (k + 1) = ((addS out ys k).1.set k ((nth (addS out ys k).1 k + nth ys k + (addS out ys k).2) % 18446744073709551616), (nth (addS out ys k).1 k + nth ys k + (addS out ys k).2) / 18446744073709551616) := rfl
theorem addS_length (out ys : List Nat) : ∀ k, (addS out ys k).1.length = out.length
 | 0 => rfl
 | k + 1 => by rw [addS_succ, List.length_set, addS_length out ys k]
theorem addS_small (out ys : List Nat) (h : Small out) : ∀ k, Small (addS out ys k).1
 | 0 => h
 | k + 1 => by rw [addS_succ]; exact small_set (addS_small out ys h k) _ _ (Nat.mod_lt _ (by decide))
theorem addS_carry (out ys : List Nat) (h : Small out) (h' : Small ys) : ∀ k, (addS out ys k).2 ≤ 1
 | 0 => by simp [addS]
 | k + 1 => by
   have a := addS_carry out ys h h' k
   have b := nth_lt (addS_small out ys h k) k
   have c := nth_lt h' k
   rw [addS_succ]
   show (nth (addS out ys k).1 k + nth ys k + (addS out ys k).2) / 18446744073709551616 ≤ 1
   omega
theorem val_take_succ' (xs : List Nat) (k : Nat) : val (xs.take (k + 1)) = val (xs.take k) + 18446744073709551616 ^ k * nth xs k := by
 by_cases h : k < xs.length
 ·exact val_take_succ xs k h
 ·rw [List.take_of_length_le (by omega), List.take_of_length_le (by omega), nth_ge xs k (by omega)]; rfl
theorem addS_val (out ys : List Nat) : ∀ k, k ≤ out.length → val (addS out ys k).1 + 18446744073709551616 ^ k * (addS out ys k).2 = val out + val (ys.take k)
 | 0, _ => by simp [addS, val]
 | k + 1, hk => by
   have ih := addS_val out ys k (by omega)
   have hl := addS_length out ys k
   rw [addS_succ, val_take_succ']
   generalize addS out ys k = s at *
   obtain ⟨o, c⟩ := s
   simp only at *
   generalize hT : nth o k + nth ys k + c = T
   have v := val_set o k (T % 18446744073709551616) (by omega)
   have e : 18446744073709551616 ^ (k + 1) * (T / 18446744073709551616) + 18446744073709551616 ^ k * (T % 18446744073709551616) = 18446744073709551616 ^ k * T := by
    rw [Nat.pow_succ, Nat.mul_assoc, ← Nat.mul_add, Nat.div_add_mod]
   have e2 : 18446744073709551616 ^ k * T = 18446744073709551616 ^ k * nth o k + 18446744073709551616 ^ k * nth ys k + 18446744073709551616 ^ k * c := by
    rw [← hT, Nat.mul_add, Nat.mul_add]
   omega
/-- Once there is no carry and nothing more to add, nothing changes. -/
theorem addS_stop (out ys : List Nat) (h : Small out) (k : Nat) (hy : ys.length ≤ k) (hc : (addS out ys k).2 = 0) : ∀ d, k + d ≤ out.length → addS out ys (k + d) = ((addS out ys k).1, 0)
 | 0, _ => by rw [Nat.add_zero, ← hc]
 | d + 1, hd => by
   have ih := addS_stop out ys h k hy hc d (by omega)
   have hlt := nth_lt (addS_small out ys h k) (k + d)
   have hl := addS_length out ys k
   rw [← Nat.add_assoc, addS_succ, ih, nth_ge ys (k + d) (by omega)]
   simp only [Nat.add_zero]
   rw [Nat.mod_eq_of_lt hlt, Nat.div_eq_of_lt hlt]
   congr 1
   apply List.ext_getElem
   ·simp
   ·intro i h1 h2
    rw [List.getElem_set]
    split
    ·rename_i e; subst e; rw [nth, List.getD_eq_getElem?_getD, List.getElem?_eq_getElem h2]; rfl
    ·rfl
/-- What Plus computes. -/
theorem addS_all (xs ys : List Nat) (h : Small xs) (h' : Small ys) (hle : ys.length ≤ xs.length) : val (addS (xs ++ [0]) ys (xs.length + 1)).1 = val xs + val ys := by
 have hs : Small (xs ++ [0]) := by
  intro x hx
  rcases List.mem_append.1 hx with hx | hx
  ·exact h x hx
  ·have : x = 0 := by simpa using hx
   omega
 have a := addS_val (xs ++ [0]) ys (xs.length + 1) (by simp)
 rw [List.take_of_length_le (by omega), val_append, Nat.pow_succ] at a
 have b := val_lt _ h
 have c := val_lt _ h'
 have d : 18446744073709551616 ^ ys.length ≤ 18446744073709551616 ^ xs.length := Nat.pow_le_pow_right (by decide) hle
 have e : val [0] = 0 := by simp [val]
 rw [e, Nat.mul_zero, Nat.add_zero] at a
 generalize (addS (xs ++ [0]) ys (xs.length + 1)).2 = q at *
 generalize (addS (xs ++ [0]) ys (xs.length + 1)).1 = o at *
 generalize 18446744073709551616 ^ xs.length = p at *
 generalize 18446744073709551616 ^ ys.length = p' at *
 have hq : q = 0 := by
  by_cases hq : q = 0
  ·exact hq
  ·have : p * 18446744073709551616 * 1 ≤ p * 18446744073709551616 * q := Nat.mul_le_mul_left _ (by omega)
   omega
 rw [hq, Nat.mul_zero, Nat.add_zero] at a
 exact a
end Go.Proofs.YtgododcbmkpbjaaGreatDoor
namespace Go.Proofs.YtgododcbmkpbjaaGreatDoor
/-- Rounds of Minus: the limbs and the borrow. -/
def subS (out ys : List Nat) : Nat → List Nat × Nat
 | 0 => (out, 0)
 | k + 1 => let s := subS out ys k
   (s.1.set k ((nth s.1 k + 18446744073709551616 - nth ys k - s.2) % 18446744073709551616), if nth s.1 k < nth ys k + s.2 then 1 else 0)
theorem subS_succ (out ys : List Nat) (k : Nat) : subS out ys (k + 1) = ((subS out ys k).1.set k ((nth (subS out ys k).1 k + 18446744073709551616 - nth ys k - (subS out ys k).2) % 18446744073709551616), if nth (subS out ys k).1 k < nth ys k + (subS out ys k).2 then 1 else 0) := rfl
theorem subS_length (out ys : List Nat) : ∀ k, (subS out ys k).1.length = out.length
 | 0 => rfl
 | k + 1 => by rw [subS_succ, List.length_set, subS_length out ys k]
theorem subS_small (out ys : List Nat) (h : Small out) : ∀ k, Small (subS out ys k).1
 | 0 => h
 | k + 1 => by rw [subS_succ]; exact small_set (subS_small out ys h k) _ _ (Nat.mod_lt _ (by decide))
theorem subS_borrow (out ys : List Nat) : ∀ k, (subS out ys k).2 ≤ 1
 | 0 => by simp [subS]
 | k + 1 => by
   rw [subS_succ]
   show (if _ then 1 else 0) ≤ 1
   split <;> omega
theorem subS_val (out ys : List Nat) (h : Small out) (h' : Small ys) : ∀ k, k ≤ out.length → val (subS out ys k).1 + val (ys.take k) = val out + 18446744073709551616 ^ k * (subS out ys k).2
 | 0, _ => by simp [subS, val]
 | k + 1, hk => by
   have ih := subS_val out ys h h' k (by omega)
   have hl := subS_length out ys k
   have hx := nth_lt (subS_small out ys h k) k
   have hy := nth_lt h' k
   have hb := subS_borrow out ys k
   rw [subS_succ, val_take_succ', Nat.pow_succ]
   generalize subS out ys k = s at *
   obtain ⟨o, c⟩ := s
   simp only at *
   generalize nth ys k = y at *
   have v := val_set o k ((nth o k + 18446744073709551616 - y - c) % 18446744073709551616) (by omega)
   generalize nth o k = x at *
   generalize 18446744073709551616 ^ k = p at *
   by_cases hlt : x < y + c
   ·rw [if_pos hlt, Nat.mod_eq_of_lt (by omega)] at *
    have e : p * (x + 18446744073709551616 - y - c) + p * y + p * c = p * x + p * 18446744073709551616 := by
     rw [← Nat.mul_add, ← Nat.mul_add, ← Nat.mul_add]; congr 1; omega
    rw [Nat.mul_one]
    omega
   ·have e0 : (x + 18446744073709551616 - y - c) % 18446744073709551616 = x - y - c := by omega
    rw [if_neg hlt]
    rw [e0] at v ⊢
    have e : p * (x - y - c) + p * y + p * c = p * x := by
     rw [← Nat.mul_add, ← Nat.mul_add]; congr 1; omega
    rw [Nat.mul_zero, Nat.add_zero]
    omega
/-- What Minus computes. -/
theorem subS_all (xs ys : List Nat) (h : Small xs) (h' : Small ys) (hle : ys.length ≤ xs.length) (hv : val ys ≤ val xs) : val (subS xs ys xs.length).1 = val xs - val ys := by
 have a := subS_val xs ys h h' xs.length (Nat.le_refl _)
 rw [List.take_of_length_le hle] at a
 have b := val_lt _ (subS_small xs ys h xs.length)
 rw [subS_length] at b
 have c := subS_borrow xs ys xs.length
 generalize (subS xs ys xs.length).2 = q at *
 have hq : q = 0 := by
  by_cases hq : q = 0
  ·exact hq
  ·obtain rfl : q = 1 := by omega
   rw [Nat.mul_one] at a
   omega
 rw [hq, Nat.mul_zero, Nat.add_zero] at a
 omega
/-- One step of a row of Times: the limb, the carry. -/
theorem mul_step (p c z : Nat) :
 (z + (p % 18446744073709551616 + c) % 18446744073709551616) % 18446744073709551616 = (p + c + z) % 18446744073709551616 ∧
 p / 18446744073709551616 + (p % 18446744073709551616 + c) / 18446744073709551616 + (z + (p % 18446744073709551616 + c) % 18446744073709551616) / 18446744073709551616 = (p + c + z) / 18446744073709551616 := by
 omega
theorem mul_bound (x y c z : Nat) (hx : x < 18446744073709551616) (hy : y < 18446744073709551616) (hc : c < 18446744073709551616) (hz : z < 18446744073709551616) : (x * y + c + z) / 18446744073709551616 < 18446744073709551616 := by
 have : x * y ≤ 18446744073709551615 * 18446744073709551615 := Nat.mul_le_mul (by omega) (by omega)
 omega
/-- A row of Times: the limbs and the carry. -/
def rowS (out : List Nat) (i x : Nat) (ys : List Nat) : Nat → List Nat × Nat
 | 0 => (out, 0)
 | j + 1 => let s := rowS out i x ys j
   (s.1.set (i + j) ((x * nth ys j + s.2 + nth s.1 (i + j)) % 18446744073709551616), (x * nth ys j + s.2 + nth s.1 (i + j)) / 18446744073709551616)
theorem rowS_succ (out : List Nat) (i x : Nat) (ys : List Nat) (j : Nat) : rowS out i x ys (j + 1) = ((rowS out i x ys j).1.set (i + j) ((x * nth ys j + (rowS out i x ys j).2 + nth (rowS out i x ys j).1 (i + j)) % 18446744073709551616), (x * nth ys j + (rowS out i x ys j).2 + nth (rowS out i x ys j).1 (i + j)) / 18446744073709551616) := rfl
theorem rowS_length (out : List Nat) (i x : Nat) (ys : List Nat) : ∀ j, (rowS out i x ys j).1.length = out.length
 | 0 => rfl
 | j + 1 => by rw [rowS_succ, List.length_set, rowS_length out i x ys j]
theorem rowS_small (out : List Nat) (i x : Nat) (ys : List Nat) (h : Small out) : ∀ j, Small (rowS out i x ys j).1
 | 0 => h
 | j + 1 => by rw [rowS_succ]; exact small_set (rowS_small out i x ys h j) _ _ (Nat.mod_lt _ (by decide))
theorem rowS_carry (out : List Nat) (i x : Nat) (ys : List Nat) (h : Small out) (h' : Small ys) (hx : x < 18446744073709551616) : ∀ j, (rowS out i x ys j).2 < 18446744073709551616
 | 0 => by simp [rowS]
 | j + 1 => by
   rw [rowS_succ]
   exact mul_bound _ _ _ _ hx (nth_lt h' j) (rowS_carry out i x ys h h' hx j) (nth_lt (rowS_small out i x ys h j) _)
theorem rowS_nth (out : List Nat) (i x : Nat) (ys : List Nat) : ∀ j k, i + j ≤ k → i + j ≤ out.length → nth (rowS out i x ys j).1 k = nth out k
 | 0, _, _, _ => rfl
 | j + 1, k, h, hk => by
   rw [rowS_succ]
   show nth ((rowS out i x ys j).1.set (i + j) _) k = _
   rw [nth_set _ _ _ _ (by rw [rowS_length]; omega), if_neg (by omega)]
   exact rowS_nth out i x ys j k (by omega) (by omega)
theorem rowS_val (out : List Nat) (i x : Nat) (ys : List Nat) : ∀ j, i + j ≤ out.length →
 val (rowS out i x ys j).1 + 18446744073709551616 ^ (i + j) * (rowS out i x ys j).2 = val out + 18446744073709551616 ^ i * (x * val (ys.take j))
 | 0, _ => by simp [rowS, val]
 | j + 1, hj => by
   have ih := rowS_val out i x ys j (by omega)
   have hl := rowS_length out i x ys j
   rw [rowS_succ, val_take_succ', ← Nat.add_assoc, Nat.pow_succ, Nat.mul_add, Nat.mul_add, ← Nat.add_assoc, ← ih]
   generalize rowS out i x ys j = s at *
   obtain ⟨o, c⟩ := s
   simp only at *
   generalize hT : x * nth ys j + c + nth o (i + j) = T
   have v := val_set o (i + j) (T % 18446744073709551616) (by omega)
   have e1 : 18446744073709551616 ^ i * (x * (18446744073709551616 ^ j * nth ys j)) = 18446744073709551616 ^ (i + j) * (x * nth ys j) := by
    rw [Nat.pow_add, ← Nat.mul_assoc x, Nat.mul_comm x, Nat.mul_assoc, Nat.mul_assoc]
   rw [e1]
   generalize 18446744073709551616 ^ (i + j) = p at *
   have e : p * 18446744073709551616 * (T / 18446744073709551616) + p * (T % 18446744073709551616) = p * T := by
    rw [Nat.mul_assoc, ← Nat.mul_add, Nat.div_add_mod]
   have e2 : p * T = p * (x * nth ys j) + p * c + p * nth o (i + j) := by rw [← hT, Nat.mul_add, Nat.mul_add]
   omega
/-- A round of Times. -/
def mulF (xs ys : List Nat) (n : Nat) : Nat → List Nat
 | 0 => List.replicate n 0
 | i + 1 => let s := rowS (mulF xs ys n i) i (nth xs i) ys ys.length
   s.1.set (i + ys.length) s.2
theorem mulF_succ (xs ys : List Nat) (n i : Nat) : mulF xs ys n (i + 1) = (rowS (mulF xs ys n i) i (nth xs i) ys ys.length).1.set (i + ys.length) (rowS (mulF xs ys n i) i (nth xs i) ys ys.length).2 := rfl
theorem mulF_length (xs ys : List Nat) (n : Nat) : ∀ i, (mulF xs ys n i).length = n
 | 0 => by simp [mulF]
 | i + 1 => by rw [mulF_succ, List.length_set, rowS_length, mulF_length xs ys n i]
theorem mulF_small (xs ys : List Nat) (n : Nat) (h : Small xs) (h' : Small ys) : ∀ i, Small (mulF xs ys n i)
 | 0 => small_replicate n
 | i + 1 => by
   have ih := mulF_small xs ys n h h' i
   rw [mulF_succ]
   exact small_set (rowS_small _ _ _ _ ih _) _ _ (rowS_carry _ _ _ _ ih h' (nth_lt h i) _)
theorem mulF_inv (xs ys : List Nat) (h : Small xs) (h' : Small ys) : ∀ i, i ≤ xs.length →
 val (mulF xs ys (xs.length + ys.length) i) = val (xs.take i) * val ys ∧ ∀ k, i + ys.length ≤ k → nth (mulF xs ys (xs.length + ys.length) i) k = 0
 | 0, _ => by
   refine ⟨by simp [mulF, val_replicate, val], fun k _ => ?_⟩
   rw [mulF, nth_replicate]
 | i + 1, hi => by
   obtain ⟨i1, i2⟩ := mulF_inv xs ys h h' i (by omega)
   have hl := mulF_length xs ys (xs.length + ys.length) i
   rw [mulF_succ]
   generalize mulF xs ys (xs.length + ys.length) i = out at *
   have v := rowS_val out i (nth xs i) ys ys.length (by omega)
   have hn := rowS_nth out i (nth xs i) ys ys.length
   have hrl := rowS_length out i (nth xs i) ys ys.length
   generalize rowS out i (nth xs i) ys ys.length = s at *
   obtain ⟨o, c⟩ := s
   simp only at *
   have v2 := val_set o (i + ys.length) c (by omega)
   rw [hn _ (Nat.le_refl _) (by omega), i2 _ (Nat.le_refl _), Nat.mul_zero, Nat.add_zero] at v2
   refine ⟨?_, fun k hk => ?_⟩
   ·rw [List.take_of_length_le (Nat.le_refl _)] at v
    rw [val_take_succ xs i (by omega), Nat.add_mul, ← i1, Nat.mul_assoc, ← v]
    exact v2
   ·rw [nth_set _ _ _ _ (by omega), if_neg (by omega), hn k (by omega) (by omega), i2 k (by omega)]
/-- What Times computes. -/
theorem mulF_val (xs ys : List Nat) (h : Small xs) (h' : Small ys) : val (mulF xs ys (xs.length + ys.length) xs.length) = val xs * val ys := by
 rw [(mulF_inv xs ys h h' xs.length (Nat.le_refl _)).1, List.take_of_length_le (Nat.le_refl _)]
/-- Limbs of Right: of what is left of the limbs, r bits further down. -/
def rightL (xs : List Nat) (r i : Nat) : Nat := if i + 1 < xs.length then (nth xs i / 2 ^ r) ||| (nth xs (i + 1) * 2 % 18446744073709551616 * 2 ^ (63 - r) % 18446744073709551616) else nth xs i / 2 ^ r
def rightF (xs : List Nat) (r : Nat) : Nat → List Nat
 | 0 => List.replicate xs.length 0
 | k + 1 => (rightF xs r k).set k (rightL xs r k)
theorem rightF_length (xs : List Nat) (r : Nat) : ∀ k, (rightF xs r k).length = xs.length
 | 0 => by simp [rightF]
 | k + 1 => by rw [rightF, List.length_set, rightF_length xs r k]
theorem rightL_eq (xs : List Nat) (h : Small xs) (r i : Nat) (hr : r < 64) : rightL xs r i = nth xs i / 2 ^ r + nth xs (i + 1) * 2 ^ (64 - r) % 18446744073709551616 := by
 have e64 : (18446744073709551616 : Nat) = 2 ^ (64 - r) * 2 ^ r := by
  rw [← Nat.pow_add, show 64 - r + r = 64 by omega]
 unfold rightL
 by_cases hi : i + 1 < xs.length
 ·rw [if_pos hi]
  have e1 : nth xs (i + 1) * 2 % 18446744073709551616 * 2 ^ (63 - r) % 18446744073709551616 = nth xs (i + 1) * 2 ^ (64 - r) % 18446744073709551616 := by
   rw [Nat.mod_mul_mod, Nat.mul_assoc, show (64 - r) = (63 - r) + 1 by omega, Nat.pow_succ, Nat.mul_comm 2]
  have e2 : nth xs i / 2 ^ r < 2 ^ (64 - r) := by
   rw [Nat.div_lt_iff_lt_mul (Nat.pow_pos (by decide)), ← e64]; exact nth_lt h i
  rw [e1]
  have e3 : nth xs (i + 1) * 2 ^ (64 - r) % 18446744073709551616 = 2 ^ (64 - r) * (nth xs (i + 1) % 2 ^ r) := by
   rw [e64, Nat.mul_comm (nth xs (i + 1)), Nat.mul_mod_mul_left]
  rw [e3, Nat.or_comm, ← Nat.two_pow_add_eq_or_of_lt e2, Nat.add_comm]
 ·rw [if_neg hi, nth_ge xs (i + 1) (by omega), Nat.zero_mul, Nat.zero_mod, Nat.add_zero]
theorem rightL_lt (xs : List Nat) (h : Small xs) (r i : Nat) (_hr : r < 64) : rightL xs r i < 18446744073709551616 := by
 unfold rightL
 have a := nth_lt h i
 have b : nth xs i / 2 ^ r ≤ nth xs i := Nat.div_le_self _ _
 split
 ·exact or_lt (by omega) (Nat.mod_lt _ (by decide))
 ·omega
theorem rightF_small (xs : List Nat) (h : Small xs) (r : Nat) (hr : r < 64) : ∀ k, Small (rightF xs r k)
 | 0 => small_replicate _
 | k + 1 => small_set (rightF_small xs h r hr k) _ _ (rightL_lt xs h r k hr)
theorem rightF_nth (xs : List Nat) (r : Nat) : ∀ k j, k ≤ xs.length → nth (rightF xs r k) j = if j < k then rightL xs r j else 0
 | 0, j, _ => by rw [rightF, nth_replicate, if_neg (by omega)]
 | k + 1, j, hk => by
   rw [rightF, nth_set _ _ _ _ (by rw [rightF_length]; omega), rightF_nth xs r k j (by omega)]
   by_cases e : k = j
   ·subst e; rw [if_pos rfl, if_pos (by omega)]
   ·rw [if_neg e]
    by_cases h2 : j < k
    ·rw [if_pos h2, if_pos (by omega)]
    ·rw [if_neg h2, if_neg (by omega)]
/-- The value of the limbs of Right, times 2^r, and the bits that fall. -/
theorem right_take (xs : List Nat) (h : Small xs) (r : Nat) (hr : r < 64) (o : List Nat) (ho : ∀ j, j < xs.length → nth o j = rightL xs r j) : ∀ k, k ≤ xs.length → k ≤ o.length →
 val (o.take k) * 2 ^ r + nth xs 0 % 2 ^ r = val (xs.take k) + 18446744073709551616 ^ k * (nth xs k % 2 ^ r)
 | 0, _, _ => by simp [val]
 | k + 1, hk, hk' => by
   have ih := right_take xs h r hr o ho k (by omega) (by omega)
   have e64 : (18446744073709551616 : Nat) = 2 ^ (64 - r) * 2 ^ r := by
    rw [← Nat.pow_add, show 64 - r + r = 64 by omega]
   rw [val_take_succ o k (by omega), val_take_succ xs k (by omega), ho k (by omega), rightL_eq xs h r k hr, Nat.add_mul, Nat.pow_succ]
   have e3 : nth xs (k + 1) * 2 ^ (64 - r) % 18446744073709551616 * 2 ^ r = 18446744073709551616 * (nth xs (k + 1) % 2 ^ r) := by
    rw [e64, Nat.mul_comm (nth xs (k + 1)), Nat.mul_mod_mul_left, Nat.mul_right_comm]
   have e4 : nth xs k / 2 ^ r * 2 ^ r + nth xs k % 2 ^ r = nth xs k := by rw [Nat.mul_comm]; exact Nat.div_add_mod _ _
   generalize 18446744073709551616 ^ k = p at *
   have e5 : p * (nth xs k / 2 ^ r + nth xs (k + 1) * 2 ^ (64 - r) % 18446744073709551616) * 2 ^ r = p * (nth xs k / 2 ^ r * 2 ^ r) + p * (18446744073709551616 * (nth xs (k + 1) % 2 ^ r)) := by
    rw [Nat.mul_assoc, Nat.add_mul, e3, Nat.mul_add]
   rw [e5, ← Nat.mul_assoc p 18446744073709551616]
   have e6 : p * nth xs k = p * (nth xs k / 2 ^ r * 2 ^ r) + p * (nth xs k % 2 ^ r) := by rw [← Nat.mul_add, e4]
   omega
/-- What Right computes of limbs, r below 64. -/
theorem rightF_val (xs : List Nat) (h : Small xs) (r : Nat) (hr : r < 64) : val (rightF xs r xs.length) = val xs / 2 ^ r := by
 have hl := rightF_length xs r xs.length
 have := right_take xs h r hr (rightF xs r xs.length) (fun j hj => by rw [rightF_nth xs r _ j (Nat.le_refl _), if_pos hj]) xs.length (Nat.le_refl _) (by omega)
 rw [List.take_of_length_le (by omega), List.take_of_length_le (Nat.le_refl _), nth_ge xs xs.length (Nat.le_refl _), Nat.zero_mod, Nat.mul_zero, Nat.add_zero] at this
 have hlt : nth xs 0 % 2 ^ r < 2 ^ r := Nat.mod_lt _ (Nat.pow_pos (by decide))
 rw [← this, Nat.add_comm, Nat.add_mul_div_right _ _ (Nat.pow_pos (by decide)), Nat.div_eq_of_lt hlt, Nat.zero_add]
theorem val_drop (xs : List Nat) (h : Small xs) (k : Nat) : val (xs.drop k) = val xs / 18446744073709551616 ^ k := by
 by_cases hk : k ≤ xs.length
 ·have e := val_append (xs.take k) (xs.drop k)
  rw [List.take_append_drop, List.length_take, Nat.min_eq_left hk] at e
  have b := val_lt _ (small_take h k)
  rw [List.length_take, Nat.min_eq_left hk] at b
  rw [e, Nat.add_mul_div_left _ _ (Nat.pow_pos (by decide)), Nat.div_eq_of_lt b, Nat.zero_add]
 ·rw [List.drop_eq_nil_of_le (by omega), Nat.div_eq_of_lt]
  ·rfl
  ·exact Nat.lt_of_lt_of_le (val_lt _ h) (Nat.pow_le_pow_right (by decide) (by omega))
/-- What Right computes. -/
theorem right_all (xs : List Nat) (h : Small xs) (n : Nat) : val (rightF (xs.drop (n / 64)) (n % 64) (xs.drop (n / 64)).length) = val xs / 2 ^ n := by
 rw [rightF_val _ (small_drop h _) _ (Nat.mod_lt _ (by decide)), val_drop xs h, Nat.div_div_eq_div_mul, two_pow_split n, Nat.mul_comm]
end Go.Proofs.YtgododcbmkpbjaaGreatDoor
namespace Go.Proofs.YtgododcbmkpbjaaGreatDoor
/-- W is 2^32; Y is yn1 W + yn0, at least W W / 2; u is below Y: what the correcting loop keeps. -/
structure HalfInv (u d yn1 yn0 q r : Nat) : Prop where
 sum : u = q * yn1 + r
 ge : (u * 4294967296 + d) / (yn1 * 4294967296 + yn0) ≤ q
theorem half_start (u d yn1 yn0 : Nat) (hd : d < 4294967296) (h1 : 0 < yn1) : HalfInv u d yn1 yn0 (u / yn1) (u % yn1) := by
 refine ⟨by rw [Nat.mul_comm]; exact (Nat.div_add_mod u yn1).symm, ?_⟩
 have e : (u * 4294967296 + d) / (yn1 * 4294967296) = u / yn1 := by
  rw [Nat.mul_comm yn1, ← Nat.div_div_eq_div_mul]
  congr 1
  omega
 rw [← e]
 exact Nat.div_le_div_left (by omega) (by omega)
/-- The test says no: it is the quotient. -/
theorem half_done {u d yn1 yn0 q r : Nat} (h : HalfInv u d yn1 yn0 q r) (h1 : 0 < yn1) (hc : q * yn0 ≤ 4294967296 * r + d) : q = (u * 4294967296 + d) / (yn1 * 4294967296 + yn0) := by
 refine Nat.le_antisymm ?_ h.ge
 rw [Nat.le_div_iff_mul_le (by omega), h.sum, Nat.mul_add, Nat.add_mul, Nat.mul_assoc q yn1, ← Nat.mul_assoc]
 have : r * 4294967296 = 4294967296 * r := Nat.mul_comm _ _
 omega
/-- The test says yes: one less is not too little. -/
theorem half_less {u d yn1 yn0 q r : Nat} (h : HalfInv u d yn1 yn0 q r) (hu : u < yn1 * 4294967296 + yn0) (hd : d < 4294967296) (_h1 : 0 < yn1) (hc : 4294967296 ≤ q ∨ 4294967296 * r + d < q * yn0) :
 1 ≤ q ∧ HalfInv u d yn1 yn0 (q - 1) (r + yn1) := by
 have key : (u * 4294967296 + d) / (yn1 * 4294967296 + yn0) < q := by
  rw [Nat.div_lt_iff_lt_mul (by omega)]
  rcases hc with hc | hc
  ·have : 4294967296 * (yn1 * 4294967296 + yn0) ≤ q * (yn1 * 4294967296 + yn0) := Nat.mul_le_mul_right _ hc
   omega
  ·rw [h.sum, Nat.mul_add, Nat.add_mul, ← Nat.mul_assoc]
   have : r * 4294967296 = 4294967296 * r := Nat.mul_comm _ _
   omega
 have h1 : 1 ≤ q := Nat.lt_of_le_of_lt (Nat.zero_le _) key
 refine ⟨h1, ?_, Nat.le_sub_one_of_lt key⟩
 have hs := h.sum
 clear key hc h
 obtain ⟨k, rfl⟩ : ∃ k, q = k + 1 := ⟨q - 1, by omega⟩
 rw [Nat.add_sub_cancel, hs, Nat.add_mul]
 omega
/-- The rest has grown beyond a half digit: it is the quotient. -/
theorem half_break {u d yn1 yn0 q r : Nat} (h : HalfInv u d yn1 yn0 q r) (hu : u < yn1 * 4294967296 + yn0) (h0 : yn0 < 4294967296) (h1 : 0 < yn1) (hr : 4294967296 ≤ r) : q = (u * 4294967296 + d) / (yn1 * 4294967296 + yn0) := by
 have hq : q < 4294967296 := by
  have a : q * yn1 < yn1 * 4294967296 := by have := h.sum; omega
  rw [Nat.mul_comm] at a
  exact Nat.lt_of_mul_lt_mul_left a
 refine half_done h h1 ?_
 have : q * yn0 ≤ 4294967296 * 4294967296 := Nat.mul_le_mul (by omega) (by omega)
 omega
/-- What is left, reckoned with wraps. -/
theorem half_rest (u d Y q : Nat) (hY : Y < 18446744073709551616) (h0 : 0 < Y) (hq : q = (u * 4294967296 + d) / Y) :
 (((u * 4294967296 : Int) + d) - q * Y) % 18446744073709551616 = (((u * 4294967296 + d) % Y : Nat) : Int) := by
 have a := Nat.div_add_mod (u * 4294967296 + d) Y
 rw [← hq] at a
 have b := Nat.mod_lt (u * 4294967296 + d) h0
 have c : (q : Int) * Y = ((Y * q : Nat) : Int) := by rw [Int.natCast_mul, Int.mul_comm]
 rw [c]
 generalize Y * q = p at *
 generalize (u * 4294967296 + d) % Y = t at *
 omega
/-- Two half digits are the quotient and the rest. -/
theorem two_halves (N Y lo hi : Nat) (h0 : 0 < Y) (hN : N = hi * 4294967296 + lo) (_hl : lo < 4294967296) :
 N / Y = hi / Y * 4294967296 + (hi % Y * 4294967296 + lo) / Y ∧ N % Y = (hi % Y * 4294967296 + lo) % Y := by
 have a := Nat.div_add_mod hi Y
 have e : N = Y * (hi / Y * 4294967296) + (hi % Y * 4294967296 + lo) := by
  rw [hN, ← Nat.mul_assoc, ← Nat.add_assoc, ← Nat.add_mul, a]
 rw [e]
 exact ⟨by rw [Nat.mul_add_div h0], by rw [Nat.mul_add_mod]⟩
/-- A number shifted up, in two limbs. -/
theorem shift_two (hi lo y s : Nat) (hs : s < 64) (hlo : lo < 18446744073709551616) (hlt : hi < y) :
 (hi * 18446744073709551616 + lo) * 2 ^ s = (hi * 2 ^ s + lo / 2 ^ (64 - s)) * 18446744073709551616 + lo * 2 ^ s % 18446744073709551616 ∧ hi * 2 ^ s + lo / 2 ^ (64 - s) < y * 2 ^ s ∧ lo / 2 ^ (64 - s) < 2 ^ s ∧ lo / 2 ^ (64 - s) = lo * 2 ^ s / 18446744073709551616 := by
 have e64 : (18446744073709551616 : Nat) = 2 ^ (64 - s) * 2 ^ s := by
  rw [← Nat.pow_add, show 64 - s + s = 64 by omega]
 have e1 : lo / 2 ^ (64 - s) = lo * 2 ^ s / 18446744073709551616 := by
  rw [e64, Nat.mul_div_mul_right _ _ (Nat.pow_pos (by decide))]
 have h2 : lo / 2 ^ (64 - s) < 2 ^ s := by
  rw [Nat.div_lt_iff_lt_mul (Nat.pow_pos (by decide)), Nat.mul_comm (2 ^ s), ← e64]; exact hlo
 refine ⟨?_, ?_, h2, e1⟩
 ·have := Nat.div_add_mod (lo * 2 ^ s) 18446744073709551616
  rw [← e1] at this
  rw [Nat.add_mul, Nat.add_mul, Nat.mul_right_comm]
  omega
 ·have : (hi + 1) * 2 ^ s ≤ y * 2 ^ s := Nat.mul_le_mul_right _ hlt
  rw [Nat.add_mul] at this
  omega
theorem half_bound (u d Y : Nat) (hu : u < Y) (hd : d < 4294967296) : (u * 4294967296 + d) / Y < 4294967296 := by
 rw [Nat.div_lt_iff_lt_mul (by omega)]
 omega
end Go.Proofs.YtgododcbmkpbjaaGreatDoor
