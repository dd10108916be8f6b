/- Plain mathematics, no program: comparison of Dyads as the program does it; intervals and reckoning with them. -/
import Derived.Test.YtgododcbmkpbjaaGreatDoorClaimJrulp02
set_option maxRecDepth 100000
set_option maxHeartbeats 16000000
namespace Go.Proofs.YtgododcbmkpbjaaGreatDoor
def isqF (n : Nat) : Nat → Nat → Nat
 | 0,x => x
 | f + 1,x => if x ≤ (x + n / x) / 2 then x else isqF n f ((x + n / x) / 2)
def isq (n : Nat) : Nat := if n = 0 then 0 else isqF n (2 ^ ((bl n + 1) / 2)) (2 ^ ((bl n + 1) / 2))
end Go.Proofs.YtgododcbmkpbjaaGreatDoor
namespace Go.Proofs.YtgododcbmkpbjaaGreatDoor
def pw (e : Int) : Rat := (2 : Rat) ^ e
theorem pw_pos (e : Int) : 0 < pw e := Rat.zpow_pos (by decide)
theorem pw_add (a b : Int) : pw (a + b) = pw a * pw b := Rat.zpow_add (by decide) a b
theorem pw_zero : pw 0 = 1 := Rat.zpow_zero _
theorem pw_one : pw 1 = 2 := Rat.zpow_one _
theorem pw_nat (n : Nat) : pw (n : Int) = ((2 ^ n : Nat) : Rat) := by
 unfold pw;rw [Rat.zpow_natCast,Rat.natCast_pow];rfl
theorem pw_neg (e : Int) : pw e * pw (-e) = 1 := by rw [← pw_add,Int.add_right_neg,pw_zero]
theorem pw_cancel (y : Rat) (i : Int) : y * pw (-i) * pw i = y := by rw [Rat.mul_assoc,Rat.mul_comm (pw (-i)),pw_neg,Rat.mul_one]
theorem pw_nonneg (e : Int) : 0 ≤ pw e := Rat.le_of_lt (pw_pos e)
theorem pw_ne (e : Int) : pw e ≠ 0 := by have := pw_pos e;grind
theorem pw_split {a b : Int} (h : a ≤ b) : pw b = ((2 ^ (b - a).toNat : Nat) : Rat) * pw a := by
 rw [← pw_nat,← pw_add];congr 1;omega
theorem pw_mono {a b : Int} (h : a ≤ b) : pw a ≤ pw b := by
 rw [pw_split h]
 have h1 : (1 : Rat) ≤ ((2 ^ (b - a).toNat : Nat) : Rat) := by
  have := Rat.natCast_le_natCast.2 (Nat.one_le_two_pow (n := (b - a).toNat))
  exact this
 have h2 := Rat.mul_le_mul_of_nonneg_right h1 (pw_nonneg a)
 grind
def sq (s : Bool) (m : Nat) : Rat := if s then -(m : Rat) else m
theorem sq_neg (s : Bool) (m : Nat) : sq (!s) m = -sq s m := by cases s <;> simp [sq]
theorem sq_zero (s : Bool) : sq s 0 = 0 := by cases s <;> simp [sq]
theorem sq_mul (s t : Bool) (m n : Nat) : sq (s != t) (m * n) = sq s m * sq t n := by
 cases s <;> cases t <;> simp [sq,Rat.natCast_mul] <;> grind
def Dy.q (d : Dy) : Rat := sq d.neg d.m * pw d.e
theorem dz_q : dz.q = 0 := by simp [Dy.q,dz,sq]
theorem nat_cast_lt {a b : Nat} : (a : Rat) < (b : Rat) ↔ a < b := Rat.natCast_lt_natCast
theorem nat_cast_le {a b : Nat} : (a : Rat) ≤ (b : Rat) ↔ a ≤ b := Rat.natCast_le_natCast
theorem nat_pos {m : Nat} (h : m ≠ 0) : 0 < (m : Rat) := by
 have := nat_cast_lt.2 (Nat.pos_of_ne_zero h)
 simpa using this
theorem q_pos {m : Nat} (h : m ≠ 0) (e : Int) : 0 < (m : Rat) * pw e := Rat.mul_pos (nat_pos h) (pw_pos e)
theorem q_eq_zero {d : Dy} (hd : d.Ok) : d.q = 0 ↔ d = dz := by
 constructor
 ·intro h
  by_cases h0 : d.m = 0
  ·obtain ⟨a, b⟩ := hd.zero h0
   obtain ⟨n,m,e⟩ := d
   simp only at h0 a b
   subst h0 a b;rfl
  ·exfalso
   have := q_pos h0 d.e
   unfold Dy.q sq at h
   cases hn : d.neg <;> rw [hn] at h <;> simp at h <;> grind
 ·rintro rfl;exact dz_q
theorem mag_nat (m : Nat) {e l : Int} (h : l ≤ e) : (m : Rat) * pw e = ((m * 2 ^ (e - l).toNat : Nat) : Rat) * pw l := by
 rw [pw_split h,Rat.natCast_mul,Rat.mul_assoc]
theorem mul_pw_lt {a b : Rat} (e : Int) : a * pw e < b * pw e ↔ a < b := Rat.mul_lt_mul_right (pw_pos e)
theorem mul_pw_le {a b : Rat} (e : Int) : a * pw e ≤ b * pw e ↔ a ≤ b := by
 constructor
 ·intro h;exact Rat.le_of_mul_le_mul_right h (pw_pos e)
 ·intro h;exact Rat.mul_le_mul_of_nonneg_right h (pw_nonneg e)
theorem mag_le (m n : Nat) {e f l : Int} (h : l ≤ e) (k : l ≤ f) : (m : Rat) * pw e ≤ (n : Rat) * pw f ↔ m * 2 ^ (e - l).toNat ≤ n * 2 ^ (f - l).toNat := by
 rw [mag_nat m h,mag_nat n k,mul_pw_le,nat_cast_le]
theorem mag_lt (m n : Nat) {e f l : Int} (h : l ≤ e) (k : l ≤ f) : (m : Rat) * pw e < (n : Rat) * pw f ↔ m * 2 ^ (e - l).toNat < n * 2 ^ (f - l).toNat := by
 rw [mag_nat m h,mag_nat n k,mul_pw_lt,nat_cast_lt]
theorem mag_eq (m n : Nat) {e f l : Int} (h : l ≤ e) (k : l ≤ f) : (m : Rat) * pw e = (n : Rat) * pw f ↔ m * 2 ^ (e - l).toNat = n * 2 ^ (f - l).toNat := by
 constructor
 ·intro he
  have h1 := (mag_le m n h k).1 (by rw [he];exact Rat.le_refl)
  have h2 := (mag_le n m k h).1 (by rw [he];exact Rat.le_refl)
  omega
 ·intro he
  rw [mag_nat m h,mag_nat n k,he]
theorem mag_inj {m n : Nat} {e f : Int} (hm : m % 2 = 1) (hn : n % 2 = 1) (h : (m : Rat) * pw e = (n : Rat) * pw f) : m = n ∧ e = f := by
 rcases Int.le_total e f with hl | hl
 ·have h1 := (mag_eq m n (Int.le_refl e) hl).1 h
  obtain ⟨a,b⟩ := odd_pow_unique hm hn h1
  exact ⟨b,by omega⟩
 ·have h1 := (mag_eq m n hl (Int.le_refl f)).1 h
  obtain ⟨a,b⟩ := odd_pow_unique hm hn h1
  exact ⟨b,by omega⟩
theorem q_inj {a b : Dy} (ha : a.Ok) (hb : b.Ok) (h : a.q = b.q) : a = b := by
 by_cases h0 : a.m = 0
 ·have ha0 : a.q = 0 := by unfold Dy.q; rw [h0, sq_zero, Rat.zero_mul]
  rw [(q_eq_zero ha).1 ha0,(q_eq_zero hb).1 (by rw [← h,ha0])]
 ·by_cases h1 : b.m = 0
  ·have hb0 : b.q = 0 := by unfold Dy.q; rw [h1, sq_zero, Rat.zero_mul]
   rw [(q_eq_zero hb).1 hb0,(q_eq_zero ha).1 (by rw [h,hb0])]
  ·have pa := q_pos h0 a.e
   have pb := q_pos h1 b.e
   have oa := ha.odd h0
   have ob := hb.odd h1
   obtain ⟨n1,m1,e1⟩ := a
   obtain ⟨n2,m2,e2⟩ := b
   simp only [Dy.q,sq] at *
   cases n1 <;> cases n2 <;> simp only [if_true,if_false,Bool.false_eq_true] at h
   ·obtain ⟨rfl,rfl⟩ := mag_inj oa ob h;rfl
   ·grind
   ·grind
   ·have h' : (m1 : Rat) * pw e1 = (m2 : Rat) * pw e2 := by grind
    obtain ⟨rfl,rfl⟩ := mag_inj oa ob h';rfl
def cmpQ (x y : Rat) : Int := if x < y then -1 else if x = y then 0 else 1
theorem cmpQ_neg (x y : Rat) : cmpQ (-x) (-y) = -cmpQ x y := by
 unfold cmpQ
 by_cases h : x < y
 ·rw [if_pos h,if_neg (by grind),if_neg (by grind)];rfl
 ·by_cases h1 : x = y
  ·rw [if_neg h,if_pos h1,if_neg (by grind),if_pos (by rw [h1])];rfl
  ·rw [if_neg h,if_neg h1,if_pos (by grind)]
theorem cmpQ_le {x y : Rat} : cmpQ x y ≤ 0 ↔ x ≤ y := by
 unfold cmpQ
 by_cases h : x < y
 ·rw [if_pos h];constructor <;> intro <;> first | grind | decide
 ·by_cases h1 : x = y
  ·rw [if_neg h,if_pos h1];constructor <;> intro <;> first | grind | decide
  ·rw [if_neg h, if_neg h1]; constructor <;> intro h2
   ·exact absurd h2 (by decide)
   ·grind
theorem cmpQ_ge {x y : Rat} : 0 ≤ cmpQ x y ↔ y ≤ x := by
 unfold cmpQ
 by_cases h : x < y
 ·rw [if_pos h]; constructor <;> intro h2
  ·exact absurd h2 (by decide)
  ·grind
 ·by_cases h1 : x = y
  ·rw [if_neg h,if_pos h1];constructor <;> intro <;> first | grind | decide
  ·rw [if_neg h,if_neg h1];constructor <;> intro <;> first | grind | decide
theorem cmpQ_lt {x y : Rat} : cmpQ x y < 0 ↔ x < y := by
 have := @cmpQ_ge x y
 constructor
 ·intro h
  by_cases hxy : x < y
  ·exact hxy
  ·exfalso
   have : (0 : Int) ≤ cmpQ x y := this.2 (by grind)
   omega
 ·intro h
  by_cases hc : cmpQ x y < 0
  ·exact hc
  ·exfalso
   have := this.1 (by omega)
   grind
theorem cmpQ_gt {x y : Rat} : 0 < cmpQ x y ↔ y < x := by
 have := @cmpQ_le x y
 constructor
 ·intro h
  by_cases hxy : y < x
  ·exact hxy
  ·exfalso
   have : cmpQ x y ≤ 0 := this.2 (by grind)
   omega
 ·intro h
  by_cases hc : 0 < cmpQ x y
  ·exact hc
  ·exfalso
   have := this.1 (by omega)
   grind
theorem cmpQ_self (x : Rat) : cmpQ x x = 0 := by
 unfold cmpQ;rw [if_neg (by grind),if_pos rfl]
theorem cmpQ_mag (m n : Nat) {e f l : Int} (h : l ≤ e) (k : l ≤ f) : cmpQ ((m : Rat) * pw e) ((n : Rat) * pw f) = cmpN (m * 2 ^ (e - l).toNat) (n * 2 ^ (f - l).toNat) := by
 unfold cmpQ cmpN
 simp only [mag_lt m n h k,mag_eq m n h k]
def Fits (p : Nat) (y : Rat) : Prop := ∃ s k j,bl k ≤ p ∧ y = sq s k * pw j
theorem Fits.neg {p : Nat} {y : Rat} (h : Fits p y) : Fits p (-y) := by
 obtain ⟨s,k,j,hk,rfl⟩ := h
 exact ⟨!s,k,j,hk,by rw [sq_neg];grind⟩
theorem Fits.mono {p p' : Nat} {y : Rat} (h : Fits p y) (hp : p ≤ p') : Fits p' y := by
 obtain ⟨s,k,j,hk,rfl⟩ := h
 exact ⟨s,k,j,by omega,rfl⟩
theorem Fits.pw {p : Nat} {y : Rat} (h : Fits p y) (i : Int) : Fits p (y * pw i) := by
 obtain ⟨s,k,j,hk,rfl⟩ := h
 exact ⟨s,k,j + i,hk,by rw [pw_add,Rat.mul_assoc]⟩
theorem Fits.zero (p : Nat) : Fits p 0 := ⟨false,0,0,by simp [bl],by rw [sq_zero,Rat.zero_mul]⟩
structure IsDown (p : Nat) (x d : Rat) : Prop where
 fits : Fits p d
 le : d ≤ x
 best : ∀ y,Fits p y → y ≤ x → y ≤ d
structure IsUp (p : Nat) (x d : Rat) : Prop where
 fits : Fits p d
 le : x ≤ d
 best : ∀ y,Fits p y → x ≤ y → d ≤ y
def IsDir (up : Bool) (p : Nat) (x d : Rat) : Prop := if up then IsUp p x d else IsDown p x d
theorem IsDown.neg {p : Nat} {x d : Rat} (h : IsDown p x d) : IsUp p (-x) (-d) :=
 ⟨h.fits.neg,by have := h.le;grind,fun y hy hx => by have := h.best (-y) hy.neg (by grind);grind⟩
theorem IsUp.neg {p : Nat} {x d : Rat} (h : IsUp p x d) : IsDown p (-x) (-d) :=
 ⟨h.fits.neg,by have := h.le;grind,fun y hy hx => by have := h.best (-y) hy.neg (by grind);grind⟩
theorem IsDown.mono {p p' : Nat} {x x' d d' : Rat} (h : IsDown p x d) (h' : IsDown p' x' d') (hp : p ≤ p') (hx : x ≤ x') : d ≤ d' :=
 h'.best d (h.fits.mono hp) (by have := h.le;grind)
theorem IsUp.mono {p p' : Nat} {x x' d d' : Rat} (h : IsUp p x d) (h' : IsUp p' x' d') (hp : p ≤ p') (hx : x' ≤ x) : d' ≤ d :=
 h'.best d (h.fits.mono hp) (by have := h.le;grind)
theorem IsDown.of_fits {p : Nat} {x : Rat} (h : Fits p x) : IsDown p x x := ⟨h,Rat.le_refl,fun _ _ h => h⟩
theorem IsUp.of_fits {p : Nat} {x : Rat} (h : Fits p x) : IsUp p x x := ⟨h,Rat.le_refl,fun _ _ h => h⟩
theorem IsDown.pw {p : Nat} {x d : Rat} (h : IsDown p x d) (i : Int) : IsDown p (x * pw i) (d * pw i) := by
 refine ⟨h.fits.pw i,(mul_pw_le i).2 h.le,fun y hy hx => ?_⟩
 have h2 := h.best (y * Go.Proofs.YtgododcbmkpbjaaGreatDoor.pw (-i)) (hy.pw (-i)) (by rw [← mul_pw_le i,pw_cancel];exact hx)
 rw [← mul_pw_le i,pw_cancel] at h2
 exact h2
theorem IsUp.pw {p : Nat} {x d : Rat} (h : IsUp p x d) (i : Int) : IsUp p (x * pw i) (d * pw i) := by
 have := (h.neg.pw i).neg
 simpa [Rat.neg_mul] using this
theorem fits_le_floor {p m' : Nat} {x y : Rat} (hm : 2 ^ (p - 1) ≤ m') (hp : 1 ≤ p) (hx : x < (m' : Rat) + 1) (hy : Fits p y) (hyx : y ≤ x) : y ≤ m' := by
 obtain ⟨s,k,j,hk,rfl⟩ := hy
 have hm0 : (0 : Rat) ≤ m' := nat_cast_le.2 (Nat.zero_le m')
 cases s
 case true =>
  have : sq true k * pw j ≤ 0 := by
   have h1 : (0 : Rat) ≤ k := nat_cast_le.2 (Nat.zero_le k)
   have h2 := Rat.mul_le_mul_of_nonneg_right h1 (pw_nonneg j)
   simp only [sq,if_true]
   grind
  grind
 case false =>
  simp only [sq,Bool.false_eq_true,if_false] at *
  rcases Int.le_total 0 j with hj | hj
  ·have e : (k : Rat) * pw j = ((k * 2 ^ j.toNat : Nat) : Rat) := by
    have h := mag_nat k hj
    rw [pw_zero] at h
    simpa using h
   rw [e] at hyx ⊢
   have h3 : ((k * 2 ^ j.toNat : Nat) : Rat) < ((m' + 1 : Nat) : Rat) := by
    rw [Rat.natCast_add]
    have : ((1 : Nat) : Rat) = 1 := rfl
    grind
   have := nat_cast_lt.1 h3
   exact nat_cast_le.2 (by omega)
  ·by_cases hj0 : j = 0
   ·subst hj0
    rw [pw_zero,Rat.mul_one] at hyx ⊢
    have h3 : (k : Rat) < ((m' + 1 : Nat) : Rat) := by
     rw [Rat.natCast_add]
     have : ((1 : Nat) : Rat) = 1 := rfl
     grind
    have := nat_cast_lt.1 h3
    exact nat_cast_le.2 (by omega)
   ·have h1 : (k : Rat) * pw j ≤ (k : Rat) * pw (-1) := by
     have h1 : (0 : Rat) ≤ k := nat_cast_le.2 (Nat.zero_le k)
     exact Rat.mul_le_mul_of_nonneg_left (pw_mono (by omega)) h1
    have h2 : k ≤ 2 * m' := by
     have h4 := lt_two_bl k
     have h5 : 2 ^ bl k ≤ 2 ^ p := Nat.pow_le_pow_right (by decide) hk
     have h6 : 2 ^ p = 2 * 2 ^ (p - 1) := by
      rw [← Nat.pow_succ'];congr 1;omega
     omega
    have h3 : (k : Rat) ≤ 2 * (m' : Rat) := by
     have := nat_cast_le.2 h2
     rw [Rat.natCast_mul] at this
     exact this
    have h4 := pw_neg (-1)
    have h5 : pw (-(-1 : Int)) = 2 := pw_one
    rw [h5] at h4
    have h6 := pw_pos (-1)
    have h7 := Rat.mul_le_mul_of_nonneg_right h3 (pw_nonneg (-1))
    have h8 : 2 * (m' : Rat) * pw (-1) = m' := by
     rw [Rat.mul_comm 2,Rat.mul_assoc,Rat.mul_comm 2,h4,Rat.mul_one]
    rw [h8] at h7
    exact Rat.le_trans h1 h7
theorem fits_ge_ceil {p m' : Nat} {x y : Rat} (hm : 2 ^ (p - 1) ≤ m') (hp : 1 ≤ p) (hx : (m' : Rat) < x) (hy : Fits p y) (hyx : x ≤ y) : (m' : Rat) + 1 ≤ y := by
 by_cases h : (m' : Rat) + 1 ≤ y
 ·exact h
 ·exfalso
  have := fits_le_floor hm hp (x := y) (by grind) hy Rat.le_refl
  grind
theorem div_pw (m n : Nat) : ((m / 2 ^ n : Nat) : Rat) * ((2 ^ n : Nat) : Rat) ≤ m ∧ (m : Rat) < (((m / 2 ^ n : Nat) : Rat) + 1) * ((2 ^ n : Nat) : Rat) := by
 have h0 : 0 < 2 ^ n := Nat.two_pow_pos n
 have h1 := Nat.div_add_mod m (2 ^ n)
 have h2 := Nat.mod_lt m h0
 constructor
 ·rw [← Rat.natCast_mul, nat_cast_le]
  rw [Nat.mul_comm] at h1
  omega
 ·have : (((m / 2 ^ n : Nat) : Rat) + 1) * ((2 ^ n : Nat) : Rat) = (((m / 2 ^ n + 1) * 2 ^ n : Nat) : Rat) := by
   rw [Rat.natCast_mul,Rat.natCast_add];rfl
  rw [this,nat_cast_lt,Nat.add_mul,Nat.one_mul]
  rw [Nat.mul_comm] at h1
  omega
theorem tz_lt_iff (m n : Nat) (h : m ≠ 0) : tz m < n ↔ m % 2 ^ n ≠ 0 := by
 constructor
 ·intro hlt hz
  have hd : 2 ^ n ∣ m := Nat.dvd_of_mod_eq_zero hz
  have h1 := tz_mul m h
  have h2 := tz_odd m h
  have h3 : 2 ^ (tz m + 1) ∣ m := Nat.dvd_trans (Nat.pow_dvd_pow 2 hlt) hd
  obtain ⟨c,hc⟩ := h3
  have h4 : m / 2 ^ tz m = 2 * c := by
   apply Nat.div_eq_of_eq_mul_left (Nat.two_pow_pos _)
   have : 2 ^ (tz m + 1) * c = 2 * c * 2 ^ tz m := by rw [Nat.pow_succ,Nat.mul_assoc,Nat.mul_comm]
   omega
  omega
 ·intro hz
  by_cases hc : tz m < n
  ·exact hc
  ·exfalso
   apply hz
   exact Nat.mod_eq_zero_of_dvd (Nat.dvd_trans (Nat.pow_dvd_pow 2 (by omega)) (tz_dvd m h))
def cutN (m : Nat) (rest : Bool) (p : Nat) : Bool × Nat × Nat :=
 let n := bl m - p
 (rest || (decide (0 < n) && decide (tz m < n)),m / 2 ^ n,n)
theorem bl_div (m n : Nat) : bl (m / 2 ^ n) = bl m - n := by
 by_cases h : m = 0
 ·subst h;simp [bl]
 ·by_cases hn : n < bl m
  ·have h1 := two_bl_le m h
   have h2 := lt_two_bl m
   have e : bl m - n = (bl m - n - 1) + 1 := by omega
   rw [e]
   refine bl_eq _ _ ?_ ?_
   ·rw [Nat.le_div_iff_mul_le (Nat.two_pow_pos n), ← Nat.pow_add]
    have : bl m - n - 1 + n = bl m - 1 := by omega
    rw [this];exact h1
   ·rw [Nat.div_lt_iff_lt_mul (Nat.two_pow_pos n), ← Nat.pow_add]
    have : bl m - n - 1 + 1 + n = bl m := by omega
    rw [this];exact h2
  ·have h2 := lt_two_bl m
   have : m / 2 ^ n = 0 := Nat.div_eq_of_lt (Nat.lt_of_lt_of_le h2 (Nat.pow_le_pow_right (by decide) (by omega)))
   rw [this,bl_zero];omega
def Mag (m : Nat) (rest : Bool) (M : Rat) : Prop := if rest then (m : Rat) < M ∧ M < (m : Rat) + 1 else M = m
theorem cutN_mag {m : Nat} {rest : Bool} {p : Nat} {M : Rat} (h : Mag m rest M) (h0 : rest = true → p < bl m) (h1p : 1 ≤ p) :
 Mag (cutN m rest p).2.1 (cutN m rest p).1 (M * pw (-((bl m - p : Nat) : Int))) ∧ ((cutN m rest p).1 = true → 2 ^ (p - 1) ≤ (cutN m rest p).2.1) ∧ bl (cutN m rest p).2.1 ≤ p := by
 obtain ⟨n,hn⟩ : ∃ n,bl m - p = n := ⟨_,rfl⟩
 simp only [cutN,hn]
 have hbl : bl (m / 2 ^ n) ≤ p := by rw [bl_div];omega
 have hbig : 0 < n → 2 ^ (p - 1) ≤ m / 2 ^ n := by
  intro hp
  have hm : m ≠ 0 := by rintro rfl;simp [bl] at hn;omega
  have h1 := two_bl_le m hm
  rw [Nat.le_div_iff_mul_le (Nat.two_pow_pos n),← Nat.pow_add]
  refine Nat.le_trans (Nat.pow_le_pow_right (by decide) ?_) h1
  omega
 by_cases hp : 0 < n
 ·have hm : m ≠ 0 := by rintro rfl; simp [bl] at hn; omega
  have hd : decide (0 < n) = true := by simp [hp]
  rw [hd,Bool.true_and]
  obtain ⟨d1,d2⟩ := div_pw m n
  have e1 := pw_neg (n : Int)
  rw [pw_nat] at e1
  have e2 := pw_pos (-(n : Int))
  have e3 : 0 < ((2 ^ n : Nat) : Rat) := by rw [← pw_nat];exact pw_pos _
  refine ⟨?_,fun _ => hbig hp,hbl⟩
  by_cases hr : (rest || decide (tz m < n)) = true
  ·rw [hr]
   simp only [Mag,if_true]
   have hstrict : ((m / 2 ^ n : Nat) : Rat) * ((2 ^ n : Nat) : Rat) < M ∧ M < (((m / 2 ^ n : Nat) : Rat) + 1) * ((2 ^ n : Nat) : Rat) := by
    cases rest
    ·simp only [Mag, Bool.false_eq_true, if_false] at h
     simp only [Bool.false_or,decide_eq_true_eq] at hr
     have hz := (tz_lt_iff m n hm).1 hr
     subst h
     refine ⟨?_,d2⟩
     rw [← Rat.natCast_mul,nat_cast_lt]
     have h1 := Nat.div_add_mod m (2 ^ n)
     rw [Nat.mul_comm] at h1
     omega
    ·simp only [Mag, if_true] at h
     refine ⟨by grind,?_⟩
     have : (((m / 2 ^ n : Nat) : Rat) + 1) * ((2 ^ n : Nat) : Rat) = (((m / 2 ^ n + 1) * 2 ^ n : Nat) : Rat) := by
      rw [Rat.natCast_mul,Rat.natCast_add];rfl
     rw [this] at d2 ⊢
     have d3 := nat_cast_lt.1 d2
     have d4 : ((m + 1 : Nat) : Rat) ≤ (((m / 2 ^ n + 1) * 2 ^ n : Nat) : Rat) := nat_cast_le.2 d3
     rw [Rat.natCast_add] at d4
     have : ((1 : Nat) : Rat) = 1 := rfl
     grind
   generalize ((m / 2 ^ n : Nat) : Rat) = A at *
   generalize ((2 ^ n : Nat) : Rat) = B at *
   generalize pw (-(n : Int)) = C at *
   obtain ⟨s1,s2⟩ := hstrict
   have t1 := (Rat.mul_lt_mul_right e2).2 s1
   have t2 := (Rat.mul_lt_mul_right e2).2 s2
   rw [Rat.mul_assoc,e1,Rat.mul_one] at t1 t2
   exact ⟨t1,t2⟩
  ·have hr' : (rest || decide (tz m < n)) = false := by simpa using hr
   rw [hr']
   simp only [Bool.or_eq_false_iff,decide_eq_false_iff_not] at hr'
   obtain ⟨r1,r2⟩ := hr'
   subst r1
   simp only [Mag,Bool.false_eq_true,if_false] at h ⊢
   have hz : m % 2 ^ n = 0 := by
    by_cases hz : m % 2 ^ n = 0
    ·exact hz
    ·exact absurd ((tz_lt_iff m n hm).2 hz) r2
   have h1 := Nat.div_add_mod m (2 ^ n)
   rw [hz,Nat.add_zero,Nat.mul_comm] at h1
   have h2 : ((m / 2 ^ n : Nat) : Rat) * ((2 ^ n : Nat) : Rat) = m := by rw [← Rat.natCast_mul,h1]
   subst h
   rw [← h2,Rat.mul_assoc,e1,Rat.mul_one]
 ·have hn0 : n = 0 := by omega
  subst hn0
  have hr : rest = false := by
   cases rest
   ·rfl
   ·have := h0 rfl;omega
  subst hr
  have e : pw (-((0 : Nat) : Int)) = 1 := pw_zero
  refine ⟨?_,fun h => ?_,hbl⟩
  ·rw [e, Rat.mul_one]
   simpa [Mag] using h
  ·simp at h
def cutM (m : Nat) (rest : Bool) (p : Nat) (away : Bool) : Nat := if (cutN m rest p).1 && away then (cutN m rest p).2.1 + 1 else (cutN m rest p).2.1
theorem fits_nat {p m : Nat} (h : bl m ≤ p) : Fits p (m : Rat) := ⟨false,m,0,h,by simp [sq,pw_zero]⟩
theorem fits_succ {p m : Nat} (h : bl m ≤ p) (hp : 1 ≤ p) : Fits p ((m : Rat) + 1) := by
 have e : (m : Rat) + 1 = ((m + 1 : Nat) : Rat) := by rw [Rat.natCast_add];rfl
 rw [e]
 by_cases hb : bl (m + 1) ≤ p
 ·exact fits_nat hb
 ·have h1 := lt_two_bl m
  have h2 : 2 ^ bl m ≤ 2 ^ p := Nat.pow_le_pow_right (by decide) h
  have h3 : m + 1 = 2 ^ p := by
   by_cases h4 : m + 1 < 2 ^ p
   ·exact absurd (bl_le _ _ h4) hb
   ·omega
  rw [h3]
  refine ⟨false,1,p,?_,?_⟩
  ·have : bl 1 = 1 := by decide
   omega
  ·rw [pw_nat]; simp only [sq, Bool.false_eq_true, if_false]
   exact (Rat.one_mul _).symm
theorem cutM_down {m : Nat} {rest : Bool} {p : Nat} {M : Rat} (h : Mag m rest M) (h0 : rest = true → p < bl m) (hp : 1 ≤ p) :
 IsDown p M ((cutM m rest p false : Rat) * pw ((bl m - p : Nat) : Int)) := by
 obtain ⟨hm,hb,hl⟩ := cutN_mag h h0 hp
 have e1 := pw_neg (((bl m - p : Nat) : Int))
 have key : IsDown p (M * pw (-((bl m - p : Nat) : Int))) (cutM m rest p false : Rat) := by
  unfold cutM
  rw [Bool.and_false]
  simp only [Bool.false_eq_true,if_false]
  generalize (cutN m rest p).2.1 = m' at *
  generalize (cutN m rest p).1 = r' at *
  generalize M * pw (-((bl m - p : Nat) : Int)) = x at *
  cases r'
  ·simp only [Mag, Bool.false_eq_true, if_false] at hm
   subst hm
   exact .of_fits (fits_nat hl)
  ·simp only [Mag, if_true] at hm
   exact ⟨fits_nat hl,by grind,fun y hy hx => fits_le_floor (hb rfl) hp hm.2 hy hx⟩
 have := key.pw ((bl m - p : Nat) : Int)
 rw [Rat.mul_assoc,Rat.mul_comm (pw _),e1,Rat.mul_one] at this
 exact this
theorem cutM_up {m : Nat} {rest : Bool} {p : Nat} {M : Rat} (h : Mag m rest M) (h0 : rest = true → p < bl m) (hp : 1 ≤ p) :
 IsUp p M ((cutM m rest p true : Rat) * pw ((bl m - p : Nat) : Int)) := by
 obtain ⟨hm,hb,hl⟩ := cutN_mag h h0 hp
 have e1 := pw_neg (((bl m - p : Nat) : Int))
 have key : IsUp p (M * pw (-((bl m - p : Nat) : Int))) (cutM m rest p true : Rat) := by
  unfold cutM
  rw [Bool.and_true]
  generalize (cutN m rest p).2.1 = m' at *
  generalize (cutN m rest p).1 = r' at *
  generalize M * pw (-((bl m - p : Nat) : Int)) = x at *
  cases r'
  ·simp only [Mag, Bool.false_eq_true, if_false] at hm ⊢
   subst hm
   exact .of_fits (fits_nat hl)
  ·simp only [Mag, if_true] at hm ⊢
   have e : ((m' + 1 : Nat) : Rat) = (m' : Rat) + 1 := by rw [Rat.natCast_add];rfl
   rw [e]
   exact ⟨fits_succ hl hp,by grind,fun y hy hx => fits_ge_ceil (hb rfl) hp hm.1 hy hx⟩
 have := key.pw ((bl m - p : Nat) : Int)
 rw [Rat.mul_assoc,Rat.mul_comm (pw _),e1,Rat.mul_one] at this
 exact this
def cutD (neg : Bool) (m : Nat) (e : Int) (rest : Bool) (p : Nat) (up : Bool) : Outc Dy :=
 fitD neg (cutM m rest p (up != neg)) (e + ((bl m - p : Nat) : Int))
theorem fitD_q {neg : Bool} {n : Nat} {e : Int} (h : (fitD neg n e).k = 0) : (fitD neg n e).v.q = sq neg n * pw e := by
 unfold fitD at *
 by_cases h0 : n = 0
 ·rw [if_pos h0]; subst h0
  rw [sq_zero,Rat.zero_mul];exact dz_q
 ·rw [if_neg h0] at h ⊢
  by_cases h1 : 64 < (limbs (n / 2 ^ tz n)).length
  ·rw [if_pos h1] at h;exact absurd h (by decide)
  ·rw [if_neg h1] at h ⊢
   by_cases h2 : 1048576 < e ∨ e < -1048576 - tz n
   ·rw [if_pos h2] at h;exact absurd h (by decide)
   ·rw [if_neg h2] at h ⊢
    by_cases h3 : 1048576 < e + tz n
    ·rw [if_pos h3] at h;exact absurd h (by decide)
    ·rw [if_neg h3]
     simp only [good,Dy.q]
     rw [Int.add_comm,pw_add,pw_nat,← Rat.mul_assoc]
     congr 1
     have := tz_mul n h0
     unfold sq
     cases neg
     ·simp only [Bool.false_eq_true, if_false]
      rw [← Rat.natCast_mul,this]
     ·simp only [if_true]
      rw [Rat.neg_mul,← Rat.natCast_mul,this]
theorem cutD_dir {neg : Bool} {m : Nat} {e : Int} {rest : Bool} {p : Nat} {up : Bool} {M : Rat} (h : Mag m rest M) (h0 : rest = true → p < bl m) (hp : 1 ≤ p)
 (hk : (cutD neg m e rest p up).k = 0) : IsDir up p ((if neg then -M else M) * pw e) (cutD neg m e rest p up).v.q := by
 unfold cutD at *
 rw [fitD_q hk,Int.add_comm,pw_add,← Rat.mul_assoc]
 unfold IsDir
 cases neg <;> cases up
 ·exact ((cutM_down h h0 hp).pw e)
 ·exact ((cutM_up h h0 hp).pw e)
 ·have e1 : (false != true) = true := rfl
  have := ((cutM_up h h0 hp).neg).pw e
  simpa only [e1,Bool.false_eq_true,if_false,if_true,sq,Rat.neg_mul] using this
 ·have e1 : (true != true) = false := rfl
  have := ((cutM_down h h0 hp).neg).pw e
  simpa only [e1,Bool.false_eq_true,if_false,if_true,sq,Rat.neg_mul] using this
end Go.Proofs.YtgododcbmkpbjaaGreatDoor
namespace Go.Proofs.YtgododcbmkpbjaaGreatDoor
def negD (d : Dy) : Dy := if d.m = 0 then d else ⟨!d.neg,d.m,d.e⟩
theorem negD_q (d : Dy) : (negD d).q = -d.q := by
 unfold negD Dy.q
 by_cases h : d.m = 0
 ·rw [if_pos h,h,sq_zero,Rat.zero_mul];rfl
 ·rw [if_neg h];simp only [sq_neg,Rat.neg_mul]
theorem negD_ok {d : Dy} (h : d.Ok) : (negD d).Ok := by
 unfold negD
 by_cases h0 : d.m = 0
 ·rw [if_pos h0];exact h
 ·rw [if_neg h0];exact ⟨h.len,fun hz => absurd hz h0,h.odd,h.lo,h.hi⟩
def sumC (a b : Dy) : Outc Dy :=
 if ¬ a.e = b.e ∧ 4097 - (bl a.m : Int) < a.e - b.e then bad 2
 else if a.neg = b.neg then fitD a.neg (a.m * 2 ^ (a.e - b.e).toNat + b.m) b.e
 else if b.m ≤ a.m * 2 ^ (a.e - b.e).toNat then fitD a.neg (a.m * 2 ^ (a.e - b.e).toNat - b.m) b.e
 else fitD b.neg (b.m - a.m * 2 ^ (a.e - b.e).toNat) b.e
def sumD (x y : Dy) : Outc Dy :=
 if x.m = 0 then good y else if y.m = 0 then good x else if x.e < y.e then sumC y x else sumC x y
theorem sumC_q {a b : Dy} (h : b.e ≤ a.e) (hk : (sumC a b).k = 0) : (sumC a b).v.q = a.q + b.q := by
 have e1 : sq a.neg (a.m * 2 ^ (a.e - b.e).toNat) * pw b.e = a.q := by
  unfold Dy.q
  have := mag_nat a.m h
  unfold sq
  cases a.neg
  ·simp only [Bool.false_eq_true,if_false];exact this.symm
  ·simp only [if_true,Rat.neg_mul];rw [this]
 unfold sumC at *
 by_cases h1 : ¬ a.e = b.e ∧ 4097 - (bl a.m : Int) < a.e - b.e
 ·rw [if_pos h1] at hk;exact absurd hk (by decide)
 ·rw [if_neg h1] at hk ⊢
  generalize a.m * 2 ^ (a.e - b.e).toNat = X at *
  by_cases h2 : a.neg = b.neg
  ·rw [if_pos h2] at hk ⊢
   rw [fitD_q hk,← e1]
   unfold Dy.q
   rw [h2]
   unfold sq
   cases b.neg
   ·simp only [Bool.false_eq_true,if_false,Rat.natCast_add,Rat.add_mul]
   ·simp only [if_true,Rat.natCast_add,Rat.neg_mul,Rat.add_mul];grind
  ·rw [if_neg h2] at hk ⊢
   have e2 : b.neg = !a.neg := by cases ha : a.neg <;> cases hb : b.neg <;> simp_all
   by_cases h3 : b.m ≤ X
   ·rw [if_pos h3] at hk ⊢
    rw [fitD_q hk,← e1]
    unfold Dy.q
    rw [e2,sq_neg]
    obtain ⟨c,rfl⟩ : ∃ c,X = b.m + c := ⟨X - b.m,by omega⟩
    rw [Nat.add_sub_cancel_left]
    unfold sq
    cases a.neg
    ·simp only [Bool.false_eq_true,if_false,Rat.natCast_add,Rat.add_mul,Rat.neg_mul];grind
    ·simp only [if_true,Rat.natCast_add,Rat.neg_mul,Rat.add_mul];grind
   ·rw [if_neg h3] at hk ⊢
    rw [fitD_q hk,← e1]
    unfold Dy.q
    rw [e2,sq_neg]
    obtain ⟨c,hc⟩ : ∃ c,b.m = X + c := ⟨b.m - X,by omega⟩
    rw [hc,Nat.add_sub_cancel_left]
    unfold sq
    cases a.neg
    ·simp only [Bool.false_eq_true,if_false,Rat.natCast_add,Rat.neg_mul];grind
    ·simp only [if_true,Rat.natCast_add,Rat.neg_mul];grind
theorem zero_q {d : Dy} (h : d.m = 0) : d.q = 0 := by unfold Dy.q;rw [h,sq_zero,Rat.zero_mul]
theorem sumD_q {x y : Dy} (hk : (sumD x y).k = 0) : (sumD x y).v.q = x.q + y.q := by
 unfold sumD at *
 by_cases h0 : x.m = 0
 ·rw [if_pos h0,zero_q h0,Rat.zero_add];rfl
 ·rw [if_neg h0] at hk ⊢
  by_cases h1 : y.m = 0
  ·rw [if_pos h1,zero_q h1,Rat.add_zero];rfl
  ·rw [if_neg h1] at hk ⊢
   by_cases h2 : x.e < y.e
   ·rw [if_pos h2] at hk ⊢
    rw [sumC_q (by omega) hk,Rat.add_comm]
   ·rw [if_neg h2] at hk ⊢
    exact sumC_q (by omega) hk
def Outc.Ok (o : Outc Dy) : Prop := o.v.Ok ∧ (o.k ≠ 0 → o.v = dz)
theorem good_ok {d : Dy} (h : d.Ok) : (good d).Ok := ⟨h,fun h => absurd rfl h⟩
theorem bad_ok (k : Int) : (bad k).Ok := ⟨dz_ok,fun _ => rfl⟩
theorem sumC_ok (a b : Dy) : (sumC a b).Ok := by
 unfold sumC
 split
 ·exact bad_ok _
 ·split
  ·exact fitD_ok _ _ _
  ·split <;> exact fitD_ok _ _ _
theorem sumD_ok {x y : Dy} (hx : x.Ok) (hy : y.Ok) : (sumD x y).Ok := by
 unfold sumD
 split
 ·exact good_ok hy
 ·split
  ·exact good_ok hx
  ·split <;> exact sumC_ok _ _
def mulD (x y : Dy) : Outc Dy := fitD (x.neg != y.neg) (x.m * y.m) (x.e + y.e)
theorem mulD_q {x y : Dy} (hk : (mulD x y).k = 0) : (mulD x y).v.q = x.q * y.q := by
 unfold mulD at *
 rw [fitD_q hk,sq_mul,pw_add]
 unfold Dy.q
 grind
theorem mulD_ok (x y : Dy) : (mulD x y).Ok := fitD_ok _ _ _
def dirD (d : Dy) (p : Nat) (up : Bool) : Outc Dy := cutD d.neg d.m d.e false p up
theorem dirD_ok (d : Dy) (p : Nat) (up : Bool) : (dirD d p up).Ok := fitD_ok _ _ _
theorem dirD_dir {d : Dy} {p : Nat} {up : Bool} (hp : 1 ≤ p) (hk : (dirD d p up).k = 0) : IsDir up p d.q (dirD d p up).v.q := by
 have h := cutD_dir (neg := d.neg) (m := d.m) (e := d.e) (rest := false) (p := p) (up := up) (M := d.m) (by simp [Mag]) (by simp) hp hk
 have e : (if d.neg then -(d.m : Rat) else d.m) * pw d.e = d.q := rfl
 rw [e] at h
 exact h
def quotK (a b : Dy) (p : Nat) : Nat := p + 1 + bl b.m - bl a.m
def quotD (a b : Dy) (p : Nat) (up : Bool) : Outc Dy :=
 cutD (a.neg != b.neg) (a.m * 2 ^ quotK a b p / b.m) (a.e - b.e - quotK a b p) (decide (¬ a.m * 2 ^ quotK a b p % b.m = 0)) p up
theorem nat_div_rat (n m : Nat) (h : m ≠ 0) : Mag (n / m) (decide (¬ n % m = 0)) ((n : Rat) / m) := by
 have hm : 0 < (m : Rat) := nat_pos h
 have h1 := Nat.div_add_mod n m
 have h2 := Nat.mod_lt n (Nat.pos_of_ne_zero h)
 rw [Nat.mul_comm] at h1
 by_cases hr : n % m = 0
 ·have : decide (¬ n % m = 0) = false := by simp [hr]
  rw [this]
  simp only [Mag,Bool.false_eq_true,if_false]
  rw [hr,Nat.add_zero] at h1
  have h3 : (n : Rat) = ((n / m : Nat) : Rat) * m := by rw [← Rat.natCast_mul,h1]
  rw [h3]
  generalize ((n / m : Nat) : Rat) = A
  rw [Rat.mul_div_cancel (by grind)]
 ·have : decide (¬ n % m = 0) = true := by simp [hr]
  rw [this]
  simp only [Mag,if_true]
  rw [Rat.lt_div_iff hm,Rat.div_lt_iff hm,← Rat.natCast_mul]
  have e : ((n / m : Nat) : Rat) + 1 = ((n / m + 1 : Nat) : Rat) := by rw [Rat.natCast_add];rfl
  rw [e,← Rat.natCast_mul,nat_cast_lt,nat_cast_lt,Nat.add_mul,Nat.one_mul]
  omega
theorem quot_bl (a b p : Nat) (ha : a ≠ 0) (hb : b ≠ 0) (k : Nat) (hk : p + 1 + bl b ≤ bl a + k) : p < bl (a * 2 ^ k / b) := by
 apply lt_bl
 rw [Nat.le_div_iff_mul_le (Nat.pos_of_ne_zero hb)]
 have h1 := two_bl_le a ha
 have h2 := lt_two_bl b
 have h3 : 2 ^ p * b ≤ 2 ^ p * 2 ^ bl b := Nat.mul_le_mul_left _ (by omega)
 have h4 : 2 ^ (bl a - 1) * 2 ^ k ≤ a * 2 ^ k := Nat.mul_le_mul_right _ h1
 rw [← Nat.pow_add] at h3 h4
 refine Nat.le_trans h3 (Nat.le_trans (Nat.pow_le_pow_right (by decide) ?_) h4)
 have := bl_pos a ha
 omega
theorem sq_div (s t : Bool) (x : Rat) (m n : Nat) (hx : (m : Rat) = x * n) : (if (s != t) then -x else x) * sq t n = sq s m := by
 cases s <;> cases t <;> simp [sq,hx] <;> grind
theorem quotD_dir {a b : Dy} {p : Nat} {up : Bool} (hp : 1 ≤ p) (hb : b.m ≠ 0) (hk : (quotD a b p up).k = 0) : IsDir up p (a.q / b.q) (quotD a b p up).v.q := by
 unfold quotD at *
 have hm := nat_div_rat (a.m * 2 ^ quotK a b p) b.m hb
 have h := cutD_dir hm ?_ hp hk
 ·have e : (if (a.neg != b.neg) then -(((a.m * 2 ^ quotK a b p : Nat) : Rat) / b.m) else ((a.m * 2 ^ quotK a b p : Nat) : Rat) / b.m) * pw (a.e - b.e - quotK a b p) = a.q / b.q := by
   have hbq : b.q ≠ 0 := by
    have := q_pos hb b.e
    unfold Dy.q sq
    cases b.neg <;> simp <;> grind
   have hb0 := nat_pos hb
   rw [Rat.div_def a.q]
   have key : (if (a.neg != b.neg) then -(((a.m * 2 ^ quotK a b p : Nat) : Rat) / b.m) else ((a.m * 2 ^ quotK a b p : Nat) : Rat) / b.m) * pw (a.e - b.e - quotK a b p) * b.q = a.q := by
    unfold Dy.q
    have h1 := sq_div a.neg b.neg (((a.m * 2 ^ quotK a b p : Nat) : Rat) / b.m) (a.m * 2 ^ quotK a b p) b.m (by rw [Rat.div_mul_cancel (by grind)])
    have h2 : pw (a.e - b.e - quotK a b p) * pw b.e * pw (quotK a b p) = pw a.e := by
     rw [← pw_add,← pw_add];congr 1;omega
    have h3 : sq a.neg (a.m * 2 ^ quotK a b p) = sq a.neg a.m * pw (quotK a b p) := by
     rw [pw_nat]
     unfold sq
     cases a.neg <;> simp [Rat.natCast_mul,Rat.neg_mul]
    rw [h3] at h1
    generalize (if (a.neg != b.neg) then -(((a.m * 2 ^ quotK a b p : Nat) : Rat) / b.m) else ((a.m * 2 ^ quotK a b p : Nat) : Rat) / b.m) = A at *
    generalize sq a.neg a.m = B at *
    generalize sq b.neg b.m = C at *
    have h4 := pw_pos (quotK a b p)
    have h5 := pw_ne (quotK a b p)
    generalize pw (a.e - b.e - quotK a b p) = D at *
    generalize pw (quotK a b p) = E at *
    generalize pw b.e = F at *
    generalize pw a.e = G at *
    have h6 : A * D * (C * F) = B * (D * F * E) := by
     have : A * D * (C * F) = (A * C) * (D * F) := by grind
     rw [this,h1];grind
    rw [h6,h2]
   rw [← key,Rat.mul_assoc,Rat.mul_inv_cancel _ hbq,Rat.mul_one]
  rw [e] at h
  exact h
 ·intro hr
  have ha : a.m ≠ 0 := by
   intro ha
   rw [ha,Nat.zero_mul,Nat.zero_mod] at hr
   simp at hr
  exact quot_bl a.m b.m p ha hb (quotK a b p) (by unfold quotK;omega)
theorem quotD_ok (a b : Dy) (p : Nat) (up : Bool) : (quotD a b p up).Ok := fitD_ok _ _ _
end Go.Proofs.YtgododcbmkpbjaaGreatDoor
namespace Go.Proofs.YtgododcbmkpbjaaGreatDoor
def rootK0 (d : Dy) (p : Nat) : Nat := 2 * p + 2 - bl d.m
def rootK (d : Dy) (p : Nat) : Nat := if (d.e - rootK0 d p) % 2 = 0 then rootK0 d p else rootK0 d p + 1
def rootD (d : Dy) (p : Nat) (up : Bool) : Outc Dy :=
 cutD false (isq (d.m * 2 ^ rootK d p)) ((d.e - rootK d p) / 2) (decide (¬ isq (d.m * 2 ^ rootK d p) * isq (d.m * 2 ^ rootK d p) = d.m * 2 ^ rootK d p)) p up
theorem sq_le {a b : Rat} (ha : 0 ≤ a) (h : a ≤ b) : a * a ≤ b * b := by
 have h1 := Rat.mul_le_mul_of_nonneg_left h ha
 have h2 := Rat.mul_le_mul_of_nonneg_right h (by grind : 0 ≤ b)
 grind
theorem between (x y : Rat) : ∃ M,x < M ∧ M < x + 1 ∧ (y < x + 1 → y ≤ M) := by
 by_cases h : x < y ∧ y < x + 1
 ·exact ⟨y,h.1,h.2,fun _ => Rat.le_refl⟩
 ·refine ⟨x + 1 / 2, by grind, by grind, fun hy => ?_⟩
  have : ¬ x < y := fun hx => h ⟨hx,hy⟩
  grind
end Go.Proofs.YtgododcbmkpbjaaGreatDoor
namespace Go.Proofs.YtgododcbmkpbjaaGreatDoor
def sizeD (a b : Dy) : Int :=
 if (bl a.m : Int) + a.e < bl b.m + b.e then -1 else if (bl b.m : Int) + b.e < bl a.m + a.e then 1
 else cmpN (a.m * 2 ^ (a.e - min a.e b.e).toNat) (b.m * 2 ^ (b.e - min a.e b.e).toNat)
theorem mag_bl {m : Nat} (h : m ≠ 0) (e : Int) : pw (bl m + e - 1) ≤ (m : Rat) * pw e ∧ (m : Rat) * pw e < pw (bl m + e) := by
 have h1 := two_bl_le m h
 have h2 := lt_two_bl m
 have h3 := bl_pos m h
 constructor
 ·have e1 : pw (bl m + e - 1) = ((2 ^ (bl m - 1) : Nat) : Rat) * pw e := by
   rw [← pw_nat,← pw_add];congr 1;omega
  rw [e1,mul_pw_le,nat_cast_le];exact h1
 ·have e1 : pw (bl m + e) = ((2 ^ bl m : Nat) : Rat) * pw e := by
   rw [← pw_nat,← pw_add]
  rw [e1,mul_pw_lt,nat_cast_lt];exact h2
theorem cmpQ_of_lt {x y : Rat} (h : x < y) : cmpQ x y = -1 := by unfold cmpQ;rw [if_pos h]
theorem cmpQ_of_gt {x y : Rat} (h : y < x) : cmpQ x y = 1 := by unfold cmpQ;rw [if_neg (by grind),if_neg (by grind)]
theorem sizeD_q {a b : Dy} (ha : a.m ≠ 0) (hb : b.m ≠ 0) : sizeD a b = cmpQ ((a.m : Rat) * pw a.e) ((b.m : Rat) * pw b.e) := by
 obtain ⟨a1,a2⟩ := mag_bl ha a.e
 obtain ⟨b1,b2⟩ := mag_bl hb b.e
 unfold sizeD
 by_cases h1 : (bl a.m : Int) + a.e < bl b.m + b.e
 ·rw [if_pos h1, cmpQ_of_lt]
  have := pw_mono (show (bl a.m : Int) + a.e ≤ bl b.m + b.e - 1 by omega)
  grind
 ·rw [if_neg h1]
  by_cases h2 : (bl b.m : Int) + b.e < bl a.m + a.e
  ·rw [if_pos h2, cmpQ_of_gt]
   have := pw_mono (show (bl b.m : Int) + b.e ≤ bl a.m + a.e - 1 by omega)
   grind
  ·rw [if_neg h2]
   exact (cmpQ_mag a.m b.m (Int.min_le_left _ _) (Int.min_le_right _ _)).symm
def sg (d : Dy) : Int := if d.m = 0 then 0 else if d.neg then -1 else 1
theorem sg_pos {d : Dy} (h : sg d = 1) : 0 < d.q ∧ d.q = (d.m : Rat) * pw d.e ∧ d.m ≠ 0 := by
 unfold sg at h
 by_cases h0 : d.m = 0
 ·rw [if_pos h0] at h;exact absurd h (by decide)
 ·rw [if_neg h0] at h
  unfold Dy.q sq
  cases hn : d.neg
  ·simp only [Bool.false_eq_true,if_false];exact ⟨q_pos h0 _,trivial,h0⟩
  ·rw [hn] at h;exact absurd h (by decide)
theorem sg_neg {d : Dy} (h : sg d = -1) : d.q < 0 ∧ d.q = -((d.m : Rat) * pw d.e) ∧ d.m ≠ 0 := by
 unfold sg at h
 by_cases h0 : d.m = 0
 ·rw [if_pos h0] at h;exact absurd h (by decide)
 ·rw [if_neg h0] at h
  unfold Dy.q sq
  cases hn : d.neg
  ·rw [hn] at h;exact absurd h (by decide)
  ·simp only [if_true, Rat.neg_mul]
   have := q_pos h0 d.e
   exact ⟨by grind,trivial,h0⟩
theorem sg_zero {d : Dy} (h : sg d = 0) : d.q = 0 := by
 unfold sg at h
 by_cases h0 : d.m = 0
 ·exact zero_q h0
 ·rw [if_neg h0] at h;split at h <;> exact absurd h (by decide)
theorem sg_cases (d : Dy) : sg d = -1 ∨ sg d = 0 ∨ sg d = 1 := by
 unfold sg;split
 ·exact .inr (.inl rfl)
 ·split
  ·exact .inl rfl
  ·exact .inr (.inr rfl)
theorem sg_q (d : Dy) : sg d = cmpQ d.q 0 := by
 rcases sg_cases d with h | h | h
 ·rw [h,cmpQ_of_lt (sg_neg h).1]
 ·rw [h,sg_zero h,cmpQ_self]
 ·rw [h,cmpQ_of_gt (sg_pos h).1]
theorem cmp_lt {a b : Dy} (h : sg a < sg b) : cmpQ a.q b.q = -1 := by
 apply cmpQ_of_lt
 rw [sg_q,sg_q] at h
 have h1 := @cmpQ_lt a.q 0
 have h2 := @cmpQ_gt b.q 0
 have h3 := @cmpQ_le a.q 0
 have h4 := @cmpQ_ge b.q 0
 rcases sg_cases a with ha | ha | ha <;> rcases sg_cases b with hb | hb | hb <;> rw [sg_q] at ha hb <;> rw [ha,hb] at h <;> first | (exact absurd h (by decide)) | skip
 all_goals (rw [ha] at h1 h3;rw [hb] at h2 h4;simp at h1 h2 h3 h4;grind)
theorem cmp_gt {a b : Dy} (h : sg b < sg a) : cmpQ a.q b.q = 1 := by
 have h1 := cmp_lt h
 have h2 := cmpQ_neg b.q a.q
 have h3 := @cmpQ_lt b.q a.q
 rw [h1] at h3
 exact cmpQ_of_gt (h3.1 (by decide))
theorem cmp_same {a b : Dy} (h : sg a = sg b) : cmpQ a.q b.q = if sg a = 0 then 0 else sg a * sizeD a b := by
 rcases sg_cases a with ha | ha | ha
 ·rw [ha, if_neg (by decide)]
  obtain ⟨_,a1,a2⟩ := sg_neg ha
  obtain ⟨_,b1,b2⟩ := sg_neg (h ▸ ha)
  rw [a1,b1,cmpQ_neg,sizeD_q a2 b2];omega
 ·rw [ha,if_pos rfl,sg_zero ha,sg_zero (h ▸ ha),cmpQ_self]
 ·rw [ha, if_neg (by decide)]
  obtain ⟨_,a1,a2⟩ := sg_pos ha
  obtain ⟨_,b1,b2⟩ := sg_pos (h ▸ ha)
  rw [a1,b1,sizeD_q a2 b2];omega
structure Iv where
 lo : Dy
 hi : Dy
def iz : Iv := ⟨dz,dz⟩
structure RawI where
 lo : Raw
 hi : Raw
def Iv.raw (a : Iv) : RawI := ⟨a.lo.raw,a.hi.raw⟩
structure Iv.Ok (a : Iv) : Prop where
 lo : a.lo.Ok
 hi : a.hi.Ok
 le : a.lo.q ≤ a.hi.q
def mayI (a : RawI) : Bool := mayD a.lo && mayD a.hi && decide (cmpQ a.lo.dy.q a.hi.dy.q ≤ 0)
theorem mayI_raw {a : Iv} (h : a.Ok) : mayI a.raw = true := by
 unfold mayI Iv.raw
 simp only [h.lo.may,h.hi.may,Dy.raw_dy,Bool.true_and,decide_eq_true_eq]
 exact cmpQ_le.2 h.le
def Outc.bind {α β : Type} (o : Outc α) (z : β) (f : α → Outc β) : Outc β := if o.k = 0 then f o.v else ⟨z,o.k⟩
theorem Outc.bind_ok {α β : Type} {o : Outc α} {z : β} {f : α → Outc β} (h : (o.bind z f).k = 0) : o.k = 0 ∧ o.bind z f = f o.v := by
 unfold Outc.bind at *
 by_cases hk : o.k = 0
 ·rw [if_pos hk] at h ⊢;exact ⟨hk,rfl⟩
 ·rw [if_neg hk] at h;exact absurd h hk
theorem Outc.bind_of {α β : Type} {o : Outc α} (z : β) (f : α → Outc β) (h : o.k = 0) : o.bind z f = f o.v := by unfold Outc.bind;rw [if_pos h]
def ends (lo hi : Outc Dy) : Outc Iv := lo.bind iz fun l => hi.bind iz fun h => ⟨⟨l,h⟩,0⟩
theorem ends_ok {lo hi : Outc Dy} (h : (ends lo hi).k = 0) : lo.k = 0 ∧ hi.k = 0 ∧ (ends lo hi).v = ⟨lo.v,hi.v⟩ := by
 unfold ends at *
 obtain ⟨h1,h2⟩ := Outc.bind_ok h
 rw [h2] at h ⊢
 obtain ⟨h3,h4⟩ := Outc.bind_ok h
 rw [h4]
 exact ⟨h1,h3,rfl⟩
def rndD (o : Outc Dy) (p : Nat) (up : Bool) : Outc Dy := o.bind dz fun d => dirD d p up
def addI (a b : Iv) (p : Nat) : Outc Iv := ends (rndD (sumD a.lo b.lo) p false) (rndD (sumD a.hi b.hi) p true)
def subI (a b : Iv) (p : Nat) : Outc Iv := ends (rndD (sumD a.lo (negD b.hi)) p false) (rndD (sumD a.hi (negD b.lo)) p true)
def negI (a : Iv) (p : Nat) : Outc Iv := ends (dirD (negD a.hi) p false) (dirD (negD a.lo) p true)
def leastD (d : Dy) : List Dy → Dy
 | [] => d
 | x :: l => leastD (if cmpQ x.q d.q < 0 then x else d) l
def greatestD (d : Dy) : List Dy → Dy
 | [] => d
 | x :: l => greatestD (if 0 < cmpQ x.q d.q then x else d) l
def four (a b c d : Outc Dy) (f : Dy → Dy → Dy → Dy → Outc Iv) : Outc Iv :=
 a.bind iz fun x => b.bind iz fun y => c.bind iz fun z => d.bind iz fun u => f x y z u
def mulI (a b : Iv) (p : Nat) : Outc Iv :=
 four (mulD a.lo b.lo) (mulD a.lo b.hi) (mulD a.hi b.lo) (mulD a.hi b.hi) fun x y z u =>
  ends (dirD (leastD x [x,y,z,u]) p false) (dirD (greatestD x [x,y,z,u]) p true)
def hasZero (b : Iv) : Bool := decide (cmpQ b.lo.q 0 ≤ 0) && decide (cmpQ 0 b.hi.q ≤ 0)
def divI (a b : Iv) (p : Nat) : Outc Iv :=
 if hasZero b then ⟨iz,4⟩ else
 four (quotD a.lo b.lo p false) (quotD a.lo b.hi p false) (quotD a.hi b.lo p false) (quotD a.hi b.hi p false) fun x y z u =>
 four (quotD a.lo b.lo p true) (quotD a.lo b.hi p true) (quotD a.hi b.lo p true) (quotD a.hi b.hi p true) fun x' y' z' u' =>
  ⟨⟨leastD x [x,y,z,u],greatestD x' [x',y',z',u']⟩,0⟩
def sqrI (a : Iv) (p : Nat) : Outc Iv :=
 (mulD a.lo a.lo).bind iz fun x => (mulD a.hi a.hi).bind iz fun y =>
   ends (dirD (if hasZero a then dz else leastD x [x,y]) p false) (dirD (greatestD x [x,y]) p true)
def sqrtI (a : Iv) (p : Nat) : Outc Iv :=
 if sg a.lo < 0 then ⟨iz,4⟩ else ends (rootD a.lo p false) (rootD a.hi p true)
end Go.Proofs.YtgododcbmkpbjaaGreatDoor
