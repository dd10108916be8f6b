/- What SlopeLines has made so far: numbers, values of states, lines, in rows of its own. -/
import Derived.Test.YtgododcbmkpbjaaGreatDoorClaimSlinesp14
import Derived.Test.YtgododcbmkpbjaaGreatDoorClaimSlinesp19
import Derived.Test.YtgododcbmkpbjaaGreatDoorClaimSlinesp22
import Derived.Test.YtgododcbmkpbjaaGreatDoorClaimSlinesp23
import Derived.Test.YtgododcbmkpbjaaGreatDoorClaimSlinesp33
set_option maxRecDepth 100000
set_option maxHeartbeats 16000000
namespace Go.Proofs.YtgododcbmkpbjaaGreatDoor
open Go.RowKit
/-- z times 2^e. -/
def dyz (z : Int) (e : Int) : Dy := (fitD (decide (z < 0)) z.natAbs e).v
/-- Small ones. -/
def SmZ (z : Int) (e : Int) : Prop := z.natAbs < 2 ^ 60 ∧ -40 ≤ e ∧ e ≤ 0
theorem sq_int (z : Int) : sq (decide (z < 0)) z.natAbs = (z : Rat) := by
 unfold sq
 by_cases h : z < 0
 ·rw [if_pos (by simpa using h)]
  obtain ⟨n, rfl⟩ : ∃ n : Nat, z = -(n : Int) := ⟨z.natAbs, by omega⟩
  rw [Int.natAbs_neg, Int.natAbs_natCast, Rat.intCast_neg]; rfl
 ·rw [if_neg (by simpa using h)]
  obtain ⟨n, rfl⟩ : ∃ n : Nat, z = (n : Int) := ⟨z.natAbs, by omega⟩
  rw [Int.natAbs_natCast]; rfl
theorem dyz_fit {z e : Int} (h : SmZ z e) : fitD (decide (z < 0)) z.natAbs e = ⟨dyz z e, 0⟩ := by
 obtain ⟨h1, h2, h3⟩ := h
 have hb := bl_le _ _ h1
 have := (fitD_small (neg := decide (z < 0)) (n := z.natAbs) (e := e) (by omega) (by omega) (by omega)).1
 unfold dyz
 generalize fitD (decide (z < 0)) z.natAbs e = o at *
 cases o with | mk v k => simp only at this; subst this; rfl
theorem dyz_ok (z e : Int) : (dyz z e).Ok := (fitD_ok _ _ _).1
theorem dyz_q {z e : Int} (h : SmZ z e) : (dyz z e).q = (z : Rat) * pw e := by
 have := fitD_q (neg := decide (z < 0)) (n := z.natAbs) (e := e) (by rw [dyz_fit h])
 rw [sq_int] at this
 exact this
theorem dyz_bl {z e : Int} {p : Nat} (h : z.natAbs < 2 ^ p) : bl (dyz z e).m ≤ p := by
 unfold dyz fitD
 by_cases h0 : z.natAbs = 0
 ·rw [if_pos h0]; show bl dz.m ≤ p; simp [dz, bl]
 ·rw [if_neg h0]
  have : bl (z.natAbs / 2 ^ tz z.natAbs) ≤ p := Nat.le_trans (bl_mono (Nat.div_le_self _ _)) (bl_le _ _ h)
  split
  ·show bl dz.m ≤ p; simp [dz, bl]
  ·split
   ·show bl dz.m ≤ p; simp [dz, bl]
   ·split
    ·show bl dz.m ≤ p; simp [dz, bl]
    ·exact this
theorem dyz_few {z e : Int} (h : SmZ z e) : Few (dyz z e) 128 100 := by
 obtain ⟨h1, h2, h3⟩ := h
 refine ⟨dyz_ok z e, Nat.le_trans (dyz_bl (p := 60) h1) (by decide), ?_, ?_⟩
 ·unfold dyz fitD
  by_cases h0 : z.natAbs = 0
  ·rw [if_pos h0]; decide
  ·rw [if_neg h0]
   split
   ·decide
   ·split
    ·decide
    ·split
     ·decide
     ·simp only [good]; omega
 ·unfold dyz fitD
  by_cases h0 : z.natAbs = 0
  ·rw [if_pos h0]; decide
  ·rw [if_neg h0]
   have ht : tz z.natAbs < bl z.natAbs := tz_lt _ _ h0 (lt_two_bl _)
   have hb := bl_le _ _ h1
   split
   ·decide
   ·split
    ·decide
    ·split
     ·decide
     ·simp only [good]; omega
theorem dyz_eq {d : Dy} {z e : Int} (h : d.Ok) (hz : SmZ z e) (hq : d.q = (z : Rat) * pw e) : d = dyz z e :=
 q_inj h (dyz_ok z e) (hq.trans (dyz_q hz).symm)
theorem dyz_sum {a b e : Int} (ha : SmZ a e) (hb : SmZ b e) (hab : SmZ (a + b) e) : sumD (dyz a e) (dyz b e) = ⟨dyz (a + b) e, 0⟩ := by
 obtain ⟨h1, h2, -⟩ := sumD_few (dyz_few ha) (dyz_few hb)
 have hq := sumD_q h1
 rw [dyz_q ha, dyz_q hb] at hq
 have he := dyz_eq h2 hab (by rw [hq, Rat.intCast_add]; grind)
 generalize sumD (dyz a e) (dyz b e) = o at *
 cases o with | mk v k => simp only at h1 he; subst h1 he; rfl
theorem dyz_mul {a b e f : Int} (ha : SmZ a e) (hb : SmZ b f) (hab : SmZ (a * b) (e + f)) : mulD (dyz a e) (dyz b f) = ⟨dyz (a * b) (e + f), 0⟩ := by
 obtain ⟨h1, h2, -⟩ := mulD_few (dyz_few ha) (dyz_few hb)
 have hq := mulD_q h1
 rw [dyz_q ha, dyz_q hb] at hq
 have he := dyz_eq h2 hab (by rw [hq, Rat.intCast_mul, pw_add]; grind)
 generalize mulD (dyz a e) (dyz b f) = o at *
 cases o with | mk v k => simp only at h1 he; subst h1 he; rfl
theorem dyz_addI {a b e : Int} {p : Nat} (ha : SmZ a e) (hb : SmZ b e) (hab : SmZ (a + b) e) (hp : (a + b).natAbs < 2 ^ p) : addI (pt (dyz a e)) (pt (dyz b e)) p = ⟨pt (dyz (a + b) e), 0⟩ := by
 unfold addI pt
 simp only
 rw [dyz_sum ha hb hab, rndD_exact (o := ⟨dyz (a + b) e, 0⟩) rfl (dyz_ok _ _) (dyz_bl hp), rndD_exact (o := ⟨dyz (a + b) e, 0⟩) rfl (dyz_ok _ _) (dyz_bl hp)]; rfl
theorem dyz_mulI {a b e f : Int} {p : Nat} (ha : SmZ a e) (hb : SmZ b f) (hab : SmZ (a * b) (e + f)) (hp : (a * b).natAbs < 2 ^ p) : mulI (pt (dyz a e)) (pt (dyz b f)) p = ⟨pt (dyz (a * b) (e + f)), 0⟩ := by
 have h := dyz_mul ha hb hab
 unfold mulI pt
 simp only
 rw [h, four_all rfl rfl rfl rfl, leastD_same _ _ (by simp), greatestD_same _ _ (by simp), dirD_exact (dyz_ok _ _) (dyz_bl hp), dirD_exact (dyz_ok _ _) (dyz_bl hp)]; rfl
theorem dyz_round {a e : Int} {p : Nat} (hp : a.natAbs < 2 ^ p) : roundI (pt (dyz a e)) p = ⟨pt (dyz a e), 0⟩ := by
 unfold roundI pt
 simp only
 rw [dirD_exact (dyz_ok _ _) (dyz_bl hp), dirD_exact (dyz_ok _ _) (dyz_bl hp)]; rfl
theorem dyz_one : dyz 1 0 = d1 := by
 have : fitD false 1 0 = ⟨d1, 0⟩ := fit_1
 unfold dyz
 exact congrArg Outc.v this
theorem lineI1 (ov : Iv → Nat → Outc Iv) (e : En) (p : Nat) (out : List RawI) (a b : Int) (k : RawI) : lineI ov e p out ⟨1, a, b, k⟩ = roundI k.iv p := rfl
theorem lineI3 (ov : Iv → Nat → Outc Iv) (e : En) (p : Nat) (out : List RawI) (a b : Int) (k : RawI) : lineI ov e p out ⟨3, a, b, k⟩ = roundI (atI e.x a) p := rfl
theorem lineI6 (ov : Iv → Nat → Outc Iv) (e : En) (p : Nat) (out : List RawI) (a b : Int) (k : RawI) : lineI ov e p out ⟨6, a, b, k⟩ = addI (atI out a) (atI out b) p := rfl
theorem lineI8 (ov : Iv → Nat → Outc Iv) (e : En) (p : Nat) (out : List RawI) (a b : Int) (k : RawI) : lineI ov e p out ⟨8, a, b, k⟩ = mulI (atI out a) (atI out b) p := rfl
theorem derivS1 (p nx : Nat) (v : List RawI) (all : List (List RawI)) (a b : Int) (k : RawI) : derivS p nx v all ⟨1, a, b, k⟩ = (List.replicate nx rzI, 0) := rfl
theorem derivS3 (p nx : Nat) (v : List RawI) (all : List (List RawI)) (a b : Int) (k : RawI) : derivS p nx v all ⟨3, a, b, k⟩ = ((List.replicate nx rzI).set a.toNat (pt d1).raw, 0) := rfl
theorem derivS6 (p nx : Nat) (v : List RawI) (all : List (List RawI)) (a b : Int) (k : RawI) : derivS p nx v all ⟨6, a, b, k⟩ = rowG p 6 (atI v a) (atI v b) (atI v all.length) (all.getD a.toNat []) (all.getD b.toNat []) 0 := rfl
theorem derivS8 (p nx : Nat) (v : List RawI) (all : List (List RawI)) (a b : Int) (k : RawI) : derivS p nx v all ⟨8, a, b, k⟩ = rowG p 8 (atI v a) (atI v b) (atI v all.length) (all.getD a.toNat []) (all.getD b.toNat []) 0 := rfl
theorem oneS6 (p : Nat) (a b c da db : Iv) : oneS p 6 a b c da db 0 = addI da db p := rfl
theorem oneS8 {p : Nat} {a b c da db x y : Iv} (h1 : mulI da b p = ⟨x, 0⟩) (h2 : mulI a db p = ⟨y, 0⟩) : oneS p 8 a b c da db 0 = addI x y p := by
 have e1 : doI 8 da b p 0 = ⟨x, 0⟩ := h1
 have e2 : doI 8 a db p 0 = ⟨y, 0⟩ := h2
 show doI 6 (doI 8 da b p 0).v (doI 8 a db p (doI 8 da b p 0).k).v p (doI 8 a db p (doI 8 da b p 0).k).k = _
 rw [e1]; simp only; rw [e2]; rfl
/-- The i-th lines of such a tape. -/
def slp (i : Nat) : Int := if i = 0 then 0 else 4 * i - 1
def sll (k : Nat → Int) (i : Nat) : List Ln :=
 [⟨1, 0, 0, (pt (dyz (k i) (-3))).raw⟩, ⟨3, i, 0, rzI⟩, ⟨8, slp i, slp i + 1, rzI⟩] ++ (if i = 0 then [] else [⟨6, 4 * i - 2, 4 * i + 1, rzI⟩])
def slL (k : Nat → Int) : Nat → List Ln
 | 0 => []
 | m + 1 => slL k m ++ sll k m
/-- The sum of the first m products. -/
def slS (k y : Nat → Int) : Nat → Int
 | 0 => 0
 | m + 1 => slS k y m + k m * y m
def slv (k y : Nat → Int) (i : Nat) : List RawI :=
 [(pt (dyz (k i) (-3))).raw, (pt (dyz (y i) (-3))).raw, (pt (dyz (k i * y i) (-6))).raw] ++ (if i = 0 then [] else [(pt (dyz (slS k y (i + 1)) (-6))).raw])
def slV (k y : Nat → Int) : Nat → List RawI
 | 0 => []
 | m + 1 => slV k y m ++ slv k y m
theorem slV_len (k y : Nat → Int) : ∀ m, (slV k y m).length = 4 * m - 1
 | 0 => rfl
 | 1 => rfl
 | m + 2 => by
   have := slV_len k y (m + 1)
   rw [slV, List.length_append, this, slv, if_neg (by omega)]
   simp; omega
theorem slL_len (k : Nat → Int) : ∀ m, (slL k m).length = 4 * m - 1
 | 0 => rfl
 | 1 => rfl
 | m + 2 => by
   have := slL_len k (m + 1)
   rw [slL, List.length_append, this, sll, if_neg (by omega)]
   simp; omega
/-- The small numbers. -/
def SlB (k : Nat → Int) : Prop := ∀ i, (k i).natAbs ≤ 32
theorem mul_1024 {a b : Int} (ha : a.natAbs ≤ 32) (hb : b.natAbs ≤ 32) : (a * b).natAbs ≤ 1024 := by
 rw [Int.natAbs_mul]
 exact Nat.mul_le_mul ha hb
theorem slS_le {k y : Nat → Int} (hk : SlB k) (hy : SlB y) : ∀ m, (slS k y m).natAbs ≤ 1024 * m
 | 0 => by simp [slS]
 | m + 1 => by
   have h1 := slS_le hk hy m
   have h2 := mul_1024 (hk m) (hy m)
   rw [slS]
   omega
theorem p20 {z : Nat} {p : Nat} (hp : 20 ≤ p) (h : z < 2 ^ 20) : z < 2 ^ p := Nat.lt_of_lt_of_le h (Nat.pow_le_pow_right (by decide) hp)
theorem smZ {z e : Int} (h : z.natAbs ≤ 100000) (h1 : -40 ≤ e) (h2 : e ≤ 0) : SmZ z e := ⟨Nat.lt_of_le_of_lt h (by decide), h1, h2⟩
/-- The value at a place, of the last block. -/
theorem slV_at (k y : Nat → Int) {m i : Nat} (hi : i < m) (t : Nat) (ht : t < (slv k y i).length) : (slV k y m)[4 * i - 1 + t]? = (slv k y i)[t]? := by
 induction m with
 | zero => omega
 | succ m ih =>
   rw [slV]
   by_cases h : i = m
   ·subst h
    rw [List.getElem?_append_right (by rw [slV_len]; omega), slV_len]
    congr 1; omega
   ·have hl : (slv k y i).length ≤ 4 := by unfold slv; split <;> simp
    have h4 : i = 0 → (slv k y i).length = 3 := by intro h; subst h; rfl
    rw [List.getElem?_append_left (by rw [slV_len]; omega)]
    exact ih (by omega)
theorem atI_of {l : List RawI} {n : Nat} {a : Iv} {z : Int} (h : l[n]? = some a.raw) (hz : z = (n : Int)) : atI l z = a := by
 subst hz
 unfold atI
 rw [Int.toNat_natCast, List.getD_eq_getElem?_getD, h, Option.getD_some, Iv.raw_iv]
/-- The values of the lines. -/
theorem slV_lines {ov : Iv → Nat → Outc Iv} {k y : Nat → Int} (hk : SlB k) (hy : SlB y) {e : En} {p n : Nat} (hp : 20 ≤ p) (hn : n ≤ 6) (hx : ∀ i, i < n → e.x[i]? = some (pt (dyz (y i) (-3))).raw) :
 ∀ m, m ≤ n → ∀ rest, linesI ov e p [] (slL k m ++ rest) = linesI ov e p (slV k y m) rest
 | 0, _, rest => rfl
 | m + 1, hm, rest => by
   rw [slL, List.append_assoc, slV_lines hk hy hp hn hx m (by omega)]
   have b1 := hk m
   have b2 := hy m
   have b3 := mul_1024 b1 b2
   have b4 := slS_le hk hy (m + 1)
   have b5 := slS_le hk hy m
   have hl := slV_len k y m
   have e0 : lineI ov e p (slV k y m) ⟨1, 0, 0, (pt (dyz (k m) (-3))).raw⟩ = ⟨pt (dyz (k m) (-3)), 0⟩ := by
    rw [lineI1, Iv.raw_iv]; exact dyz_round (p20 hp (by omega))
   have e1 : lineI ov e p (slV k y m ++ [(pt (dyz (k m) (-3))).raw]) ⟨3, m, 0, rzI⟩ = ⟨pt (dyz (y m) (-3)), 0⟩ := by
    rw [lineI3, atI_of (hx m (by omega)) rfl]; exact dyz_round (p20 hp (by omega))
   have hs : slp m = ((4 * m - 1 : Nat) : Int) := by unfold slp; split <;> omega
   have e2 : lineI ov e p (slV k y m ++ [(pt (dyz (k m) (-3))).raw] ++ [(pt (dyz (y m) (-3))).raw]) ⟨8, slp m, slp m + 1, rzI⟩ = ⟨pt (dyz (k m * y m) (-6)), 0⟩ := by
    rw [lineI8,
     atI_of (n := 4 * m - 1) (a := pt (dyz (k m) (-3))) (by rw [List.append_assoc, List.getElem?_append_right (by omega), hl, Nat.sub_self]; rfl) hs,
     atI_of (n := 4 * m - 1 + 1) (a := pt (dyz (y m) (-3))) (by rw [List.append_assoc, List.getElem?_append_right (by omega), hl, Nat.add_sub_cancel_left]; rfl) (by show slp m + 1 = _; omega)]
    exact dyz_mulI (smZ (by omega) (by decide) (by decide)) (smZ (by omega) (by decide) (by decide)) (smZ (by omega) (by decide) (by decide)) (p20 hp (by omega))
   rw [show slV k y (m + 1) = slV k y m ++ slv k y m from rfl]
   by_cases h0 : m = 0
   ·subst h0
    unfold sll slv; rw [if_pos rfl, if_pos rfl, List.append_nil, List.append_nil]
    simp only [List.cons_append, List.nil_append]
    rw [linesI, e0, if_pos rfl, linesI, e1, if_pos rfl, linesI, e2, if_pos rfl]
    simp only [List.append_assoc, List.cons_append, List.nil_append]
   ·have e3 : lineI ov e p (slV k y m ++ [(pt (dyz (k m) (-3))).raw] ++ [(pt (dyz (y m) (-3))).raw] ++ [(pt (dyz (k m * y m) (-6))).raw]) ⟨6, 4 * m - 2, 4 * m + 1, rzI⟩ = ⟨pt (dyz (slS k y (m + 1)) (-6)), 0⟩ := by
     have hlast : (slV k y m)[4 * m - 2]? = some (pt (dyz (slS k y m) (-6))).raw := by
      obtain ⟨m, rfl⟩ : ∃ j, m = j + 1 := ⟨m - 1, by omega⟩
      by_cases h1 : m = 0
      ·subst h1
       show some (pt (dyz (k 0 * y 0) (-6))).raw = _
       simp [slS]
      ·rw [show 4 * (m + 1) - 2 = 4 * m - 1 + 3 by omega, slV_at k y (Nat.lt_succ_self m) 3 (by unfold slv; rw [if_neg h1]; simp)]
       unfold slv; rw [if_neg h1]; rfl
     rw [lineI6,
      atI_of (n := 4 * m - 2) (a := pt (dyz (slS k y m) (-6))) (by rw [List.append_assoc, List.append_assoc, List.getElem?_append_left (by omega)]; exact hlast) (by show (4 * (m : Int) - 2) = _; omega),
      atI_of (n := 4 * m - 1 + 2) (a := pt (dyz (k m * y m) (-6))) (by rw [List.append_assoc, List.append_assoc, List.getElem?_append_right (by omega), hl, Nat.add_sub_cancel_left]; rfl) (by show (4 * (m : Int) + 1) = _; omega)]
     rw [slS] at b4 ⊢
     exact dyz_addI (smZ (by omega) (by decide) (by decide)) (smZ (by omega) (by decide) (by decide)) (smZ (by omega) (by decide) (by decide)) (p20 hp (by omega))
    unfold sll slv; rw [if_neg h0, if_neg h0]
    simp only [List.cons_append, List.nil_append]
    rw [linesI, e0, if_pos rfl, linesI, e1, if_pos rfl, linesI, e2, if_pos rfl, linesI, e3, if_pos rfl]
    simp only [List.append_assoc, List.cons_append, List.nil_append]
def rowF (n : Nat) (f : Nat → RawI) : List RawI := (List.range n).map f
theorem rowF_congr {n : Nat} {f g : Nat → RawI} (h : ∀ j, j < n → f j = g j) : rowF n f = rowF n g := List.map_congr_left fun j hj => h j (List.mem_range.1 hj)
theorem rowF_zero (n : Nat) : List.replicate n rzI = rowF n (fun _ => rzI) := by
 unfold rowF
 rw [List.map_const', List.length_range]
theorem rowF_set (n m : Nat) (a : RawI) : (List.replicate n rzI).set m a = rowF n (fun j => if j = m then a else rzI) := by
 apply List.ext_getElem?
 intro j
 unfold rowF
 rw [List.getElem?_set, List.getElem?_map]
 by_cases hj : j < n
 ·rw [List.getElem?_range hj]
  by_cases h : m = j
  ·subst h; simp [hj]
  ·rw [if_neg h, List.getElem?_replicate, if_pos hj]
   simp [show ¬ j = m from fun h' => h h'.symm]
 ·have e1 : (List.range n)[j]? = none := by rw [List.getElem?_eq_none]; simp; omega
  rw [e1, List.getElem?_replicate, if_neg hj]
  simp
  intro h; omega
theorem rowG_map {p : Nat} {op : Int} {a b c : Iv} {f g : Nat → RawI} {h : Nat → Iv} : ∀ l : List Nat, (∀ j, j ∈ l → oneS p op a b c (f j).iv (g j).iv 0 = ⟨h j, 0⟩) →
 rowG p op a b c (l.map f) (l.map g) 0 = (l.map fun j => (h j).raw, 0)
 | [], _ => rfl
 | j :: l, H => by
   have h1 := H j (by simp)
   have h2 := rowG_map l (fun i hi => H i (by simp [hi]))
   simp only [List.map_cons, rowG, h1, h2]
theorem rowG_eq {p n : Nat} {op : Int} {a b c : Iv} {f g : Nat → RawI} {h : Nat → Iv} (H : ∀ j, j < n → oneS p op a b c (f j).iv (g j).iv 0 = ⟨h j, 0⟩) :
 rowG p op a b c (rowF n f) (rowF n g) 0 = (rowF n (fun j => (h j).raw), 0) := rowG_map _ fun j hj => H j (List.mem_range.1 hj)
theorem pz (e : Int) : iz = pt (dyz 0 e) := rfl
theorem pone : pt d1 = pt (dyz 1 0) := by rw [dyz_one]
/-- The rows of the i-th lines, of n states. -/
def slr (k : Nat → Int) (n i : Nat) : List (List RawI) :=
 [rowF n (fun _ => rzI), rowF n (fun j => if j = i then (pt d1).raw else rzI), rowF n (fun j => (if j = i then pt (dyz (k i) (-3)) else iz).raw)] ++
  (if i = 0 then [] else [rowF n (fun j => (if j ≤ i then pt (dyz (k j) (-3)) else iz).raw)])
def slR (k : Nat → Int) (n : Nat) : Nat → List (List RawI)
 | 0 => []
 | m + 1 => slR k n m ++ slr k n m
theorem slR_len (k : Nat → Int) (n : Nat) : ∀ m, (slR k n m).length = 4 * m - 1
 | 0 => rfl
 | 1 => rfl
 | m + 2 => by
   have := slR_len k n (m + 1)
   rw [slR, List.length_append, this, slr, if_neg (by omega)]
   simp; omega
theorem slR_last (k : Nat → Int) (n : Nat) : ∀ m, (slR k n (m + 1))[4 * m + 2]? = some (rowF n (fun j => (if j ≤ m then pt (dyz (k j) (-3)) else iz).raw))
 | 0 => by
   show some (rowF n _) = some (rowF n _)
   congr 1
   apply rowF_congr
   intro j _
   by_cases h : j = 0
   ·subst h; rfl
   ·rw [if_neg h, if_neg (by omega)]
 | m + 1 => by
   rw [slR, List.getElem?_append_right (by rw [slR_len]; omega), slR_len]; unfold slr; rw [if_neg (by omega)]
   rw [show 4 * (m + 1) + 2 - (4 * (m + 1) - 1) = 3 by omega]
   rfl
theorem one_mul {p : Nat} (hp : 20 ≤ p) {a y c : Int} {cc : Iv} {db : Iv} (ha : a.natAbs ≤ 32) (hy : y.natAbs ≤ 32) (hc : c.natAbs ≤ 1) (hdb : db = pt (dyz c 0)) :
 oneS p 8 (pt (dyz a (-3))) (pt (dyz y (-3))) cc iz db 0 = ⟨pt (dyz (a * c) (-3)), 0⟩ := by
 subst hdb
 have hac : (a * c).natAbs ≤ 32 := by
  rw [Int.natAbs_mul]
  have : a.natAbs * c.natAbs ≤ 32 * 1 := Nat.mul_le_mul ha hc
  omega
 have h1 : mulI (pt (dyz 0 (-3))) (pt (dyz y (-3))) p = ⟨pt (dyz (0 * y) (-3 + -3)), 0⟩ :=
  dyz_mulI (smZ (by decide) (by decide) (by decide)) (smZ (by omega) (by decide) (by decide)) (by rw [Int.zero_mul]; exact smZ (by decide) (by decide) (by decide)) (by rw [Int.zero_mul]; exact p20 hp (by decide))
 rw [Int.zero_mul] at h1
 have h2 : mulI (pt (dyz a (-3))) (pt (dyz c 0)) p = ⟨pt (dyz (a * c) (-3 + 0)), 0⟩ :=
  dyz_mulI (smZ (by omega) (by decide) (by decide)) (smZ (by omega) (by decide) (by decide)) (smZ (by omega) (by decide) (by decide)) (p20 hp (by omega))
 have h3 := dyz_addI (a := 0) (b := a * c) (e := -3) (p := p) (smZ (by decide) (by decide) (by decide)) (smZ (by omega) (by decide) (by decide)) (by rw [Int.zero_add]; exact smZ (by omega) (by decide) (by decide)) (by rw [Int.zero_add]; exact p20 hp (by omega))
 rw [Int.zero_add] at h3
 exact (oneS8 h1 h2).trans h3
/-- The derivatives of the lines. -/
theorem slR_grad {k y : Nat → Int} (hk : SlB k) (hy : SlB y) {p n : Nat} (hp : 20 ≤ p) (hn : n ≤ 6) :
 ∀ m, m ≤ n → ∀ rest, gradS p n (slV k y n) [] (slL k m ++ rest) = gradS p n (slV k y n) (slR k n m) rest
 | 0, _, rest => rfl
 | m + 1, hm, rest => by
   rw [slL, List.append_assoc, slR_grad hk hy hp hn m (by omega)]
   have b1 := hk m
   have b2 := hy m
   have hl := slR_len k n m
   have hs : slp m = ((4 * m - 1 : Nat) : Int) := by unfold slp; split <;> omega
   have hs1 : (slp m).toNat = 4 * m - 1 := by rw [hs]; exact Int.toNat_natCast _
   have hs2 : (slp m + 1).toNat = 4 * m - 1 + 1 := by rw [hs]; omega
   have v0 : atI (slV k y n) (slp m) = pt (dyz (k m) (-3)) := atI_of (n := 4 * m - 1 + 0) (by rw [slV_at k y (by omega) 0 (by unfold slv; simp)]; rfl) hs
   have v1 : atI (slV k y n) (slp m + 1) = pt (dyz (y m) (-3)) := atI_of (n := 4 * m - 1 + 1) (by rw [slV_at k y (by omega) 1 (by unfold slv; simp)]; rfl) (by omega)
   have e0 : derivS p n (slV k y n) (slR k n m) ⟨1, 0, 0, (pt (dyz (k m) (-3))).raw⟩ = (rowF n (fun _ => rzI), 0) := by
    rw [derivS1, rowF_zero]
   have e1 : derivS p n (slV k y n) (slR k n m ++ [rowF n (fun _ => rzI)]) ⟨3, m, 0, rzI⟩ = (rowF n (fun j => if j = m then (pt d1).raw else rzI), 0) := by
    rw [derivS3, Int.toNat_natCast, rowF_set]
   have e2 : derivS p n (slV k y n) (slR k n m ++ [rowF n (fun _ => rzI)] ++ [rowF n (fun j => if j = m then (pt d1).raw else rzI)]) ⟨8, slp m, slp m + 1, rzI⟩ =
    (rowF n (fun j => (if j = m then pt (dyz (k m) (-3)) else iz).raw), 0) := by
    rw [derivS8, v0, v1, hs1, hs2]
    have g0 : (slR k n m ++ [rowF n (fun _ => rzI)] ++ [rowF n (fun j => if j = m then (pt d1).raw else rzI)]).getD (4 * m - 1) [] = rowF n (fun _ => rzI) := by
     rw [List.getD_eq_getElem?_getD, List.append_assoc, List.getElem?_append_right (by omega), hl, Nat.sub_self]; rfl
    have g1 : (slR k n m ++ [rowF n (fun _ => rzI)] ++ [rowF n (fun j => if j = m then (pt d1).raw else rzI)]).getD (4 * m - 1 + 1) [] = rowF n (fun j => if j = m then (pt d1).raw else rzI) := by
     rw [List.getD_eq_getElem?_getD, List.append_assoc, List.getElem?_append_right (by omega), hl, Nat.add_sub_cancel_left]; rfl
    rw [g0, g1]
    refine rowG_eq fun j _ => ?_
    rw [rzI_iv]
    by_cases h : j = m
    ·rw [if_pos h, if_pos h, one_mul hp (c := 1) b1 b2 (by decide) (by rw [Iv.raw_iv, pone]), Int.mul_one]
    ·rw [if_neg h, if_neg h, one_mul hp (c := 0) b1 b2 (by decide) (by rw [rzI_iv, pz 0]), Int.mul_zero]
     rfl
   rw [show slR k n (m + 1) = slR k n m ++ slr k n m from rfl]
   by_cases h0 : m = 0
   ·subst h0
    unfold sll slr; rw [if_pos rfl, if_pos rfl, List.append_nil, List.append_nil]
    simp only [List.cons_append, List.nil_append]
    rw [gradS, e0]
    simp only [if_true]
    rw [gradS, e1]
    simp only [if_true]
    rw [gradS, e2]
    simp only [if_true, List.append_assoc, List.cons_append, List.nil_append]
   ·have e3 : derivS p n (slV k y n) (slR k n m ++ [rowF n (fun _ => rzI)] ++ [rowF n (fun j => if j = m then (pt d1).raw else rzI)] ++ [rowF n (fun j => (if j = m then pt (dyz (k m) (-3)) else iz).raw)]) ⟨6, 4 * m - 2, 4 * m + 1, rzI⟩ =
     (rowF n (fun j => (if j ≤ m then pt (dyz (k j) (-3)) else iz).raw), 0) := by
     rw [derivS6]
     obtain ⟨i, rfl⟩ : ∃ i, m = i + 1 := ⟨m - 1, by omega⟩
     have t0 : (4 * ((i + 1 : Nat) : Int) - 2).toNat = 4 * i + 2 := by omega
     have t1 : (4 * ((i + 1 : Nat) : Int) + 1).toNat = 4 * (i + 1) - 1 + 2 := by omega
     rw [t0, t1]
     have g0 : (slR k n (i + 1) ++ [rowF n (fun _ => rzI)] ++ [rowF n (fun j => if j = i + 1 then (pt d1).raw else rzI)] ++ [rowF n (fun j => (if j = i + 1 then pt (dyz (k (i + 1)) (-3)) else iz).raw)]).getD (4 * i + 2) [] = rowF n (fun j => (if j ≤ i then pt (dyz (k j) (-3)) else iz).raw) := by
      rw [List.getD_eq_getElem?_getD, List.append_assoc, List.append_assoc, List.getElem?_append_left (by omega), slR_last]; rfl
     have g1 : (slR k n (i + 1) ++ [rowF n (fun _ => rzI)] ++ [rowF n (fun j => if j = i + 1 then (pt d1).raw else rzI)] ++ [rowF n (fun j => (if j = i + 1 then pt (dyz (k (i + 1)) (-3)) else iz).raw)]).getD (4 * (i + 1) - 1 + 2) [] = rowF n (fun j => (if j = i + 1 then pt (dyz (k (i + 1)) (-3)) else iz).raw) := by
      rw [List.getD_eq_getElem?_getD, List.append_assoc, List.append_assoc, List.getElem?_append_right (by omega), hl, Nat.add_sub_cancel_left]; rfl
     rw [g0, g1]
     refine rowG_eq fun j _ => ?_
     rw [Iv.raw_iv, Iv.raw_iv]
     have bj := hk j
     have step : ∀ (x1 x2 x3 : Iv) (a b : Int), a.natAbs ≤ 32 → b.natAbs ≤ 32 → oneS p 6 x1 x2 x3 (pt (dyz a (-3))) (pt (dyz b (-3))) 0 = ⟨pt (dyz (a + b) (-3)), 0⟩ := by
      intro x1 x2 x3 a b ha hb
      rw [oneS6]
      exact dyz_addI (smZ (by omega) (by decide) (by decide)) (smZ (by omega) (by decide) (by decide)) (smZ (by omega) (by decide) (by decide)) (p20 hp (by omega))
     by_cases h : j = i + 1
     ·subst h
      rw [if_neg (by omega), if_pos rfl, if_pos (Nat.le_refl _), pz (-3), step _ _ _ 0 _ (by decide) bj, Int.zero_add]
     ·by_cases h2 : j ≤ i
      ·rw [if_pos h2, if_neg h, if_pos (by omega), pz (-3), step _ _ _ _ 0 bj (by decide), Int.add_zero]
      ·rw [if_neg h2, if_neg h, if_neg (by omega), pz (-3), step _ _ _ 0 0 (by decide) (by decide)]
       rfl
    unfold sll slr; rw [if_neg h0, if_neg h0]
    simp only [List.cons_append, List.nil_append]
    rw [gradS, e0]
    simp only [if_true]
    rw [gradS, e1]
    simp only [if_true]
    rw [gradS, e2]
    simp only [if_true]
    rw [gradS, e3]
    simp only [if_true, List.append_assoc, List.cons_append, List.nil_append]
theorem dz_rawz : dz.raw = rz := by unfold Dy.raw dz rz; simp only [limbs_zero]
theorem iz_rawz : iz.raw = rzI := by unfold Iv.raw iz rzI; simp only [dz_rawz]
/-- Boxes: a Dyad, a Dyad, the result's. -/
theorem boxddi (w : World) (x y z p q r : Value) : ∃ W, W = ((w.alloc (.cells #[x, y, z] 30)).alloc (.cells #[p, q, r] 30)).alloc (.cells #[.bool false, .slice none 0 0, .int .i64 0, .bool false, .slice none 0 0, .int .i64 0] 32) ∧
 Kept w W ∧ Blk W w.heap.size x y z ∧ Blk W (w.heap.size + 1) p q r ∧ BlkI W (w.heap.size + 1 + 1) (.bool false) (.slice none 0 0) (.int .i64 0) (.bool false) (.slice none 0 0) (.int .i64 0) := by
 refine ⟨_, rfl, ((kept_alloc _ _).trans (kept_alloc _ _)).trans (kept_alloc _ _), ?_, ?_, ?_⟩
 ·exact (blk_alloc (blk_new _ _ _ _) _).kept (kept_alloc _ _)
 ·exact (blk_new1 _ _ _ _ _).kept (kept_alloc _ _)
 ·have := blkI_zero ((w.alloc (.cells #[x, y, z] 30)).alloc (.cells #[p, q, r] 30))
  simp only [World.size_alloc] at this
  exact this
/-- .. an interval, the result's. -/
theorem boxir (w : World) (x y z x' y' z' : Value) : ∃ W, W = (w.alloc (.cells #[x, y, z, x', y', z'] 32)).alloc (.cells #[.bool false, .slice none 0 0, .int .i64 0, .bool false, .slice none 0 0, .int .i64 0] 32) ∧
 Kept w W ∧ BlkI W w.heap.size x y z x' y' z' ∧ BlkI W (w.heap.size + 1) (.bool false) (.slice none 0 0) (.int .i64 0) (.bool false) (.slice none 0 0) (.int .i64 0) := by
 refine ⟨_, rfl, (kept_alloc _ _).trans (kept_alloc _ _), (blkI_new _ _ _ _ _ _ _).kept (kept_alloc _ _), ?_⟩
 have := blkI_zero (w.alloc (.cells #[x, y, z, x', y', z'] 32))
 simp only [World.size_alloc] at this
 exact this
theorem both_c {w : World} {v u : Value} {o1 o2 : Outc Dy} (hv : DyR w v o1.v.raw) (hu : DyR w u o2.v.raw) :
 Calls Tryz.prog 103 #[v, .int .i64 o1.k, u, .int .i64 o2.k] w (RetIE (rawO (ends o1 o2)) w) := by
 obtain ⟨A, l, c, rfl, h1⟩ := dyR_split hv
 obtain ⟨B, j, e, rfl, g1⟩ := dyR_split hu
 obtain ⟨W, hW, kW, BA, BB, BR⟩ := boxddi w (.bool o1.v.neg) (.slice A l c) (.int .i64 o1.v.e) (.bool o2.v.neg) (.slice B j e) (.int .i64 o2.v.e)
 have Z1 := Lib.hid (h1.kept kW)
 have Z2 := Lib.hid (g1.kept kW)
 have HW := Lib.hid hW
 have HK := Lib.hid kW
 obtain ⟨-, c0, c1, c2, -⟩ := BA.facts
 obtain ⟨-, d0, d1, d2, -⟩ := BB.facts
 have HR := Lib.hid BR
 obtain ⟨-, r0, r1, r2, r3, r4, r5⟩ := BR.facts
 obtain ⟨f0, f1, f2, f3, f4, f5⟩ := BR.free
 clear hW kW BA BB BR h1 g1 hv hu
 by_cases k1 : o1.k = 0
 ·by_cases k2 : o2.k = 0
  ·have ho : rawO (ends o1 o2) = ⟨⟨o1.v.raw, o2.v.raw⟩, 0⟩ := by
    unfold ends; rw [Outc.bind_of _ _ k1, Outc.bind_of _ _ k2]; rfl
   rw [ho, k1, k2]
   have HO := Lib.hid ho
   clear ho k1 k2
   generalize o1.v.neg = n1 at *
   generalize o1.v.e = e1 at *
   generalize o2.v.neg = n2 at *
   generalize o2.v.e = e2 at *
   generalize o1.v.raw = r1 at *
   generalize o2.v.raw = r2 at *
   go_enter Tryz.func103, Tryz.ntmps103
   go_upto_region 1 with fail
   rw [← HW.out]
   go_wp2_with fail
   exact ret_iv2 (HR.out.laid _ _ _ _ _ _) rfl rfl rfl ⟨ivW_kept HK.out (by omega), _, rfl, _, _, _, _, _, _, rfl, Z1.out.ivW HR.out _ _ _ _ _ _, Z2.out.ivW HR.out _ _ _ _ _ _⟩
  ·have ho : rawO (ends o1 o2) = ⟨rzI, o2.k⟩ := by
    unfold ends Outc.bind; rw [if_pos k1]; simp only [if_neg k2]; exact congrArg (Outc.mk · o2.k) iz_rawz
   rw [ho, k1]
   have k2' : (o2.k != 0) = true := by simp [k2]
   clear ho k1 k2
   generalize o1.v.neg = n1 at *
   generalize o1.v.e = e1 at *
   generalize o2.v.neg = n2 at *
   generalize o2.v.e = e2 at *
   generalize o1.v.raw = r1 at *
   generalize o2.v.raw = r2 at *
   generalize o2.k = q2 at *
   go_enter Tryz.func103, Tryz.ntmps103
   go_upto_region 1 with fail
   rw [← HW.out]
   go_wp2_with fail
   exact ret_iv2 (HR.out.laid _ _ _ _ _ _) rfl rfl rfl ⟨ivW_kept HK.out (by omega), _, rfl, ivR_zero _⟩
 ·have ho : rawO (ends o1 o2) = ⟨rzI, o1.k⟩ := by
   unfold ends Outc.bind; rw [if_neg k1]; exact congrArg (Outc.mk · o1.k) iz_rawz
  rw [ho]
  have k1' : (o1.k != 0) = true := by simp [k1]
  clear ho k1
  generalize o1.v.neg = n1 at *
  generalize o1.v.e = e1 at *
  generalize o2.v.neg = n2 at *
  generalize o2.v.e = e2 at *
  generalize o1.v.raw = r1 at *
  generalize o2.v.raw = r2 at *
  generalize o2.k = q2 at *
  generalize o1.k = q1 at *
  go_enter Tryz.func103, Tryz.ntmps103
  go_upto_region 1 with fail
  rw [← HW.out]
  go_wp2_with fail
  exact ret_iv2 (HR.out.laid _ _ _ _ _ _) rfl rfl rfl ⟨ivW_kept HK.out (by omega), _, rfl, ivR_zero _⟩
theorem boxD (w : World) (x y z : Value) : ∃ V, V = w.alloc (.cells #[x, y, z] 30) ∧ Kept w V ∧ Blk V w.heap.size x y z ∧ w.heap.size < V.heap.size :=
 ⟨_, rfl, kept_alloc _ _, blk_new _ _ _ _, by simp⟩
theorem iround_c {w : World} {v : Value} {a : Iv} {p : Nat} (hv : IvC w v a) (ha : a.Ok) (hT : Tab w) (p1 : 1 ≤ p) (p2 : p ≤ 2000) :
 Calls Tryz.prog 61 #[v, .int .i64 p] w (RetIE (rawO (roundI a p)) w) := by
 have m1 := fun w1 (k : Kept w w1) => imayT_c (hv.kept k) ha
 obtain ⟨A, l, c, A', l', c', rfl, h1, h2⟩ := ivC_split hv
 have c1 := fun w1 (k : Kept w w1) => Down_c (h1.kept k) ha.lo (hT.kept k) p1 p2
 have c2 := fun w1 (k : Kept w w1) => Up_c (h2.kept k) ha.hi (hT.kept k) p1 p2
 have hdef : roundI a p = ends (dirD a.lo p false) (dirD a.hi p true) := rfl
 rw [hdef]
 obtain ⟨W, hW, kW, BI, BR⟩ := boxir w (.bool a.lo.neg) (.slice A l c) (.int .i64 a.lo.e) (.bool a.hi.neg) (.slice A' l' c') (.int .i64 a.hi.e)
 have M1 := Lib.hid m1
 have C1 := Lib.hid c1
 have C2 := Lib.hid c2
 have HW := Lib.hid hW
 have K := Lib.hid kW
 have HB := Lib.hid BI
 have HR := Lib.hid BR
 clear m1 c1 c2 hW kW BI BR h1 h2 hv ha hT hdef
 generalize dirD a.lo p false = o1 at *
 generalize dirD a.hi p true = o2 at *
 generalize a.lo.neg = n1 at *
 generalize a.lo.e = e1 at *
 generalize a.hi.neg = n2 at *
 generalize a.hi.e = e2 at *
 go_enter Tryz.func61, Tryz.ntmps61
 go_wp2_with fail
 rw [← HW.out]
 refine (M1.out _ K.out).mono ?_
 rintro e w1 ⟨rfl, q⟩
 replace K := Lib.hid (K.out.trans q)
 replace HB := Lib.hid (HB.out.kept q)
 replace HR := Lib.hid (HR.out.kept q)
 clear q M1 HW
 obtain ⟨-, c0, c1, c2, c3, c4, c5⟩ := HB.out.facts
 simp only []
 go_wp2_with fail
 refine (C1.out _ K.out).mono ?_
 rintro e w2 ⟨q, u, rfl, hd⟩
 obtain ⟨PX, pX, qX, rfl, z1⟩ := dyR_split hd
 simp only []
 obtain ⟨VX, hV, kV, hb, lV⟩ := boxD w2 (.bool o1.v.neg) (.slice PX pX qX) (.int .i64 o1.v.e)
 have HV := Lib.hid hV
 have kk := q.trans kV
 have lt1 : w.heap.size + 1 < w2.heap.size := Nat.lt_of_lt_of_le HR.out.facts.1 q.size
 replace K := Lib.hid (K.out.trans kk)
 replace HB := Lib.hid (HB.out.kept kk); replace HR := Lib.hid (HR.out.kept kk)
 have HX := Lib.hid hb
 have ZX := Lib.hid (z1.kept kV)
 clear hV kV hb lV kk q hd z1 c0 c1 c2 c3 c4 c5 C1
 go_upto_region 4 with fail
 rw [← HV.out]
 clear HV
 generalize w2.heap.size = bX at *
 obtain ⟨-, c0, c1, c2, c3, c4, c5⟩ := HB.out.facts
 go_wp2_with fail
 refine (C2.out _ K.out).mono ?_
 rintro e w2 ⟨q, u, rfl, hd⟩
 obtain ⟨PY, pY, qY, rfl, z1⟩ := dyR_split hd
 simp only []
 obtain ⟨VY, hV, kV, hb, lV⟩ := boxD w2 (.bool o2.v.neg) (.slice PY pY qY) (.int .i64 o2.v.e)
 have HV := Lib.hid hV
 have kk := q.trans kV
 have lt2 : bX < w2.heap.size := Nat.lt_of_lt_of_le HX.out.facts.1 q.size
 replace K := Lib.hid (K.out.trans kk)
 replace HR := Lib.hid (HR.out.kept kk); replace HX := Lib.hid (HX.out.kept kk); replace ZX := Lib.hid (ZX.out.kept kk)
 have HY := Lib.hid hb
 have ZY := Lib.hid (z1.kept kV)
 clear hV kV hb lV kk q hd z1 c0 c1 c2 c3 c4 c5 C2 HB
 go_upto_region 5 with fail
 rw [← HV.out]
 clear HV
 generalize w2.heap.size = bY at *
 obtain ⟨-, c0, c1, c2, -⟩ := HX.out.facts
 obtain ⟨-, d0, d1, d2, -⟩ := HY.out.facts
 go_wp2_with fail
 refine (both_c ZX.out ZY.out).mono ?_
 rintro e w2 ⟨q, u, rfl, hd⟩
 obtain ⟨P, p', q', R, r, s, rfl, z1, z2⟩ := ivR_split hd
 have hr := HR.out.kept q
 obtain ⟨-, r0, r1, r2, r3, r4, r5⟩ := hr.facts
 obtain ⟨f0, f1, f2, f3, f4, f5⟩ := hr.free
 have HRR := Lib.hid hr
 have Z1 := Lib.hid z1
 have Z2 := Lib.hid z2
 clear hr z1 z2 hd c0 c1 c2 d0 d1 d2
 simp only []
 go_wp2_with fail
 exact ret_iv2 (HRR.out.laid _ _ _ _ _ _) rfl rfl rfl ⟨ivW_kept (K.out.trans q) (by omega), _, rfl, _, _, _, _, _, _, rfl, Z1.out.ivW HRR.out _ _ _ _ _ _, Z2.out.ivW HRR.out _ _ _ _ _ _⟩
theorem boxiir (w : World) (x y z x' y' z' p q r p' q' r' : Value) : ∃ W, W = ((w.alloc (.cells #[x, y, z, x', y', z'] 32)).alloc (.cells #[p, q, r, p', q', r'] 32)).alloc (.cells #[.bool false, .slice none 0 0, .int .i64 0, .bool false, .slice none 0 0, .int .i64 0] 32) ∧
 Kept w W ∧ BlkI W w.heap.size x y z x' y' z' ∧ BlkI W (w.heap.size + 1) p q r p' q' r' ∧ BlkI W (w.heap.size + 1 + 1) (.bool false) (.slice none 0 0) (.int .i64 0) (.bool false) (.slice none 0 0) (.int .i64 0) := by
 obtain ⟨W, hW, k, b1, b2⟩ := box2ii w x y z x' y' z' p q r p' q' r'
 refine ⟨_, rfl, ?_, ?_, ?_, ?_⟩
 ·rw [← hW]; exact k.trans (kept_alloc _ _)
 ·rw [← hW]; exact b1.kept (kept_alloc _ _)
 ·rw [← hW]; exact b2.kept (kept_alloc _ _)
 ·have := blkI_zero ((w.alloc (.cells #[x, y, z, x', y', z'] 32)).alloc (.cells #[p, q, r, p', q', r'] 32))
  simp only [World.size_alloc] at this
  exact this
theorem tone_c {ov : Iv → Nat → Outc Iv} {w : World} {va vb : Value} {a b : Iv} {op : Int} {p : Nat} (ha : IvC w va a) (hb : IvC w vb b) (oa : a.Ok) (ob : b.Ok) (hT : Tab w) (p1 : 1 ≤ p) (p2 : p ≤ 2000)
 (hov : ¬ (6 ≤ op ∧ op ≤ 12) → ∀ w1, Kept w w1 → Calls Tryz.prog 113 #[va, .int .i64 p] w1 (RetIE (rawO (ov a p)) w1)) :
 Calls Tryz.prog 70 #[.int .i64 op, va, vb, .int .i64 p] w (RetIE (rawO (oneI ov op a b p)) w) := by
 have IA := Lib.hid ha
 have IB := Lib.hid hb
 have OA := Lib.hid (And.intro oa ob)
 have T := Lib.hid hT
 have HOV := Lib.hid hov
 clear ha hb oa ob hT hov
 obtain ⟨A, l, c, A', l', c', rfl, -, -⟩ := ivC_split IA.out
 obtain ⟨B, j, e, B', j', e', rfl, -, -⟩ := ivC_split IB.out
 obtain ⟨W, hW, kW, BI, BJ, BR⟩ := boxiir w (.bool a.lo.neg) (.slice A l c) (.int .i64 a.lo.e) (.bool a.hi.neg) (.slice A' l' c') (.int .i64 a.hi.e) (.bool b.lo.neg) (.slice B j e) (.int .i64 b.lo.e) (.bool b.hi.neg) (.slice B' j' e') (.int .i64 b.hi.e)
 have HW := Lib.hid hW
 have K := Lib.hid kW
 obtain ⟨-, c0, c1, c2, c3, c4, c5⟩ := BI.facts
 obtain ⟨-, d0, d1, d2, d3, d4, d5⟩ := BJ.facts
 have HR := Lib.hid BR
 clear hW kW BI BJ BR
 by_cases h6 : op = 6
 ·obtain rfl : op = 6 := h6
  have ho : oneI ov 6 a b p = addI a b p := by simp [oneI]
  rw [ho]
  have CC := Lib.hid (fun w1 (k : Kept w w1) => Add_k (IA.out.kept k) (IB.out.kept k) OA.out.1 OA.out.2 (T.out.kept k) p1 p2)
  clear ho IA IB OA T HOV
  generalize rawO _ = o at *
  generalize a.lo.neg = n1 at *
  generalize a.lo.e = e1 at *
  generalize a.hi.neg = n2 at *
  generalize a.hi.e = e2 at *
  generalize b.lo.neg = n3 at *
  generalize b.lo.e = e3 at *
  generalize b.hi.neg = n4 at *
  generalize b.hi.e = e4 at *
  go_enter Tryz.func70, Tryz.ntmps70
  go_upto_region 1 with fail
  rw [← HW.out]
  go_wp2_with fail
  refine (CC.out _ K.out).mono ?_
  rintro e w2 ⟨q, u, rfl, hd⟩
  obtain ⟨P, p', q', R, r, s, rfl, z1, z2⟩ := ivR_split hd
  have hr := HR.out.kept q
  obtain ⟨-, r0, r1, r2, r3, r4, r5⟩ := hr.facts
  obtain ⟨f0, f1, f2, f3, f4, f5⟩ := hr.free
  have HRR := Lib.hid hr
  have Z1 := Lib.hid z1
  have Z2 := Lib.hid z2
  clear hr z1 z2 hd c0 c1 c2 c3 c4 c5 d0 d1 d2 d3 d4 d5
  simp only []
  go_wp2_with fail
  exact ret_iv2 (HRR.out.laid _ _ _ _ _ _) rfl rfl rfl ⟨ivW_kept (K.out.trans q) (by omega), _, rfl, _, _, _, _, _, _, rfl, Z1.out.ivW HRR.out _ _ _ _ _ _, Z2.out.ivW HRR.out _ _ _ _ _ _⟩
 by_cases h7 : op = 7
 ·obtain rfl : op = 7 := h7
  have ho : oneI ov 7 a b p = subI a b p := by simp [oneI]
  rw [ho]
  have CC := Lib.hid (fun w1 (k : Kept w w1) => Sub_k (IA.out.kept k) (IB.out.kept k) OA.out.1 OA.out.2 (T.out.kept k) p1 p2)
  clear ho IA IB OA T HOV
  generalize rawO _ = o at *
  generalize a.lo.neg = n1 at *
  generalize a.lo.e = e1 at *
  generalize a.hi.neg = n2 at *
  generalize a.hi.e = e2 at *
  generalize b.lo.neg = n3 at *
  generalize b.lo.e = e3 at *
  generalize b.hi.neg = n4 at *
  generalize b.hi.e = e4 at *
  go_enter Tryz.func70, Tryz.ntmps70
  go_upto_region 1 with fail
  rw [← HW.out]
  go_wp2_with fail
  refine (CC.out _ K.out).mono ?_
  rintro e w2 ⟨q, u, rfl, hd⟩
  obtain ⟨P, p', q', R, r, s, rfl, z1, z2⟩ := ivR_split hd
  have hr := HR.out.kept q
  obtain ⟨-, r0, r1, r2, r3, r4, r5⟩ := hr.facts
  obtain ⟨f0, f1, f2, f3, f4, f5⟩ := hr.free
  have HRR := Lib.hid hr
  have Z1 := Lib.hid z1
  have Z2 := Lib.hid z2
  clear hr z1 z2 hd c0 c1 c2 c3 c4 c5 d0 d1 d2 d3 d4 d5
  simp only []
  go_wp2_with fail
  exact ret_iv2 (HRR.out.laid _ _ _ _ _ _) rfl rfl rfl ⟨ivW_kept (K.out.trans q) (by omega), _, rfl, _, _, _, _, _, _, rfl, Z1.out.ivW HRR.out _ _ _ _ _ _, Z2.out.ivW HRR.out _ _ _ _ _ _⟩
 by_cases h8 : op = 8
 ·obtain rfl : op = 8 := h8
  have ho : oneI ov 8 a b p = mulI a b p := by simp [oneI]
  rw [ho]
  have CC := Lib.hid (fun w1 (k : Kept w w1) => Mul_k (IA.out.kept k) (IB.out.kept k) OA.out.1 OA.out.2 (T.out.kept k) p1 p2)
  clear ho IA IB OA T HOV
  generalize rawO _ = o at *
  generalize a.lo.neg = n1 at *
  generalize a.lo.e = e1 at *
  generalize a.hi.neg = n2 at *
  generalize a.hi.e = e2 at *
  generalize b.lo.neg = n3 at *
  generalize b.lo.e = e3 at *
  generalize b.hi.neg = n4 at *
  generalize b.hi.e = e4 at *
  go_enter Tryz.func70, Tryz.ntmps70
  go_upto_region 1 with fail
  rw [← HW.out]
  go_wp2_with fail
  refine (CC.out _ K.out).mono ?_
  rintro e w2 ⟨q, u, rfl, hd⟩
  obtain ⟨P, p', q', R, r, s, rfl, z1, z2⟩ := ivR_split hd
  have hr := HR.out.kept q
  obtain ⟨-, r0, r1, r2, r3, r4, r5⟩ := hr.facts
  obtain ⟨f0, f1, f2, f3, f4, f5⟩ := hr.free
  have HRR := Lib.hid hr
  have Z1 := Lib.hid z1
  have Z2 := Lib.hid z2
  clear hr z1 z2 hd c0 c1 c2 c3 c4 c5 d0 d1 d2 d3 d4 d5
  simp only []
  go_wp2_with fail
  exact ret_iv2 (HRR.out.laid _ _ _ _ _ _) rfl rfl rfl ⟨ivW_kept (K.out.trans q) (by omega), _, rfl, _, _, _, _, _, _, rfl, Z1.out.ivW HRR.out _ _ _ _ _ _, Z2.out.ivW HRR.out _ _ _ _ _ _⟩
 by_cases h9 : op = 9
 ·obtain rfl : op = 9 := h9
  have ho : oneI ov 9 a b p = divI a b p := by simp [oneI]
  rw [ho]
  have CC := Lib.hid (fun w1 (k : Kept w w1) => Div_k (IA.out.kept k) (IB.out.kept k) OA.out.1 OA.out.2 (T.out.kept k) p1 p2)
  clear ho IA IB OA T HOV
  generalize rawO _ = o at *
  generalize a.lo.neg = n1 at *
  generalize a.lo.e = e1 at *
  generalize a.hi.neg = n2 at *
  generalize a.hi.e = e2 at *
  generalize b.lo.neg = n3 at *
  generalize b.lo.e = e3 at *
  generalize b.hi.neg = n4 at *
  generalize b.hi.e = e4 at *
  go_enter Tryz.func70, Tryz.ntmps70
  go_upto_region 1 with fail
  rw [← HW.out]
  go_wp2_with fail
  refine (CC.out _ K.out).mono ?_
  rintro e w2 ⟨q, u, rfl, hd⟩
  obtain ⟨P, p', q', R, r, s, rfl, z1, z2⟩ := ivR_split hd
  have hr := HR.out.kept q
  obtain ⟨-, r0, r1, r2, r3, r4, r5⟩ := hr.facts
  obtain ⟨f0, f1, f2, f3, f4, f5⟩ := hr.free
  have HRR := Lib.hid hr
  have Z1 := Lib.hid z1
  have Z2 := Lib.hid z2
  clear hr z1 z2 hd c0 c1 c2 c3 c4 c5 d0 d1 d2 d3 d4 d5
  simp only []
  go_wp2_with fail
  exact ret_iv2 (HRR.out.laid _ _ _ _ _ _) rfl rfl rfl ⟨ivW_kept (K.out.trans q) (by omega), _, rfl, _, _, _, _, _, _, rfl, Z1.out.ivW HRR.out _ _ _ _ _ _, Z2.out.ivW HRR.out _ _ _ _ _ _⟩
 by_cases h10 : op = 10
 ·obtain rfl : op = 10 := h10
  have ho : oneI ov 10 a b p = negI a p := by simp [oneI]
  rw [ho]
  have CC := Lib.hid (fun w1 (k : Kept w w1) => Neg_k (IA.out.kept k) OA.out.1 (T.out.kept k) p1 p2)
  clear ho IA IB OA T HOV
  generalize rawO _ = o at *
  generalize a.lo.neg = n1 at *
  generalize a.lo.e = e1 at *
  generalize a.hi.neg = n2 at *
  generalize a.hi.e = e2 at *
  generalize b.lo.neg = n3 at *
  generalize b.lo.e = e3 at *
  generalize b.hi.neg = n4 at *
  generalize b.hi.e = e4 at *
  go_enter Tryz.func70, Tryz.ntmps70
  go_upto_region 1 with fail
  rw [← HW.out]
  go_wp2_with fail
  refine (CC.out _ K.out).mono ?_
  rintro e w2 ⟨q, u, rfl, hd⟩
  obtain ⟨P, p', q', R, r, s, rfl, z1, z2⟩ := ivR_split hd
  have hr := HR.out.kept q
  obtain ⟨-, r0, r1, r2, r3, r4, r5⟩ := hr.facts
  obtain ⟨f0, f1, f2, f3, f4, f5⟩ := hr.free
  have HRR := Lib.hid hr
  have Z1 := Lib.hid z1
  have Z2 := Lib.hid z2
  clear hr z1 z2 hd c0 c1 c2 c3 c4 c5 d0 d1 d2 d3 d4 d5
  simp only []
  go_wp2_with fail
  exact ret_iv2 (HRR.out.laid _ _ _ _ _ _) rfl rfl rfl ⟨ivW_kept (K.out.trans q) (by omega), _, rfl, _, _, _, _, _, _, rfl, Z1.out.ivW HRR.out _ _ _ _ _ _, Z2.out.ivW HRR.out _ _ _ _ _ _⟩
 by_cases h11 : op = 11
 ·obtain rfl : op = 11 := h11
  have ho : oneI ov 11 a b p = sqrI a p := by simp [oneI]
  rw [ho]
  have CC := Lib.hid (fun w1 (k : Kept w w1) => Sqr_k (IA.out.kept k) OA.out.1 (T.out.kept k) p1 p2)
  clear ho IA IB OA T HOV
  generalize rawO _ = o at *
  generalize a.lo.neg = n1 at *
  generalize a.lo.e = e1 at *
  generalize a.hi.neg = n2 at *
  generalize a.hi.e = e2 at *
  generalize b.lo.neg = n3 at *
  generalize b.lo.e = e3 at *
  generalize b.hi.neg = n4 at *
  generalize b.hi.e = e4 at *
  go_enter Tryz.func70, Tryz.ntmps70
  go_upto_region 1 with fail
  rw [← HW.out]
  go_wp2_with fail
  refine (CC.out _ K.out).mono ?_
  rintro e w2 ⟨q, u, rfl, hd⟩
  obtain ⟨P, p', q', R, r, s, rfl, z1, z2⟩ := ivR_split hd
  have hr := HR.out.kept q
  obtain ⟨-, r0, r1, r2, r3, r4, r5⟩ := hr.facts
  obtain ⟨f0, f1, f2, f3, f4, f5⟩ := hr.free
  have HRR := Lib.hid hr
  have Z1 := Lib.hid z1
  have Z2 := Lib.hid z2
  clear hr z1 z2 hd c0 c1 c2 c3 c4 c5 d0 d1 d2 d3 d4 d5
  simp only []
  go_wp2_with fail
  exact ret_iv2 (HRR.out.laid _ _ _ _ _ _) rfl rfl rfl ⟨ivW_kept (K.out.trans q) (by omega), _, rfl, _, _, _, _, _, _, rfl, Z1.out.ivW HRR.out _ _ _ _ _ _, Z2.out.ivW HRR.out _ _ _ _ _ _⟩
 by_cases h12 : op = 12
 ·obtain rfl : op = 12 := h12
  have ho : oneI ov 12 a b p = sqrtI a p := by simp [oneI]
  rw [ho]
  have CC := Lib.hid (fun w1 (k : Kept w w1) => Sqrt_k (IA.out.kept k) OA.out.1 (T.out.kept k) p1 p2)
  clear ho IA IB OA T HOV
  generalize rawO _ = o at *
  generalize a.lo.neg = n1 at *
  generalize a.lo.e = e1 at *
  generalize a.hi.neg = n2 at *
  generalize a.hi.e = e2 at *
  generalize b.lo.neg = n3 at *
  generalize b.lo.e = e3 at *
  generalize b.hi.neg = n4 at *
  generalize b.hi.e = e4 at *
  go_enter Tryz.func70, Tryz.ntmps70
  go_upto_region 1 with fail
  rw [← HW.out]
  go_wp2_with fail
  refine (CC.out _ K.out).mono ?_
  rintro e w2 ⟨q, u, rfl, hd⟩
  obtain ⟨P, p', q', R, r, s, rfl, z1, z2⟩ := ivR_split hd
  have hr := HR.out.kept q
  obtain ⟨-, r0, r1, r2, r3, r4, r5⟩ := hr.facts
  obtain ⟨f0, f1, f2, f3, f4, f5⟩ := hr.free
  have HRR := Lib.hid hr
  have Z1 := Lib.hid z1
  have Z2 := Lib.hid z2
  clear hr z1 z2 hd c0 c1 c2 c3 c4 c5 d0 d1 d2 d3 d4 d5
  simp only []
  go_wp2_with fail
  exact ret_iv2 (HRR.out.laid _ _ _ _ _ _) rfl rfl rfl ⟨ivW_kept (K.out.trans q) (by omega), _, rfl, _, _, _, _, _, _, rfl, Z1.out.ivW HRR.out _ _ _ _ _ _, Z2.out.ivW HRR.out _ _ _ _ _ _⟩
 have ho : oneI ov op a b p = ov a p := by unfold oneI; rw [if_neg h6, if_neg h7, if_neg h8, if_neg h9, if_neg h10, if_neg h11, if_neg h12]
 rw [ho]
 have CC := Lib.hid (HOV.out (by omega))
 have g6 : (op == 6) = false := by simp [h6]
 have g7 : (op == 7) = false := by simp [h7]
 have g8 : (op == 8) = false := by simp [h8]
 have g9 : (op == 9) = false := by simp [h9]
 have g10 : (op == 10) = false := by simp [h10]
 have g11 : (op == 11) = false := by simp [h11]
 have g12 : (op == 12) = false := by simp [h12]
 clear ho h6 h7 h8 h9 h10 h11 h12 IA IB OA T HOV
 generalize rawO _ = o at *
 generalize a.lo.neg = n1 at *
 generalize a.lo.e = e1 at *
 generalize a.hi.neg = n2 at *
 generalize a.hi.e = e2 at *
 generalize b.lo.neg = n3 at *
 generalize b.lo.e = e3 at *
 generalize b.hi.neg = n4 at *
 generalize b.hi.e = e4 at *
 go_enter Tryz.func70, Tryz.ntmps70
 go_upto_region 1 with fail
 rw [← HW.out]
 go_wp2_with fail
 refine (CC.out _ K.out).mono ?_
 rintro e w2 ⟨q, u, rfl, hd⟩
 obtain ⟨P, p', q', R, r, s, rfl, z1, z2⟩ := ivR_split hd
 have hr := HR.out.kept q
 obtain ⟨-, r0, r1, r2, r3, r4, r5⟩ := hr.facts
 obtain ⟨f0, f1, f2, f3, f4, f5⟩ := hr.free
 have HRR := Lib.hid hr
 have Z1 := Lib.hid z1
 have Z2 := Lib.hid z2
 clear hr z1 z2 hd c0 c1 c2 c3 c4 c5 d0 d1 d2 d3 d4 d5
 simp only []
 go_wp2_with fail
 exact ret_iv2 (HRR.out.laid _ _ _ _ _ _) rfl rfl rfl ⟨ivW_kept (K.out.trans q) (by omega), _, rfl, _, _, _, _, _, _, rfl, Z1.out.ivW HRR.out _ _ _ _ _ _, Z2.out.ivW HRR.out _ _ _ _ _ _⟩
theorem mayLs_append (x u p : Int) : ∀ (a b : List Ln) (i : Nat), mayLs x u p i (a ++ b) = (mayLs x u p i a && mayLs x u p (i + a.length) b)
 | [], b, i => by rw [List.nil_append, mayLs, Bool.true_and]; rfl
 | l :: a, b, i => by
   rw [List.cons_append, mayLs, mayLs, mayLs_append x u p a b (i + 1), Bool.and_assoc, List.length_cons, show i + (a.length + 1) = i + 1 + a.length by omega]
theorem belowP_of {n m : Int} (h : 0 ≤ n) (h' : n < m) : belowP n m = true := by unfold belowP; simp [h, h']
theorem mayX1 {d : Dy} (h : d.Ok) (i x u p : Int) : mayL ⟨1, 0, 0, (pt d).raw⟩ i x u p = true := by
 have e : mayL ⟨1, 0, 0, (pt d).raw⟩ i x u p = (mayI (pt d).raw && (decide ((0 : Int) = 0) && decide ((0 : Int) = 0))) := rfl
 rw [e, mayI_raw (pt_ok h)]; rfl
theorem mayX3 {a x : Int} (h : 0 ≤ a) (h' : a < x) (i u p : Int) : mayL ⟨3, a, 0, rzI⟩ i x u p = true := by
 have e : mayL ⟨3, a, 0, rzI⟩ i x u p = (belowP a x && decide ((0 : Int) = 0)) := rfl
 rw [e, belowP_of h h']; rfl
theorem mayX6 {a b i : Int} (h : 0 ≤ a) (h' : a < i) (g : 0 ≤ b) (g' : b < i) (x u p : Int) : mayL ⟨6, a, b, rzI⟩ i x u p = true := by
 have e : mayL ⟨6, a, b, rzI⟩ i x u p = (belowP a i && belowP b i) := rfl
 rw [e, belowP_of h h', belowP_of g g']; rfl
theorem mayX8 {a b i : Int} (h : 0 ≤ a) (h' : a < i) (g : 0 ≤ b) (g' : b < i) (x u p : Int) : mayL ⟨8, a, b, rzI⟩ i x u p = true := by
 have e : mayL ⟨8, a, b, rzI⟩ i x u p = (belowP a i && belowP b i) := rfl
 rw [e, belowP_of h h', belowP_of g g']; rfl
theorem mayI_z : mayI rzI = true := by rw [← iz_rawz]; exact mayI_raw iz_ok
/-- The values that the states have. -/
def slE (n : Nat) (y : Nat → Int) : En := ⟨rzI, (List.range n).map (fun i => (pt (dyz (y i) (-3))).raw), [], []⟩
theorem slE_may (n : Nat) (y : Nat → Int) : mayE (slE n y) = true := by
 unfold mayE slE
 simp only [List.all_nil, Bool.and_true, mayI_z, Bool.true_and, List.all_eq_true, List.mem_map]
 rintro a ⟨i, -, rfl⟩
 exact mayI_raw (pt_ok (dyz_ok _ _))
theorem slL_may (k : Nat → Int) (n : Nat) : ∀ m, m ≤ n → mayLs (n : Int) 0 0 0 (slL k m) = true
 | 0, _ => rfl
 | m + 1, h => by
   rw [slL, mayLs_append, slL_may k n m (by omega), slL_len, Bool.true_and, Nat.zero_add]
   unfold sll
   have hs : slp m = ((4 * m - 1 : Nat) : Int) := by unfold slp; split <;> omega
   by_cases h0 : m = 0
   ·rw [if_pos h0, List.append_nil]
    simp only [mayLs, Bool.and_true]
    rw [mayX1 (dyz_ok _ _), mayX3 (by omega) (by omega), mayX8 (by omega) (by omega) (by omega) (by omega)]; rfl
   ·rw [if_neg h0]
    simp only [List.cons_append, List.nil_append, mayLs, Bool.and_true]
    rw [mayX1 (dyz_ok _ _), mayX3 (by omega) (by omega), mayX8 (by omega) (by omega) (by omega) (by omega), mayX6 (by omega) (by omega) (by omega) (by omega)]; rfl
theorem sl_tape (ov : Iv → Nat → Outc Iv) {k y : Nat → Int} (hk : SlB k) (hy : SlB y) {p n : Nat} (hp : 20 ≤ p) (hp' : p ≤ 300) (h1 : 1 ≤ n) (hn : n ≤ 6) :
 tapeI ov (slL k n) [4 * (n : Int) - 2] (slE n y) p = ⟨slV k y n, 0⟩ := by
 have hmt : mayT (slL k n) [4 * (n : Int) - 2] (slE n y).x.length (slE n y).u.length (slE n y).p.length = true := by
  unfold mayT slE
  simp only [List.length_map, List.length_range, List.length_nil, List.length_cons, List.all_cons, List.all_nil, Bool.and_true, slL_len]
  rw [show ((0 : Nat) : Int) = 0 from rfl, slL_may k n n (Nat.le_refl _), belowP_of (by omega) (by omega), decide_eq_true (by omega), decide_eq_true (by omega)]; rfl
 unfold tapeI
 rw [if_pos ⟨by omega, by omega, hmt, slE_may n y⟩, Int.toNat_natCast]
 have := slV_lines (ov := ov) hk hy (e := slE n y) hp hn (fun i hi => by unfold slE; simp [List.getElem?_map, List.getElem?_range hi]) n (Nat.le_refl _) []
 rw [List.append_nil] at this
 rw [this]; rfl
theorem sl_grad (ov : Iv → Nat → Outc Iv) {k y : Nat → Int} (hk : SlB k) (hy : SlB y) {p n : Nat} (hp : 20 ≤ p) (hp' : p ≤ 300) (h1 : 1 ≤ n) (hn : n ≤ 6) :
 ∃ v, gradI ov (slL k n) [4 * (n : Int) - 2] (slE n y) p = ⟨(v, [rowF n (fun j => (pt (dyz (k j) (-3))).raw)]), 0⟩ := by
 have ht := sl_tape ov hk hy hp hp' h1 hn
 have hg := slR_grad hk hy hp hn n (Nat.le_refl _) []
 rw [List.append_nil] at hg
 have hx : (slE n y).x.length = n := by unfold slE; simp
 unfold gradI
 rw [ht]
 simp only [Int.toNat_natCast, hx, hg, gradS, ne_eq, not_true_eq_false, if_false, List.map_cons, List.map_nil]
 obtain ⟨m, rfl⟩ : ∃ m, n = m + 1 := ⟨n - 1, by omega⟩
 refine ⟨[(slV k y (m + 1)).getD (4 * ((m + 1 : Nat) : Int) - 2).toNat rzI], congrArg (fun r => (⟨([(slV k y (m + 1)).getD (4 * ((m + 1 : Nat) : Int) - 2).toNat rzI], [r]), 0⟩ : Outc (List RawI × List (List RawI)))) ?_⟩
 rw [show (4 * ((m + 1 : Nat) : Int) - 2).toNat = 4 * m + 2 by omega, List.getD_eq_getElem?_getD, slR_last, Option.getD_some]
 exact rowF_congr fun j hj => by rw [if_pos (by omega)]
/-- A square, of three. -/
def t10L : List Ln := [⟨3, 0, 0, rzI⟩, ⟨8, 0, 0, rzI⟩]
def t10E : En := ⟨rzI, [(pt (dyz 3 0)).raw], [], []⟩
theorem t10_may : mayLs 1 0 0 0 t10L = true := by
 show (mayL ⟨3, 0, 0, rzI⟩ 0 1 0 0 && (mayL ⟨8, 0, 0, rzI⟩ 1 1 0 0 && true)) = true
 rw [mayX3 (by decide) (by decide), mayX8 (by decide) (by decide) (by decide) (by decide)]; rfl
theorem t10_tape (ov : Iv → Nat → Outc Iv) : tapeI ov t10L [1] t10E 20 = ⟨[(pt (dyz 3 0)).raw, (pt (dyz 9 0)).raw], 0⟩ := by
 have hmt : mayT t10L [1] t10E.x.length t10E.u.length t10E.p.length = true := by
  show (decide ((2 : Nat) ≤ 200) && decide ((1 : Nat) ≤ 200) && mayLs 1 0 0 0 t10L && (belowP 1 2 && true)) = true
  rw [t10_may]; rfl
 have hme : mayE t10E = true := by
  show (mayI rzI && (mayI (pt (dyz 3 0)).raw && true) && true && true) = true
  rw [mayI_z, mayI_raw (pt_ok (dyz_ok _ _))]; rfl
 unfold tapeI
 rw [if_pos ⟨by decide, by decide, hmt, hme⟩]
 have e1 : lineI ov t10E 20 [] ⟨3, 0, 0, rzI⟩ = ⟨pt (dyz 3 0), 0⟩ := by
  rw [lineI3, atI_of (l := t10E.x) (z := 0) (n := 0) (a := pt (dyz 3 0)) rfl rfl]; exact dyz_round (by decide)
 have e2 : lineI ov t10E 20 [(pt (dyz 3 0)).raw] ⟨8, 0, 0, rzI⟩ = ⟨pt (dyz 9 0), 0⟩ := by
  rw [lineI8, atI_of (l := [(pt (dyz 3 0)).raw]) (z := 0) (n := 0) (a := pt (dyz 3 0)) rfl rfl]
  exact dyz_mulI (a := 3) (b := 3) (e := 0) (f := 0) (smZ (by decide) (by decide) (by decide)) (smZ (by decide) (by decide) (by decide)) (smZ (by decide) (by decide) (by decide)) (by decide)
 show linesI ov t10E 20 [] [⟨3, 0, 0, rzI⟩, ⟨8, 0, 0, rzI⟩] = _
 rw [linesI, e1, if_pos rfl, List.nil_append, linesI, e2, if_pos rfl]; rfl
theorem t10_grad (ov : Iv → Nat → Outc Iv) : gradI ov t10L [1] t10E 20 = ⟨([(pt (dyz 9 0)).raw], [[(pt (dyz 6 0)).raw]]), 0⟩ := by
 have e1 : derivS 20 1 [(pt (dyz 3 0)).raw, (pt (dyz 9 0)).raw] [] ⟨3, 0, 0, rzI⟩ = ([(pt d1).raw], 0) := rfl
 have hm : mulI (pt d1) (pt (dyz 3 0)) 20 = ⟨pt (dyz 3 0), 0⟩ := by
  rw [← dyz_one]
  exact dyz_mulI (a := 1) (b := 3) (e := 0) (f := 0) (smZ (by decide) (by decide) (by decide)) (smZ (by decide) (by decide) (by decide)) (smZ (by decide) (by decide) (by decide)) (by decide)
 have hm' : mulI (pt (dyz 3 0)) (pt d1) 20 = ⟨pt (dyz 3 0), 0⟩ := by
  rw [← dyz_one]
  exact dyz_mulI (a := 3) (b := 1) (e := 0) (f := 0) (smZ (by decide) (by decide) (by decide)) (smZ (by decide) (by decide) (by decide)) (smZ (by decide) (by decide) (by decide)) (by decide)
 have ha : addI (pt (dyz 3 0)) (pt (dyz 3 0)) 20 = ⟨pt (dyz 6 0), 0⟩ :=
  dyz_addI (a := 3) (b := 3) (e := 0) (smZ (by decide) (by decide) (by decide)) (smZ (by decide) (by decide) (by decide)) (smZ (by decide) (by decide) (by decide)) (by decide)
 have e2 : derivS 20 1 [(pt (dyz 3 0)).raw, (pt (dyz 9 0)).raw] [[(pt d1).raw]] ⟨8, 0, 0, rzI⟩ = ([(pt (dyz 6 0)).raw], 0) := by
  rw [derivS8, atI_of (l := [(pt (dyz 3 0)).raw, (pt (dyz 9 0)).raw]) (z := 0) (n := 0) (a := pt (dyz 3 0)) rfl rfl]
  show rowG 20 8 (pt (dyz 3 0)) (pt (dyz 3 0)) _ [(pt d1).raw] [(pt d1).raw] 0 = _
  unfold rowG
  rw [Iv.raw_iv, oneS8 hm hm', ha]; rfl
 unfold gradI
 rw [t10_tape]
 have hg : gradS 20 1 [(pt (dyz 3 0)).raw, (pt (dyz 9 0)).raw] [] t10L = ⟨[[(pt d1).raw], [(pt (dyz 6 0)).raw]], 0⟩ := by
  show gradS 20 1 _ [] [⟨3, 0, 0, rzI⟩, ⟨8, 0, 0, rzI⟩] = _
  rw [gradS, e1]
  simp only [if_true, List.nil_append]
  rw [gradS, e2]
  simp only [if_true]; rfl
 rw [if_neg (by decide)]
 show (if (gradS 20 1 [(pt (dyz 3 0)).raw, (pt (dyz 9 0)).raw] [] t10L).k ≠ 0 then _ else (⟨([_], [(gradS 20 1 [(pt (dyz 3 0)).raw, (pt (dyz 9 0)).raw] [] t10L).v.getD 1 []]), 0⟩ : Outc _)) = _
 rw [hg]; rfl
theorem t10_none (ov : Iv → Nat → Outc Iv) : gradI ov t10L [1] ⟨rzI, [], [], []⟩ 20 = ⟨([], []), 1⟩ := by
 have ht : tapeI ov t10L [1] ⟨rzI, [], [], []⟩ 20 = ⟨[], 1⟩ := by
  unfold tapeI
  rw [if_neg]
  rintro ⟨-, -, h, -⟩
  revert h
  show ¬ (decide ((2 : Nat) ≤ 200) && decide ((1 : Nat) ≤ 200) && ((belowP 0 0 && decide ((0 : Int) = 0)) && _) && _) = true
  simp [belowP]
 unfold gradI
 rw [ht, if_pos (by decide)]
/-- A number's eighths. -/
def kz (z : Int) : Int := (IntKind.u64.wrap z).tmod 65 - 32
theorem kz_eq (z : Int) : wrap64 (wrap64 ((IntKind.u64.wrap z).tmod 65) - 32) = kz z ∧ (kz z).natAbs ≤ 32 := by
 unfold kz
 rw [IntKind.wrap_u64]
 have h0 : 0 ≤ z % 18446744073709551616 := Int.emod_nonneg _ (by decide)
 rw [Int.tmod_eq_emod_of_nonneg h0]
 have h1 : 0 ≤ z % 18446744073709551616 % 65 := Int.emod_nonneg _ (by omega)
 have h2 : z % 18446744073709551616 % 65 < 65 := Int.emod_lt_of_pos _ (by omega)
 generalize z % 18446744073709551616 % 65 = x at *
 unfold wrap64
 omega
def lk (l : List Int) (i : Nat) : Int := kz (l.getD i 0)
theorem lk_b (l : List Int) : SlB (lk l) := fun _ => (kz_eq _).2
/-- The cells of an environment of which only the states are set. -/
def envC (v : Value) : Array Value := #[.bool false, .slice none 0 0, .int .i64 0, .bool false, .slice none 0 0, .int .i64 0, v, .slice none 0 0, .slice none 0 0]
def wantL (k : Nat → Int) (n : Nat) : List Raw := (List.range n).map fun j => (dyz (k j) (-3)).raw
def stateL (y : Nat → Int) (n : Nat) : List RawI := (List.range n).map fun j => (pt (dyz (y j) (-3))).raw
theorem wantL_succ (k : Nat → Int) (n : Nat) : wantL k (n + 1) = wantL k n ++ [(dyz (k n) (-3)).raw] := by unfold wantL; rw [List.range_succ, List.map_append]; rfl
theorem stateL_succ (k : Nat → Int) (n : Nat) : stateL k (n + 1) = stateL k n ++ [(pt (dyz (k n) (-3))).raw] := by unfold stateL; rw [List.range_succ, List.map_append]; rfl
structure St (B : Nat) (W0 : World) (bt be : Nat) (k y : Nat → Int) (a b : Nat) (ls : List Ln) (vD vI vL : Value) (w : World) : Prop where
 D : ∃ xs, OwnG w B 30 3 vD a xs ∧ RowD (wantL k a) w xs
 I : ∃ xs, OwnG w B 32 6 vI b xs ∧ RowI (stateL y b) w xs
 L : ∃ xs, OwnG w B 41 9 vL ls.length xs ∧ RowL ls w xs
 dI : ∀ g ∈ ownL vD, g ∉ ownL vI
 dL : ∀ g ∈ ownL vD, g ∉ ownL vL
 iL : ∀ g ∈ ownL vI, g ∉ ownL vL
 t : w.heap[bt]? = some (.cells #[vL, .slice none 0 0] 27 (0, 0))
 e : w.heap[be]? = some (.cells (envC vI) 35 (0, 0))
 kb : KB W0 [bt, be] w
 base : W0.heap.size ≤ B
 ltB : B ≤ w.heap.size
 ltt : bt < B
 lte : be < B
 ne : bt ≠ be
section
variable {B : Nat} {W0 : World} {bt be : Nat} {k y : Nat → Int} {a b : Nat} {ls : List Ln} {vD vI vL : Value} {w w' : World}
theorem St.kept (h : St B W0 bt be k y a b ls vD vI vL w) (q : Kept w w') : St B W0 bt be k y a b ls vD vI vL w' := by
 obtain ⟨⟨x1, d1, d2⟩, ⟨x2, i1, i2⟩, ⟨x3, l1, l2⟩, h1, h2, h3, ht, he, hk, hB, hB', g1, g2, g3⟩ := h
 exact ⟨⟨x1, d1.kept q, stab_D _ _ _ [] _ (q.kb []) d2⟩, ⟨x2, i1.kept q, stab_I _ _ _ [] _ (q.kb []) i2⟩, ⟨x3, l1.kept q, stab_L _ _ _ [] _ (q.kb []) l2⟩, h1, h2, h3, (q.kb []).blk ht (by simp), (q.kb []).blk he (by simp), hk.step q, hB, Nat.le_trans hB' q.size, g1, g2, g3⟩
theorem OwnG.off {T : TypeId} {s n : Nat} {v : Value} {xs : List Value} (h : OwnG w B T s v n xs) {g : Nat} (hg : g ∈ ownL v) : B ≤ g ∧ g < w.heap.size := by
 have := h.lt g (mem_ownL.1 hg)
 exact ⟨this.2, this.1⟩
theorem offX_of {v u : Value} (h : ∀ g ∈ ownL v, g ∉ ownL u) : OffX v (ownL u) := fun g hg => h g (mem_ownL.2 hg)
theorem offX_cons {v u : Value} {b : Nat} (h : ∀ g ∈ ownL v, g ∉ ownL u) (hb : ∀ g ∈ ownL v, g ≠ b) : OffX v (b :: ownL u) := fun g hg hm => by
 rcases List.mem_cons.1 hm with e | hm
 ·exact hb g (mem_ownL.2 hg) e
 ·exact h g (mem_ownL.2 hg) hm
theorem AppV.apart {T : TypeId} {s n : Nat} {C : World → List Value → Prop} {hs : Nat} {v v' u : Value} (h : AppV B T s v n C hs w' v') (hd : ∀ g ∈ ownL v, g ∉ ownL u) (hu : ∀ g ∈ ownL u, g < hs) : ∀ g ∈ ownL v', g ∉ ownL u := by
 intro g hg hgu
 obtain ⟨-, g', h1, h2⟩ := h
 rw [mem_ownL, h1] at hg
 cases hg
 rcases h2 with h2 | h2
 ·exact hd _ (mem_ownL.2 h2) hgu
 ·have := hu _ hgu; omega
theorem flip {v u : Value} (h : ∀ g ∈ ownL v, g ∉ ownL u) : ∀ g ∈ ownL u, g ∉ ownL v := fun g hu hv => h g hv hu
theorem St.want {vD' : Value} (h : St B W0 bt be k y a b ls vD vI vL w) (q : KB w (ownL vD) w') (hv : AppV B 30 3 vD (a + 1) (RowD (wantL k a ++ [(dyz (k a) (-3)).raw])) w.heap.size w' vD') :
 St B W0 bt be k y (a + 1) b ls vD' vI vL w' := by
 obtain ⟨⟨x1, d1, d2⟩, ⟨x2, i1, i2⟩, ⟨x3, l1, l2⟩, h1, h2, h3, ht, he, hk, hB, hB', g1, g2, g3⟩ := h
 have nd : ∀ {g}, g < B → g ∉ ownL vD := fun hg hm => by have := (d1.off hm).1; omega
 refine ⟨?_, ⟨x2, i1.kb q (offX_of (flip h1)), stab_I _ _ _ _ _ q i2⟩, ⟨x3, l1.kb q (offX_of (flip h2)), stab_L _ _ _ _ _ q l2⟩, hv.apart h1 (fun g hg => (i1.off hg).2), hv.apart h2 (fun g hg => (l1.off hg).2), h3, q.blk ht (nd g1), q.blk he (nd g2), hk.trans q (fun g hg => .inr (Nat.le_trans hB (d1.off hg).1)), hB, Nat.le_trans hB' q.size, g1, g2, g3⟩
 rw [wantL_succ]
 exact hv.1
theorem St.ival {v' : Value} (h : St B W0 bt be k y a b ls vD vI vL w) (q : KB w (be :: ownL vI) w') (hb : w'.heap[be]? = some (.cells ((envC vI).setIfInBounds 6 v') 35 (0, 0)))
 (hv : AppV B 32 6 vI (b + 1) (RowI (stateL y b ++ [(pt (dyz (y b) (-3))).raw])) w.heap.size w' v') : St B W0 bt be k y a (b + 1) ls vD v' vL w' := by
 obtain ⟨⟨x1, d1, d2⟩, ⟨x2, i1, i2⟩, ⟨x3, l1, l2⟩, h1, h2, h3, ht, he, hk, hB, hB', g1, g2, g3⟩ := h
 have nd : ∀ {g}, g < B → g ∉ ownL vI := fun hg hm => by have := (i1.off hm).1; omega
 refine ⟨⟨x1, d1.kb q (offX_cons h1 fun g hg => by have := (d1.off hg).1; omega), stab_D _ _ _ _ _ q d2⟩, ?_, ⟨x3, l1.kb q (offX_cons (flip h3) fun g hg => by have := (l1.off hg).1; omega), stab_L _ _ _ _ _ q l2⟩,
  flip (hv.apart (flip h1) (fun g hg => (d1.off hg).2)), h2, hv.apart h3 (fun g hg => (l1.off hg).2), q.blk ht (by rw [List.mem_cons, not_or]; exact ⟨g3, nd g1⟩), hb, hk.trans q (fun g hg => ?_), hB, Nat.le_trans hB' q.size, g1, g2, g3⟩
 ·rw [stateL_succ]
  exact hv.1
 ·rcases List.mem_cons.1 hg with e | hg
  ·left; simp [e]
  ·exact .inr (Nat.le_trans hB (i1.off hg).1)
theorem St.lines {v' : Value} {l2 : List Ln} {m : Nat} (h : St B W0 bt be k y a b ls vD vI vL w) (q : KB w (bt :: ownL vL) w') (hb : w'.heap[bt]? = some (.cells ((#[vL, .slice none 0 0] : Array Value).setIfInBounds 0 v') 27 (0, 0)))
 (hm : l2.length = m) (hv : AppV B 41 9 vL (ls.length + m) (RowL (ls ++ l2)) w.heap.size w' v') : St B W0 bt be k y a b (ls ++ l2) vD vI v' w' := by
 obtain ⟨⟨x1, d1, d2⟩, ⟨x2, i1, i2⟩, ⟨x3, l1, l2'⟩, h1, h2, h3, ht, he, hk, hB, hB', g1, g2, g3⟩ := h
 have nd : ∀ {g}, g < B → g ∉ ownL vL := fun hg hm => by have := (l1.off hm).1; omega
 refine ⟨⟨x1, d1.kb q (offX_cons h2 fun g hg => by have := (d1.off hg).1; omega), stab_D _ _ _ _ _ q d2⟩, ⟨x2, i1.kb q (offX_cons h3 fun g hg => by have := (i1.off hg).1; omega), stab_I _ _ _ _ _ q i2⟩, ?_,
  h1, flip (hv.apart (flip h2) (fun g hg => (d1.off hg).2)), flip (hv.apart (flip h3) (fun g hg => (i1.off hg).2)), hb, q.blk he (by rw [List.mem_cons, not_or]; exact ⟨g3.symm, nd g2⟩), hk.trans q (fun g hg => ?_), hB, Nat.le_trans hB' q.size, g1, g2, g3⟩
 ·rw [List.length_append, hm]
  exact hv.1
 ·rcases List.mem_cons.1 hg with e | hg
  ·left; simp [e]
  ·exact .inr (Nat.le_trans hB (l1.off hg).1)
theorem St.ivS (h : St B W0 bt be k y a b ls vD vI vL w) : IvS w vI (stateL y b) := by
 obtain ⟨xs, h1, h2⟩ := h.I
 exact h1.ivS h2 (by unfold stateL; simp)
theorem St.lnS (h : St B W0 bt be k y a b ls vD vI vL w) : LnS w vL ls := by
 obtain ⟨xs, h1, h2⟩ := h.L
 exact h1.lnS h2 rfl
end
end Go.Proofs.YtgododcbmkpbjaaGreatDoor
