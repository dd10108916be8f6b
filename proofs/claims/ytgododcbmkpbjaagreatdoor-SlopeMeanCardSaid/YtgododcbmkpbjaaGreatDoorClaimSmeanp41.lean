/- Plain mathematics, no program: between two numbers a polynomial's values differ by its slope times theirs, and the slope is what slope.Grad makes. -/
import Derived.Test.YtgododcbmkpbjaaGreatDoorClaimSmeanp29
import Derived.Test.YtgododcbmkpbjaaGreatDoorClaimSmeanp32
import Derived.Test.YtgododcbmkpbjaaGreatDoorClaimSmeanp39
set_option maxRecDepth 100000
set_option maxHeartbeats 16000000
namespace Go.Proofs.YtgododcbmkpbjaaGreatDoor
open Go.RowKit
theorem dyz_rg {z e A B : Int} (h : SmZ z e) (hA : -e ≤ A) (hB : bl z.natAbs + e ≤ B) (hA' : A ≤ 100000) (hB' : B ≤ 100000) : Rg (dyz z e) A B := by
 have hb := bl_le _ _ h.1
 exact (fitD_rg (fun _ => by omega) (fun _ => hB) (by omega) hA' hB').2
/-- The lines of a polynomial by its roots. -/
def smL (r : Nat → Int) : Nat → List Ln
 | 0 => [⟨3, 0, 0, rzI⟩]
 | n + 1 => smL r n ++ [⟨1, 0, 0, (pt (dyz (r n) (-3))).raw⟩, ⟨7, 0, 3 * n + 1, rzI⟩, ⟨8, 3 * n, 3 * n + 2, rzI⟩]
def smC (p : Nat) (r : Nat → Int) (n : Nat) : Iv := (roundI (pt (dyz (r n) (-3))) p).v
def smS (p : Nat) (I : Iv) (r : Nat → Int) (n : Nat) : Iv := (subI (roundI I p).v (smC p r n) p).v
def smW (p : Nat) (I : Iv) (r : Nat → Int) : Nat → Iv
 | 0 => (roundI I p).v
 | n + 1 => (mulI (smW p I r n) (smS p I r n) p).v
def smV (p : Nat) (I : Iv) (r : Nat → Int) : Nat → List RawI
 | 0 => [(smW p I r 0).raw]
 | n + 1 => smV p I r n ++ [(smC p r n).raw, (smS p I r n).raw, (smW p I r (n + 1)).raw]
/-- The derivatives. -/
def smT (p : Nat) : Iv := (subI (pt d1) iz p).v
def smD (p : Nat) (I : Iv) (r : Nat → Int) : Nat → Iv
 | 0 => pt d1
 | n + 1 => (addI (mulI (smD p I r n) (smS p I r n) p).v (mulI (smW p I r n) (smT p) p).v p).v
def smR (p : Nat) (I : Iv) (r : Nat → Int) : Nat → List (List RawI)
 | 0 => [[(smD p I r 0).raw]]
 | n + 1 => smR p I r n ++ [[rzI], [(smT p).raw], [(smD p I r (n + 1)).raw]]
theorem smL_len (r : Nat → Int) : ∀ n, (smL r n).length = 3 * n + 1
 | 0 => rfl
 | n + 1 => by rw [smL, List.length_append, smL_len r n]; simp; omega
theorem smV_len (p : Nat) (I : Iv) (r : Nat → Int) : ∀ n, (smV p I r n).length = 3 * n + 1
 | 0 => rfl
 | n + 1 => by rw [smV, List.length_append, smV_len p I r n]; simp; omega
theorem smR_len (p : Nat) (I : Iv) (r : Nat → Int) : ∀ n, (smR p I r n).length = 3 * n + 1
 | 0 => rfl
 | n + 1 => by rw [smR, List.length_append, smR_len p I r n]; simp; omega
theorem smV_last (p : Nat) (I : Iv) (r : Nat → Int) : ∀ n, (smV p I r n)[3 * n]? = some (smW p I r n).raw
 | 0 => rfl
 | n + 1 => by rw [smV, List.getElem?_append_right (by rw [smV_len]; omega), smV_len, show 3 * (n + 1) - (3 * n + 1) = 2 by omega]; rfl
theorem smR_last (p : Nat) (I : Iv) (r : Nat → Int) : ∀ n, (smR p I r n)[3 * n]? = some [(smD p I r n).raw]
 | 0 => rfl
 | n + 1 => by rw [smR, List.getElem?_append_right (by rw [smR_len]; omega), smR_len, show 3 * (n + 1) - (3 * n + 1) = 2 by omega]; rfl
theorem smV_zero (p : Nat) (I : Iv) (r : Nat → Int) : ∀ n, (smV p I r n)[0]? = some (roundI I p).v.raw
 | 0 => rfl
 | n + 1 => by rw [smV, List.getElem?_append_left (by rw [smV_len]; omega)]; exact smV_zero p I r n
theorem smR_zero (p : Nat) (I : Iv) (r : Nat → Int) : ∀ n, (smR p I r n)[0]? = some [(pt d1).raw]
 | 0 => rfl
 | n + 1 => by rw [smR, List.getElem?_append_left (by rw [smR_len]; omega)]; exact smR_zero p I r n
theorem smV_in (p : Nat) (I : Iv) (r : Nat → Int) {i t : Nat} {a : RawI} (h : (smV p I r i)[t]? = some a) : ∀ m, i ≤ m → (smV p I r m)[t]? = some a
 | 0, hm => by obtain rfl : i = 0 := by omega
               exact h
 | m + 1, hm => by
   by_cases e : i = m + 1
   ·subst e; exact h
   ·have hl := smV_in p I r h m (by omega)
    rw [smV, List.getElem?_append_left (List.getElem?_eq_some_iff.1 hl).1]
    exact hl
/-- What of the interval and the numbers is taken. -/
structure SmI (I : Iv) (r : Nat → Int) (p : Nat) : Prop where
 ok : I.Ok
 rg : RgI I 3 2
 r8 : ∀ i, (r i).natAbs ≤ 8
 p1 : 20 ≤ p
 p2 : p ≤ 300
theorem bl_small {n k : Nat} (h : n < 2 ^ k) : bl n ≤ k := bl_le _ _ h
theorem sm_c {I : Iv} {r : Nat → Int} {p : Nat} (h : SmI I r p) (n : Nat) : GoodI (roundI (pt (dyz (r n) (-3))) p) 3 3 ∧ In ((r n : Rat) * pw (-3)) (smC p r n) := by
 have h8 := h.r8 n
 have hz : SmZ (r n) (-3) := smZ (by omega) (by decide) (by decide)
 have hb : bl (r n).natAbs ≤ 4 := bl_small (by omega)
 have g := roundI_rg (p := p) (RgI.pt (dyz_rg (A := 3) (B := 2) hz (by decide) (by omega) (by decide) (by decide))) (by have := h.p2; omega) (by decide) (by decide)
 refine ⟨g, roundI_in (by have := h.p1; omega) g.1 ?_⟩
 rw [← dyz_q hz]; exact in_pt _
theorem sm_s {I : Iv} {r : Nat → Int} {p : Nat} (h : SmI I r p) {x : Rat} (hx : In x I) (n : Nat) : GoodI (roundI I p) 3 3 ∧ In x (smW p I r 0) ∧ GoodI (subI (roundI I p).v (smC p r n) p) 3 6 ∧ In (x - (r n : Rat) * pw (-3)) (smS p I r n) := by
 have h1 := h.p1
 have h2 := h.p2
 have g := roundI_rg (p := p) h.rg (by omega) (by decide) (by decide)
 obtain ⟨gc, ic⟩ := sm_c h n
 have gs := subI_rg (p := p) g.2 gc.2 (by omega) (by decide) (by decide) (by decide)
 have i0 := roundI_in (by omega) g.1 hx
 exact ⟨g, i0, gs, sub_in (by omega) gs.1 i0 ic⟩
/-- The values. -/
def fS (r : Nat → Int) (x : Rat) : Nat → Rat
 | 0 => x
 | n + 1 => fS r x n * (x - (r n : Rat) * pw (-3))
theorem sm_w {I : Iv} {r : Nat → Int} {p : Nat} (h : SmI I r p) {x : Rat} (hx : In x I) : ∀ n, n ≤ 5 →
 RgI (smW p I r n) (3 * (n + 1)) (3 + 12 * n) ∧ In (fS r x n) (smW p I r n) ∧ (∀ m, n = m + 1 → (mulI (smW p I r m) (smS p I r m) p).k = 0)
 | 0, _ => by
   obtain ⟨g, i0, -, -⟩ := sm_s h hx 0
   exact ⟨g.2.mono (by omega) (by omega), i0, fun m hm => by omega⟩
 | n + 1, hn => by
   obtain ⟨r1, i1, -⟩ := sm_w h hx n (by omega)
   obtain ⟨-, -, gs, is⟩ := sm_s h hx n
   have h1 := h.p1
   have h2 := h.p2
   have g := mulI_rg (p := p) r1 gs.2 (by omega) (by omega) (by omega) (by omega)
   refine ⟨g.2.mono (by omega) (by omega), mul_in (by omega) g.1 i1 is, fun m hm => ?_⟩
   obtain rfl : n = m := by omega
   exact g.1
theorem k0 {α : Type} {o : Outc α} (h : o.k = 0) : o = ⟨o.v, 0⟩ := by cases o with | mk v k => simp only at h; subst h; rfl
/-- The lines' values. -/
theorem sm_lines {ov : Iv → Nat → Outc Iv} {I : Iv} {r : Nat → Int} {p : Nat} (h : SmI I r p) {e : En} (hx : e.x[0]? = some I.raw) : ∀ n, n ≤ 5 → linesI ov e p [] (smL r n) = ⟨smV p I r n, 0⟩
 | 0, _ => by
   obtain ⟨g, -⟩ := sm_s h (x := I.lo.q) ⟨Rat.le_refl, h.ok.le⟩ 0
   have e0 : lineI ov e p [] ⟨3, 0, 0, rzI⟩ = roundI I p := by rw [lineI3, atI_of (z := 0) (n := 0) hx rfl]
   rw [smL, linesI, e0, if_pos g.1]; rfl
 | n + 1, hn => by
   have ih := sm_lines (ov := ov) h hx n (by omega)
   have hin : In I.lo.q I := ⟨Rat.le_refl, h.ok.le⟩
   obtain ⟨gc, -⟩ := sm_c h n
   obtain ⟨-, -, gs, -⟩ := sm_s h hin n
   have gm := (sm_w h hin (n + 1) hn).2.2 n rfl
   have hl := smV_len p I r n
   have e1 : lineI ov e p (smV p I r n) ⟨1, 0, 0, (pt (dyz (r n) (-3))).raw⟩ = roundI (pt (dyz (r n) (-3))) p := by rw [lineI1, Iv.raw_iv]
   have s1 := linesI_snoc ov e p (smL r n) [] _ ⟨1, 0, 0, (pt (dyz (r n) (-3))).raw⟩ ih
   rw [e1, if_pos gc.1] at s1
   have e2 : lineI ov e p (smV p I r n ++ [(smC p r n).raw]) ⟨7, 0, 3 * n + 1, rzI⟩ = subI (roundI I p).v (smC p r n) p := by
    rw [lineI7, atI_of (z := 0) (n := 0) (a := (roundI I p).v) (by rw [List.getElem?_append_left (by omega)]; exact smV_zero p I r n) rfl,
     atI_of (n := 3 * n + 1) (by rw [List.getElem?_append_right (by omega), hl, Nat.sub_self]; rfl) (by omega)]
   have s2 := linesI_snoc ov e p _ [] _ ⟨7, 0, 3 * n + 1, rzI⟩ s1
   rw [show (roundI (pt (dyz (r n) (-3))) p).v.raw = (smC p r n).raw from rfl, e2, if_pos gs.1] at s2
   have e3 : lineI ov e p (smV p I r n ++ [(smC p r n).raw] ++ [(smS p I r n).raw]) ⟨8, 3 * n, 3 * n + 2, rzI⟩ = mulI (smW p I r n) (smS p I r n) p := by
    rw [lineI8, atI_of (n := 3 * n) (by rw [List.append_assoc, List.getElem?_append_left (by omega)]; exact smV_last p I r n) (by omega),
     atI_of (n := 3 * n + 2) (by rw [List.append_assoc, List.getElem?_append_right (by omega), hl, show 3 * n + 2 - (3 * n + 1) = 1 by omega]; rfl) (by omega)]
   have s3 := linesI_snoc ov e p _ [] _ ⟨8, 3 * n, 3 * n + 2, rzI⟩ s2
   rw [show (subI (roundI I p).v (smC p r n) p).v.raw = (smS p I r n).raw from rfl, e3, if_pos gm] at s3
   simp only [List.append_assoc, List.cons_append, List.nil_append] at s3
   exact s3
/-- The slopes between x and y. -/
def dS (r : Nat → Int) (x y : Rat) : Nat → Rat
 | 0 => 1
 | n + 1 => dS r x y n * (y - (r n : Rat) * pw (-3)) + fS r x n * 1
theorem dS_mean (r : Nat → Int) (x y : Rat) : ∀ n, fS r y n - fS r x n = dS r x y n * (y - x)
 | 0 => by simp only [fS, dS]; grind
 | n + 1 => by
   have := dS_mean r x y n
   simp only [fS, dS]
   grind
theorem sm_t {p : Nat} (h1 : 1 ≤ p) (h2 : p ≤ 300) : GoodI (subI (pt d1) iz p) 3 4 ∧ In 1 (smT p) := by
 have hd : Rg d1 3 1 := ⟨d1_ok, fun _ => by decide, fun _ => by decide⟩
 have g := subI_rg (p := p) (RgI.pt hd) (RgI.zero 3 1) (by omega) (by decide) (by decide) (by decide)
 refine ⟨g, ?_⟩
 have hq : d1.q = 1 := by unfold Dy.q d1 sq; simp [pw_zero]
 have := sub_in h1 g.1 (in_pt d1) in_iz
 rw [hq, show (1 : Rat) - 0 = 1 by grind] at this
 exact this
theorem sm_d {I : Iv} {r : Nat → Int} {p : Nat} (h : SmI I r p) {x y : Rat} (hx : In x I) (hy : In y I) : ∀ n, n ≤ 5 →
 RgI (smD p I r n) (3 * (n + 1)) (3 + 12 * n) ∧ In (dS r x y n) (smD p I r n) ∧
 (∀ m, n = m + 1 → (mulI (smD p I r m) (smS p I r m) p).k = 0 ∧ (mulI (smW p I r m) (smT p) p).k = 0 ∧ (addI (mulI (smD p I r m) (smS p I r m) p).v (mulI (smW p I r m) (smT p) p).v p).k = 0)
 | 0, _ => by
   have hd : Rg d1 3 1 := ⟨d1_ok, fun _ => by decide, fun _ => by decide⟩
   have hq : d1.q = 1 := by unfold Dy.q d1 sq; simp [pw_zero]
   refine ⟨(RgI.pt hd).mono (by omega) (by omega), ?_, fun m hm => by omega⟩
   show In 1 (pt d1)
   rw [← hq]; exact in_pt d1
 | n + 1, hn => by
   obtain ⟨r1, i1, -⟩ := sm_d h hx hy n (by omega)
   obtain ⟨w1, iw, -⟩ := sm_w h hx n (by omega)
   obtain ⟨-, -, gs, is⟩ := sm_s h hy n
   have h1 := h.p1
   have h2 := h.p2
   obtain ⟨gt, it⟩ := sm_t (p := p) (by omega) h2
   have g1 := mulI_rg (p := p) r1 gs.2 (by omega) (by omega) (by omega) (by omega)
   have g2 := mulI_rg (p := p) w1 gt.2 (by omega) (by omega) (by omega) (by omega)
   have g3 := addI_rg (p := p) (g1.2.mono (A' := 3 * (n + 2)) (B' := 10 + 12 * n) (by omega) (by omega)) (g2.2.mono (A' := 3 * (n + 2)) (B' := 10 + 12 * n) (by omega) (by omega)) (by omega) (by omega) (by omega) (by omega)
   refine ⟨g3.2.mono (by omega) (by omega), ?_, fun m hm => ?_⟩
   ·exact add_in (by omega) g3.1 (mul_in (by omega) g1.1 i1 is) (mul_in (by omega) g2.1 iw it)
   ·obtain rfl : n = m := by omega
    exact ⟨g1.1, g2.1, g3.1⟩
theorem rowG_one {p : Nat} {op : Int} {a b c da db x : Iv} (h : oneS p op a b c da db 0 = ⟨x, 0⟩) : rowG p op a b c [da.raw] [db.raw] 0 = ([x.raw], 0) := by
 simp only [rowG, Iv.raw_iv, h]
theorem gradS_snoc' (p nx : Nat) (v : List RawI) {ls : List Ln} {rows : List (List RawI)} {l : Ln} {row : List RawI} (h : gradS p nx v [] ls = ⟨rows, 0⟩) (hd : derivS p nx v rows l = (row, 0)) : gradS p nx v [] (ls ++ [l]) = ⟨rows ++ [row], 0⟩ := by
 have := gradS_snoc p nx v ls [] rows l h
 rw [hd] at this
 exact this
theorem sm_grad {I : Iv} {r : Nat → Int} {p : Nat} (h : SmI I r p) {N : Nat} (hN : N ≤ 5) : ∀ n, n ≤ N → gradS p 1 (smV p I r N) [] (smL r n) = ⟨smR p I r n, 0⟩
 | 0, _ => rfl
 | n + 1, hn => by
   have ih := sm_grad h hN n (by omega)
   have hin : In I.lo.q I := ⟨Rat.le_refl, h.ok.le⟩
   obtain ⟨k1, k2, k3⟩ := (sm_d h hin hin (n + 1) (by omega)).2.2 n rfl
   have h1 := h.p1
   have h2 := h.p2
   obtain ⟨gt, -⟩ := sm_t (p := p) (by omega) h2
   have hl := smR_len p I r n
   have v0 : atI (smV p I r N) 0 = (roundI I p).v := atI_of (n := 0) (smV_zero p I r N) rfl
   have vw : atI (smV p I r N) (3 * (n : Int)) = smW p I r n := atI_of (n := 3 * n) (smV_in p I r (smV_last p I r n) N (by omega)) (by omega)
   have vc : atI (smV p I r N) (3 * (n : Int) + 1) = smC p r n := atI_of (n := 3 * n + 1) (smV_in p I r (i := n + 1) (by rw [smV, List.getElem?_append_right (by rw [smV_len]; omega), smV_len, Nat.sub_self]; rfl) N (by omega)) (by omega)
   have vs : atI (smV p I r N) (3 * (n : Int) + 2) = smS p I r n := atI_of (n := 3 * n + 2) (smV_in p I r (i := n + 1) (by rw [smV, List.getElem?_append_right (by rw [smV_len]; omega), smV_len, show 3 * n + 2 - (3 * n + 1) = 1 by omega]; rfl) N (by omega)) (by omega)
   have s1 := gradS_snoc' p 1 (smV p I r N) (l := ⟨1, 0, 0, (pt (dyz (r n) (-3))).raw⟩) ih (derivS1 _ _ _ _ _ _ _)
   have d2 : derivS p 1 (smV p I r N) (smR p I r n ++ [List.replicate 1 rzI]) ⟨7, 0, 3 * n + 1, rzI⟩ = ([(smT p).raw], 0) := by
    rw [derivS7, show ((0 : Int)).toNat = 0 from rfl, show (3 * (n : Int) + 1).toNat = 3 * n + 1 by omega]
    have g0 : (smR p I r n ++ [List.replicate 1 rzI]).getD 0 [] = [(pt d1).raw] := by
     rw [List.getD_eq_getElem?_getD, List.getElem?_append_left (by omega), smR_zero]; rfl
    have g1 : (smR p I r n ++ [List.replicate 1 rzI]).getD (3 * n + 1) [] = [iz.raw] := by
     rw [List.getD_eq_getElem?_getD, List.getElem?_append_right (by omega), hl, Nat.sub_self, iz_rawz]; rfl
    rw [g0, g1]
    exact rowG_one (by rw [oneS7]; exact k0 gt.1)
   have s2 := gradS_snoc' p 1 (smV p I r N) s1 d2
   have d3 : derivS p 1 (smV p I r N) (smR p I r n ++ [List.replicate 1 rzI] ++ [[(smT p).raw]]) ⟨8, 3 * n, 3 * n + 2, rzI⟩ = ([(smD p I r (n + 1)).raw], 0) := by
    rw [derivS8, vw, vs, show (3 * (n : Int)).toNat = 3 * n by omega, show (3 * (n : Int) + 2).toNat = 3 * n + 2 by omega]
    have g0 : (smR p I r n ++ [List.replicate 1 rzI] ++ [[(smT p).raw]]).getD (3 * n) [] = [(smD p I r n).raw] := by
     rw [List.getD_eq_getElem?_getD, List.append_assoc, List.getElem?_append_left (by omega), smR_last]; rfl
    have g1 : (smR p I r n ++ [List.replicate 1 rzI] ++ [[(smT p).raw]]).getD (3 * n + 2) [] = [(smT p).raw] := by
     rw [List.getD_eq_getElem?_getD, List.append_assoc, List.getElem?_append_right (by omega), hl, show 3 * n + 2 - (3 * n + 1) = 1 by omega]; rfl
    rw [g0, g1]
    exact rowG_one (by rw [oneS8 (k0 k1) (k0 k2)]; exact k0 k3)
   have s3 := gradS_snoc' p 1 (smV p I r N) s2 d3
   simp only [List.append_assoc, List.cons_append, List.nil_append] at s3
   exact s3
theorem mayX7 {a b i : Int} (h : 0 ≤ a) (h' : a < i) (g : 0 ≤ b) (g' : b < i) (x u p : Int) : mayL ⟨7, a, b, rzI⟩ i x u p = true := by
 have e : mayL ⟨7, a, b, rzI⟩ i x u p = (belowP a i && belowP b i) := rfl
 rw [e, belowP_of h h', belowP_of g g']; rfl
/-- The one state. -/
def smE (I : Iv) : En := ⟨rzI, [I.raw], [], []⟩
theorem smE_may {I : Iv} (h : I.Ok) : mayE (smE I) = true := by
 unfold mayE smE
 simp only [List.all_nil, List.all_cons, Bool.and_true, mayI_z, Bool.true_and]
 exact mayI_raw h
theorem smL_may (r : Nat → Int) : ∀ n, mayLs 1 0 0 0 (smL r n) = true
 | 0 => by
   simp only [smL, mayLs, Bool.and_true]
   exact mayX3 (by omega) (by omega) _ _ _
 | n + 1 => by
   rw [smL, mayLs_append, smL_may r n, smL_len, Bool.true_and, Nat.zero_add]
   simp only [mayLs, Bool.and_true]
   rw [mayX1 (dyz_ok _ _), mayX7 (by omega) (by omega) (by omega) (by omega), mayX8 (by omega) (by omega) (by omega) (by omega)]; rfl
theorem sm_tape (ov : Iv → Nat → Outc Iv) {I : Iv} {r : Nat → Int} {p n : Nat} (h : SmI I r p) (hn : n ≤ 5) : tapeI ov (smL r n) [3 * (n : Int)] (smE I) p = ⟨smV p I r n, 0⟩ := by
 have h1 := h.p1
 have h2 := h.p2
 have hmt : mayT (smL r n) [3 * (n : Int)] (smE I).x.length (smE I).u.length (smE I).p.length = true := by
  unfold mayT
  rw [show ((smE I).x.length : Int) = 1 from rfl, show ((smE I).u.length : Int) = 0 from rfl, show ((smE I).p.length : Int) = 0 from rfl, smL_may, smL_len]
  simp only [List.length_nil, List.length_cons, List.all_cons, List.all_nil, Bool.and_true]
  rw [belowP_of (by omega) (by omega), decide_eq_true (by omega), decide_eq_true (by omega)]; rfl
 unfold tapeI
 rw [if_pos ⟨by omega, by omega, hmt, smE_may h.ok⟩, Int.toNat_natCast]
 exact sm_lines h rfl n hn
theorem sm_eval (ov : Iv → Nat → Outc Iv) {I : Iv} {r : Nat → Int} {p n : Nat} (h : SmI I r p) (hn : n ≤ 5) : evalI ov (smL r n) [3 * (n : Int)] (smE I) p = ⟨[(smW p I r n).raw], 0⟩ := by
 unfold evalI
 rw [sm_tape ov h hn]
 simp only [if_true, List.map_cons, List.map_nil]
 rw [show (3 * (n : Int)).toNat = 3 * n by omega, List.getD_eq_getElem?_getD, smV_last, Option.getD_some]
theorem sm_gradI (ov : Iv → Nat → Outc Iv) {I : Iv} {r : Nat → Int} {p n : Nat} (h : SmI I r p) (hn : n ≤ 5) : gradI ov (smL r n) [3 * (n : Int)] (smE I) p = ⟨([(smW p I r n).raw], [[(smD p I r n).raw]]), 0⟩ := by
 unfold gradI
 rw [sm_tape ov h hn]
 simp only [Int.toNat_natCast, show (smE I).x.length = 1 from rfl, sm_grad h hn n (Nat.le_refl _), ne_eq, not_true_eq_false, if_false, List.map_cons, List.map_nil]
 rw [show (3 * (n : Int)).toNat = 3 * n by omega, List.getD_eq_getElem?_getD, smV_last, Option.getD_some, List.getD_eq_getElem?_getD, smR_last, Option.getD_some]
/-- The values of a point are exact. -/
def fZ (r : Nat → Int) (a : Int) : Nat → Int
 | 0 => a
 | n + 1 => fZ r a n * (a - r n)
theorem fZ_le {r : Nat → Int} {a : Int} (hr : ∀ i, (r i).natAbs ≤ 8) (ha : a.natAbs ≤ 16) : ∀ n, (fZ r a n).natAbs ≤ 16 * 24 ^ n
 | 0 => by show a.natAbs ≤ 16 * 1; omega
 | n + 1 => by
   have h1 := fZ_le hr ha n
   have h2 := hr n
   show (fZ r a n * (a - r n)).natAbs ≤ _
   rw [Int.natAbs_mul, Nat.pow_succ, ← Nat.mul_assoc]
   exact Nat.mul_le_mul h1 (by omega)
theorem fZ_small {r : Nat → Int} {a : Int} (hr : ∀ i, (r i).natAbs ≤ 8) (ha : a.natAbs ≤ 16) {n : Nat} (hn : n ≤ 5) : (fZ r a n).natAbs < 2 ^ 27 := by
 have h1 := fZ_le hr ha n
 have h2 : 24 ^ n ≤ 24 ^ 5 := Nat.pow_le_pow_right (by decide) hn
 have h3 : 16 * 24 ^ 5 < 2 ^ 27 := by decide
 omega
theorem lt_pow {n a b : Nat} (h : n < 2 ^ a) (hab : a ≤ b) : n < 2 ^ b := Nat.lt_of_lt_of_le h (Nat.pow_le_pow_right (by decide) hab)
theorem smW_exact {r : Nat → Int} {a : Int} (hr : ∀ i, (r i).natAbs ≤ 8) (ha : a.natAbs ≤ 16) : ∀ n, n ≤ 5 → smW 200 (pt (dyz a (-3))) r n = pt (dyz (fZ r a n) (-3 * ((n : Int) + 1)))
 | 0, _ => by
   show (roundI _ _).v = _
   rw [dyz_round (lt_pow (a := 5) (by omega) (by decide))]; rfl
 | n + 1, hn => by
   have ih := smW_exact hr ha n (by omega)
   have h2 := hr n
   have f1 := fZ_small hr ha (n := n) (by omega)
   have f2 := fZ_small hr ha (n := n + 1) hn
   have hs : smS 200 (pt (dyz a (-3))) r n = pt (dyz (a - r n) (-3)) := by
    unfold smS smC
    rw [dyz_round (lt_pow (a := 5) (by omega) (by decide)), dyz_round (lt_pow (a := 5) (by omega) (by decide))]
    simp only
    rw [dyz_subI (smZ (by omega) (by decide) (by decide)) (smZ (by omega) (by decide) (by decide)) (smZ (by omega) (by decide) (by decide)) (lt_pow (a := 5) (by omega) (by decide))]
   show (mulI (smW 200 (pt (dyz a (-3))) r n) (smS 200 (pt (dyz a (-3))) r n) 200).v = _
   rw [ih, hs, dyz_mulI ⟨lt_pow f1 (by decide), by omega, by omega⟩ (smZ (by omega) (by decide) (by decide)) ⟨lt_pow f2 (by decide), by omega, by omega⟩ (lt_pow f2 (by decide))]
   simp only
   congr 2
theorem fZ_q (r : Nat → Int) (a : Int) : ∀ n : Nat, (fZ r a n : Rat) * pw (-3 * ((n : Int) + 1)) = fS r ((a : Rat) * pw (-3)) n
 | 0 => rfl
 | n + 1 => by
   have ih := fZ_q r a n
   show ((fZ r a n * (a - r n) : Int) : Rat) * _ = fS r ((a : Rat) * pw (-3)) n * ((a : Rat) * pw (-3) - (r n : Rat) * pw (-3))
   rw [← ih, show (-3 * (((n + 1 : Nat) : Int) + 1)) = -3 * ((n : Int) + 1) + -3 by omega, pw_add, Rat.intCast_mul, Rat.intCast_sub]
   grind
theorem smZ8 {z : Int} (h : z.natAbs ≤ 100) : SmZ z (-3) := smZ (by omega) (by decide) (by decide)
/-- An interval of two of the numbers. -/
theorem smI_of {r : Nat → Int} {a b : Int} {p : Nat} (hr : ∀ i, (r i).natAbs ≤ 8) (ha : a.natAbs ≤ 16) (hb : b.natAbs ≤ 16) (h : (dyz a (-3)).q ≤ (dyz b (-3)).q) (h1 : 20 ≤ p) (h2 : p ≤ 300) : SmI ⟨dyz a (-3), dyz b (-3)⟩ r p :=
 ⟨⟨dyz_ok _ _, dyz_ok _ _, h⟩,
   ⟨dyz_rg (smZ8 (by omega)) (by decide) (by have := bl_small (n := a.natAbs) (k := 5) (by omega); omega) (by decide) (by decide), dyz_rg (smZ8 (by omega)) (by decide) (by have := bl_small (n := b.natAbs) (k := 5) (by omega); omega) (by decide) (by decide)⟩, hr, h1, h2⟩
/-- The law. -/
theorem sm_mean {r : Nat → Int} {a b : Int} {p n : Nat} (hr : ∀ i, (r i).natAbs ≤ 8) (ha : a.natAbs ≤ 16) (hb : b.natAbs ≤ 16) (h : (dyz a (-3)).q ≤ (dyz b (-3)).q) (h1 : 20 ≤ p) (h2 : p ≤ 300) (hn : n ≤ 5) :
 (smD p ⟨dyz a (-3), dyz b (-3)⟩ r n).lo.q * ((dyz b (-3)).q - (dyz a (-3)).q) ≤ (dyz (fZ r b n) (-3 * ((n : Int) + 1))).q - (dyz (fZ r a n) (-3 * ((n : Int) + 1))).q ∧
   (dyz (fZ r b n) (-3 * ((n : Int) + 1))).q - (dyz (fZ r a n) (-3 * ((n : Int) + 1))).q ≤ (smD p ⟨dyz a (-3), dyz b (-3)⟩ r n).hi.q * ((dyz b (-3)).q - (dyz a (-3)).q) := by
 have hI := smI_of (p := p) hr ha hb h h1 h2
 have d := (sm_d hI (x := (dyz a (-3)).q) (y := (dyz b (-3)).q) ⟨Rat.le_refl, h⟩ ⟨h, Rat.le_refl⟩ n hn).2.1
 have f1 := fZ_small hr ha hn
 have f2 := fZ_small hr hb hn
 rw [dyz_q (z := fZ r b n) ⟨lt_pow f2 (by decide), by omega, by omega⟩, dyz_q (z := fZ r a n) ⟨lt_pow f1 (by decide), by omega, by omega⟩, fZ_q, fZ_q]
 rw [dyz_q (z := a) (smZ8 (by omega)), dyz_q (z := b) (smZ8 (by omega))] at h d ⊢
 rw [dS_mean]
 have h0 : 0 ≤ (b : Rat) * pw (-3) - (a : Rat) * pw (-3) := by grind
 exact ⟨Rat.mul_le_mul_of_nonneg_right d.1 h0, Rat.mul_le_mul_of_nonneg_right d.2 h0⟩
end Go.Proofs.YtgododcbmkpbjaaGreatDoor
