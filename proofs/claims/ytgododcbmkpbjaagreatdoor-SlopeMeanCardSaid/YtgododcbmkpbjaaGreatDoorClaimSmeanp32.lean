/- What SlopeLines has made so far: numbers, values of states, lines, in rows of its own. -/
import Derived.Test.YtgododcbmkpbjaaGreatDoorClaimSmeanp19
import Derived.Test.YtgododcbmkpbjaaGreatDoorClaimSmeanp22
import Derived.Test.YtgododcbmkpbjaaGreatDoorClaimSmeanp25
import Derived.Test.YtgododcbmkpbjaaGreatDoorClaimSmeanp29
import Derived.Test.YtgododcbmkpbjaaGreatDoorClaimSmeanp30
set_option maxRecDepth 100000
set_option maxHeartbeats 16000000
namespace Go.Proofs.YtgododcbmkpbjaaGreatDoor
open Go.RowKit
theorem p20 {z : Nat} {p : Nat} (hp : 20 ≤ p) (h : z < 2 ^ 20) : z < 2 ^ p := Nat.lt_of_lt_of_le h (Nat.pow_le_pow_right (by decide) hp)
theorem smZ {z e : Int} (h : z.natAbs ≤ 100000) (h1 : -40 ≤ e) (h2 : e ≤ 0) : SmZ z e := ⟨Nat.lt_of_le_of_lt h (by decide), h1, h2⟩
theorem atI_of {l : List RawI} {n : Nat} {a : Iv} {z : Int} (h : l[n]? = some a.raw) (hz : z = (n : Int)) : atI l z = a := by
 subst hz
 unfold atI
 rw [Int.toNat_natCast, List.getD_eq_getElem?_getD, h, Option.getD_some, Iv.raw_iv]
theorem one_mul {p : Nat} (hp : 20 ≤ p) {a y c : Int} {cc : Iv} {db : Iv} (ha : a.natAbs ≤ 32) (hy : y.natAbs ≤ 32) (hc : c.natAbs ≤ 1) (hdb : db = pt (dyz c 0)) :
 oneS p 8 (pt (dyz a (-3))) (pt (dyz y (-3))) cc iz db 0 = ⟨pt (dyz (a * c) (-3)), 0⟩ := by
 subst hdb
 have hac : (a * c).natAbs ≤ 32 := by
  rw [Int.natAbs_mul]
  have : a.natAbs * c.natAbs ≤ 32 * 1 := Nat.mul_le_mul ha hc
  omega
 have h1 : mulI (pt (dyz 0 (-3))) (pt (dyz y (-3))) p = ⟨pt (dyz (0 * y) (-3 + -3)), 0⟩ :=
  dyz_mulI (smZ (by decide) (by decide) (by decide)) (smZ (by omega) (by decide) (by decide)) (by rw [Int.zero_mul]; exact smZ (by decide) (by decide) (by decide)) (by rw [Int.zero_mul]; exact p20 hp (by decide))
 rw [Int.zero_mul] at h1
 have h2 : mulI (pt (dyz a (-3))) (pt (dyz c 0)) p = ⟨pt (dyz (a * c) (-3 + 0)), 0⟩ :=
  dyz_mulI (smZ (by omega) (by decide) (by decide)) (smZ (by omega) (by decide) (by decide)) (smZ (by omega) (by decide) (by decide)) (p20 hp (by omega))
 have h3 := dyz_addI (a := 0) (b := a * c) (e := -3) (p := p) (smZ (by decide) (by decide) (by decide)) (smZ (by omega) (by decide) (by decide)) (by rw [Int.zero_add]; exact smZ (by omega) (by decide) (by decide)) (by rw [Int.zero_add]; exact p20 hp (by omega))
 rw [Int.zero_add] at h3
 exact (oneS8 h1 h2).trans h3
theorem dz_rawz : dz.raw = rz := by unfold Dy.raw dz rz; simp only [limbs_zero]
theorem iz_rawz : iz.raw = rzI := by unfold Iv.raw iz rzI; simp only [dz_rawz]
/-- Boxes: a Dyad, a Dyad, the result's. -/
theorem boxddi (w : World) (x y z p q r : Value) : ∃ W, W = ((w.alloc (.cells #[x, y, z] 30)).alloc (.cells #[p, q, r] 30)).alloc (.cells #[.bool false, .slice none 0 0, .int .i64 0, .bool false, .slice none 0 0, .int .i64 0] 32) ∧
 Kept w W ∧ Blk W w.heap.size x y z ∧ Blk W (w.heap.size + 1) p q r ∧ BlkI W (w.heap.size + 1 + 1) (.bool false) (.slice none 0 0) (.int .i64 0) (.bool false) (.slice none 0 0) (.int .i64 0) := by
 refine ⟨_, rfl, ((kept_alloc _ _).trans (kept_alloc _ _)).trans (kept_alloc _ _), ?_, ?_, ?_⟩
 ·exact (blk_alloc (blk_new _ _ _ _) _).kept (kept_alloc _ _)
 ·exact (blk_new1 _ _ _ _ _).kept (kept_alloc _ _)
 ·have := blkI_zero ((w.alloc (.cells #[x, y, z] 30)).alloc (.cells #[p, q, r] 30))
  simp only [World.size_alloc] at this
  exact this
/-- .. an interval, the result's. -/
theorem boxir (w : World) (x y z x' y' z' : Value) : ∃ W, W = (w.alloc (.cells #[x, y, z, x', y', z'] 32)).alloc (.cells #[.bool false, .slice none 0 0, .int .i64 0, .bool false, .slice none 0 0, .int .i64 0] 32) ∧
 Kept w W ∧ BlkI W w.heap.size x y z x' y' z' ∧ BlkI W (w.heap.size + 1) (.bool false) (.slice none 0 0) (.int .i64 0) (.bool false) (.slice none 0 0) (.int .i64 0) := by
 refine ⟨_, rfl, (kept_alloc _ _).trans (kept_alloc _ _), (blkI_new _ _ _ _ _ _ _).kept (kept_alloc _ _), ?_⟩
 have := blkI_zero (w.alloc (.cells #[x, y, z, x', y', z'] 32))
 simp only [World.size_alloc] at this
 exact this
theorem both_c {w : World} {v u : Value} {o1 o2 : Outc Dy} (hv : DyR w v o1.v.raw) (hu : DyR w u o2.v.raw) :
 Calls Tryz.prog 103 #[v, .int .i64 o1.k, u, .int .i64 o2.k] w (RetIE (rawO (ends o1 o2)) w) := by
 obtain ⟨A, l, c, rfl, h1⟩ := dyR_split hv
 obtain ⟨B, j, e, rfl, g1⟩ := dyR_split hu
 obtain ⟨W, hW, kW, BA, BB, BR⟩ := boxddi w (.bool o1.v.neg) (.slice A l c) (.int .i64 o1.v.e) (.bool o2.v.neg) (.slice B j e) (.int .i64 o2.v.e)
 have Z1 := Lib.hid (h1.kept kW)
 have Z2 := Lib.hid (g1.kept kW)
 have HW := Lib.hid hW
 have HK := Lib.hid kW
 obtain ⟨-, c0, c1, c2, -⟩ := BA.facts
 obtain ⟨-, d0, d1, d2, -⟩ := BB.facts
 have HR := Lib.hid BR
 obtain ⟨-, r0, r1, r2, r3, r4, r5⟩ := BR.facts
 obtain ⟨f0, f1, f2, f3, f4, f5⟩ := BR.free
 clear hW kW BA BB BR h1 g1 hv hu
 by_cases k1 : o1.k = 0
 ·by_cases k2 : o2.k = 0
  ·have ho : rawO (ends o1 o2) = ⟨⟨o1.v.raw, o2.v.raw⟩, 0⟩ := by
    unfold ends; rw [Outc.bind_of _ _ k1, Outc.bind_of _ _ k2]; rfl
   rw [ho, k1, k2]
   have HO := Lib.hid ho
   clear ho k1 k2
   generalize o1.v.neg = n1 at *
   generalize o1.v.e = e1 at *
   generalize o2.v.neg = n2 at *
   generalize o2.v.e = e2 at *
   generalize o1.v.raw = r1 at *
   generalize o2.v.raw = r2 at *
   go_enter Tryz.func103, Tryz.ntmps103
   go_upto_region 1 with fail
   rw [← HW.out]
   go_wp2_with fail
   exact ret_iv2 (HR.out.laid _ _ _ _ _ _) rfl rfl rfl ⟨ivW_kept HK.out (by omega), _, rfl, _, _, _, _, _, _, rfl, Z1.out.ivW HR.out _ _ _ _ _ _, Z2.out.ivW HR.out _ _ _ _ _ _⟩
  ·have ho : rawO (ends o1 o2) = ⟨rzI, o2.k⟩ := by
    unfold ends Outc.bind; rw [if_pos k1]; simp only [if_neg k2]; exact congrArg (Outc.mk · o2.k) iz_rawz
   rw [ho, k1]
   have k2' : (o2.k != 0) = true := by simp [k2]
   clear ho k1 k2
   generalize o1.v.neg = n1 at *
   generalize o1.v.e = e1 at *
   generalize o2.v.neg = n2 at *
   generalize o2.v.e = e2 at *
   generalize o1.v.raw = r1 at *
   generalize o2.v.raw = r2 at *
   generalize o2.k = q2 at *
   go_enter Tryz.func103, Tryz.ntmps103
   go_upto_region 1 with fail
   rw [← HW.out]
   go_wp2_with fail
   exact ret_iv2 (HR.out.laid _ _ _ _ _ _) rfl rfl rfl ⟨ivW_kept HK.out (by omega), _, rfl, ivR_zero _⟩
 ·have ho : rawO (ends o1 o2) = ⟨rzI, o1.k⟩ := by
   unfold ends Outc.bind; rw [if_neg k1]; exact congrArg (Outc.mk · o1.k) iz_rawz
  rw [ho]
  have k1' : (o1.k != 0) = true := by simp [k1]
  clear ho k1
  generalize o1.v.neg = n1 at *
  generalize o1.v.e = e1 at *
  generalize o2.v.neg = n2 at *
  generalize o2.v.e = e2 at *
  generalize o1.v.raw = r1 at *
  generalize o2.v.raw = r2 at *
  generalize o2.k = q2 at *
  generalize o1.k = q1 at *
  go_enter Tryz.func103, Tryz.ntmps103
  go_upto_region 1 with fail
  rw [← HW.out]
  go_wp2_with fail
  exact ret_iv2 (HR.out.laid _ _ _ _ _ _) rfl rfl rfl ⟨ivW_kept HK.out (by omega), _, rfl, ivR_zero _⟩
theorem boxD (w : World) (x y z : Value) : ∃ V, V = w.alloc (.cells #[x, y, z] 30) ∧ Kept w V ∧ Blk V w.heap.size x y z ∧ w.heap.size < V.heap.size :=
 ⟨_, rfl, kept_alloc _ _, blk_new _ _ _ _, by simp⟩
theorem iround_c {w : World} {v : Value} {a : Iv} {p : Nat} (hv : IvC w v a) (ha : a.Ok) (hT : Tab w) (p1 : 1 ≤ p) (p2 : p ≤ 2000) :
 Calls Tryz.prog 61 #[v, .int .i64 p] w (RetIE (rawO (roundI a p)) w) := by
 have m1 := fun w1 (k : Kept w w1) => imayT_c (hv.kept k) ha
 obtain ⟨A, l, c, A', l', c', rfl, h1, h2⟩ := ivC_split hv
 have c1 := fun w1 (k : Kept w w1) => Down_c (h1.kept k) ha.lo (hT.kept k) p1 p2
 have c2 := fun w1 (k : Kept w w1) => Up_c (h2.kept k) ha.hi (hT.kept k) p1 p2
 have hdef : roundI a p = ends (dirD a.lo p false) (dirD a.hi p true) := rfl
 rw [hdef]
 obtain ⟨W, hW, kW, BI, BR⟩ := boxir w (.bool a.lo.neg) (.slice A l c) (.int .i64 a.lo.e) (.bool a.hi.neg) (.slice A' l' c') (.int .i64 a.hi.e)
 have M1 := Lib.hid m1
 have C1 := Lib.hid c1
 have C2 := Lib.hid c2
 have HW := Lib.hid hW
 have K := Lib.hid kW
 have HB := Lib.hid BI
 have HR := Lib.hid BR
 clear m1 c1 c2 hW kW BI BR h1 h2 hv ha hT hdef
 generalize dirD a.lo p false = o1 at *
 generalize dirD a.hi p true = o2 at *
 generalize a.lo.neg = n1 at *
 generalize a.lo.e = e1 at *
 generalize a.hi.neg = n2 at *
 generalize a.hi.e = e2 at *
 go_enter Tryz.func61, Tryz.ntmps61
 go_wp2_with fail
 rw [← HW.out]
 refine (M1.out _ K.out).mono ?_
 rintro e w1 ⟨rfl, q⟩
 replace K := Lib.hid (K.out.trans q)
 replace HB := Lib.hid (HB.out.kept q)
 replace HR := Lib.hid (HR.out.kept q)
 clear q M1 HW
 obtain ⟨-, c0, c1, c2, c3, c4, c5⟩ := HB.out.facts
 simp only []
 go_wp2_with fail
 refine (C1.out _ K.out).mono ?_
 rintro e w2 ⟨q, u, rfl, hd⟩
 obtain ⟨PX, pX, qX, rfl, z1⟩ := dyR_split hd
 simp only []
 obtain ⟨VX, hV, kV, hb, lV⟩ := boxD w2 (.bool o1.v.neg) (.slice PX pX qX) (.int .i64 o1.v.e)
 have HV := Lib.hid hV
 have kk := q.trans kV
 have lt1 : w.heap.size + 1 < w2.heap.size := Nat.lt_of_lt_of_le HR.out.facts.1 q.size
 replace K := Lib.hid (K.out.trans kk)
 replace HB := Lib.hid (HB.out.kept kk); replace HR := Lib.hid (HR.out.kept kk)
 have HX := Lib.hid hb
 have ZX := Lib.hid (z1.kept kV)
 clear hV kV hb lV kk q hd z1 c0 c1 c2 c3 c4 c5 C1
 go_upto_region 4 with fail
 rw [← HV.out]
 clear HV
 generalize w2.heap.size = bX at *
 obtain ⟨-, c0, c1, c2, c3, c4, c5⟩ := HB.out.facts
 go_wp2_with fail
 refine (C2.out _ K.out).mono ?_
 rintro e w2 ⟨q, u, rfl, hd⟩
 obtain ⟨PY, pY, qY, rfl, z1⟩ := dyR_split hd
 simp only []
 obtain ⟨VY, hV, kV, hb, lV⟩ := boxD w2 (.bool o2.v.neg) (.slice PY pY qY) (.int .i64 o2.v.e)
 have HV := Lib.hid hV
 have kk := q.trans kV
 have lt2 : bX < w2.heap.size := Nat.lt_of_lt_of_le HX.out.facts.1 q.size
 replace K := Lib.hid (K.out.trans kk)
 replace HR := Lib.hid (HR.out.kept kk); replace HX := Lib.hid (HX.out.kept kk); replace ZX := Lib.hid (ZX.out.kept kk)
 have HY := Lib.hid hb
 have ZY := Lib.hid (z1.kept kV)
 clear hV kV hb lV kk q hd z1 c0 c1 c2 c3 c4 c5 C2 HB
 go_upto_region 5 with fail
 rw [← HV.out]
 clear HV
 generalize w2.heap.size = bY at *
 obtain ⟨-, c0, c1, c2, -⟩ := HX.out.facts
 obtain ⟨-, d0, d1, d2, -⟩ := HY.out.facts
 go_wp2_with fail
 refine (both_c ZX.out ZY.out).mono ?_
 rintro e w2 ⟨q, u, rfl, hd⟩
 obtain ⟨P, p', q', R, r, s, rfl, z1, z2⟩ := ivR_split hd
 have hr := HR.out.kept q
 obtain ⟨-, r0, r1, r2, r3, r4, r5⟩ := hr.facts
 obtain ⟨f0, f1, f2, f3, f4, f5⟩ := hr.free
 have HRR := Lib.hid hr
 have Z1 := Lib.hid z1
 have Z2 := Lib.hid z2
 clear hr z1 z2 hd c0 c1 c2 d0 d1 d2
 simp only []
 go_wp2_with fail
 exact ret_iv2 (HRR.out.laid _ _ _ _ _ _) rfl rfl rfl ⟨ivW_kept (K.out.trans q) (by omega), _, rfl, _, _, _, _, _, _, rfl, Z1.out.ivW HRR.out _ _ _ _ _ _, Z2.out.ivW HRR.out _ _ _ _ _ _⟩
theorem boxiir (w : World) (x y z x' y' z' p q r p' q' r' : Value) : ∃ W, W = ((w.alloc (.cells #[x, y, z, x', y', z'] 32)).alloc (.cells #[p, q, r, p', q', r'] 32)).alloc (.cells #[.bool false, .slice none 0 0, .int .i64 0, .bool false, .slice none 0 0, .int .i64 0] 32) ∧
 Kept w W ∧ BlkI W w.heap.size x y z x' y' z' ∧ BlkI W (w.heap.size + 1) p q r p' q' r' ∧ BlkI W (w.heap.size + 1 + 1) (.bool false) (.slice none 0 0) (.int .i64 0) (.bool false) (.slice none 0 0) (.int .i64 0) := by
 obtain ⟨W, hW, k, b1, b2⟩ := box2ii w x y z x' y' z' p q r p' q' r'
 refine ⟨_, rfl, ?_, ?_, ?_, ?_⟩
 ·rw [← hW]; exact k.trans (kept_alloc _ _)
 ·rw [← hW]; exact b1.kept (kept_alloc _ _)
 ·rw [← hW]; exact b2.kept (kept_alloc _ _)
 ·have := blkI_zero ((w.alloc (.cells #[x, y, z, x', y', z'] 32)).alloc (.cells #[p, q, r, p', q', r'] 32))
  simp only [World.size_alloc] at this
  exact this
/-- The contracts of the operations of which S tells. -/
structure OpsC (S : Int → Prop) : Prop where
 add : S 6 → ∀ {w : World} {v u : Value} {a b : Iv} {p : Nat}, IvC w v a → IvC w u b → a.Ok → b.Ok → Tab w → 1 ≤ p → p ≤ 2000 → Calls Tryz.prog 107 #[v, u, .int .i64 p] w (RetIE (rawO (addI a b p)) w)
 sub : S 7 → ∀ {w : World} {v u : Value} {a b : Iv} {p : Nat}, IvC w v a → IvC w u b → a.Ok → b.Ok → Tab w → 1 ≤ p → p ≤ 2000 → Calls Tryz.prog 108 #[v, u, .int .i64 p] w (RetIE (rawO (subI a b p)) w)
 mul : S 8 → ∀ {w : World} {v u : Value} {a b : Iv} {p : Nat}, IvC w v a → IvC w u b → a.Ok → b.Ok → Tab w → 1 ≤ p → p ≤ 2000 → Calls Tryz.prog 109 #[v, u, .int .i64 p] w (RetIE (rawO (mulI a b p)) w)
 div : S 9 → ∀ {w : World} {v u : Value} {a b : Iv} {p : Nat}, IvC w v a → IvC w u b → a.Ok → b.Ok → Tab w → 1 ≤ p → p ≤ 2000 → Calls Tryz.prog 105 #[v, u, .int .i64 p] w (RetIE (rawO (divI a b p)) w)
 neg : S 10 → ∀ {w : World} {v : Value} {a : Iv} {p : Nat}, IvC w v a → a.Ok → Tab w → 1 ≤ p → p ≤ 2000 → Calls Tryz.prog 110 #[v, .int .i64 p] w (RetIE (rawO (negI a p)) w)
 sqr : S 11 → ∀ {w : World} {v : Value} {a : Iv} {p : Nat}, IvC w v a → a.Ok → Tab w → 1 ≤ p → p ≤ 2000 → Calls Tryz.prog 111 #[v, .int .i64 p] w (RetIE (rawO (sqrI a p)) w)
 sqrt : S 12 → ∀ {w : World} {v : Value} {a : Iv} {p : Nat}, IvC w v a → a.Ok → Tab w → 1 ≤ p → p ≤ 2000 → Calls Tryz.prog 112 #[v, .int .i64 p] w (RetIE (rawO (sqrtI a p)) w)
/-- What a worker does wants this. -/
def DoS (S : Int → Prop) (op : Int) : Prop := S (if op = 6 ∨ op = 7 ∨ op = 8 ∨ op = 9 then op else 10)
/-- What a derivative wants. -/
def needs (op : Int) : List Int := if op = 6 then [6] else if op = 7 then [7] else if op = 10 then [10] else if op = 8 then [8, 6] else if op = 9 then [8, 7, 9] else if op = 11 then [8] else if op = 12 then [8, 9] else if op = 13 then [8] else []
def DerS (S : Int → Prop) (op : Int) : Prop := ∀ n ∈ needs op, S n
theorem tone_c {S : Int → Prop} {ov : Iv → Nat → Outc Iv} {w : World} {va vb : Value} {a b : Iv} {op : Int} {p : Nat} (ha : IvC w va a) (hb : IvC w vb b) (oa : a.Ok) (ob : b.Ok) (hT : Tab w) (p1 : 1 ≤ p) (p2 : p ≤ 2000)
 (hov : ¬ (6 ≤ op ∧ op ≤ 12) → ∀ w1, Kept w w1 → Calls Tryz.prog 113 #[va, .int .i64 p] w1 (RetIE (rawO (ov a p)) w1)) (O : OpsC S) (hS : 6 ≤ op → op ≤ 12 → S op) :
 Calls Tryz.prog 70 #[.int .i64 op, va, vb, .int .i64 p] w (RetIE (rawO (oneI ov op a b p)) w) := by
 have IA := Lib.hid ha
 have IB := Lib.hid hb
 have OA := Lib.hid (And.intro oa ob)
 have T := Lib.hid hT
 have HOV := Lib.hid hov
 have OPS := Lib.hid O
 have HS := Lib.hid hS
 clear ha hb oa ob hT hov O hS
 obtain ⟨A, l, c, A', l', c', rfl, -, -⟩ := ivC_split IA.out
 obtain ⟨B, j, e, B', j', e', rfl, -, -⟩ := ivC_split IB.out
 obtain ⟨W, hW, kW, BI, BJ, BR⟩ := boxiir w (.bool a.lo.neg) (.slice A l c) (.int .i64 a.lo.e) (.bool a.hi.neg) (.slice A' l' c') (.int .i64 a.hi.e) (.bool b.lo.neg) (.slice B j e) (.int .i64 b.lo.e) (.bool b.hi.neg) (.slice B' j' e') (.int .i64 b.hi.e)
 have HW := Lib.hid hW
 have K := Lib.hid kW
 obtain ⟨-, c0, c1, c2, c3, c4, c5⟩ := BI.facts
 obtain ⟨-, d0, d1, d2, d3, d4, d5⟩ := BJ.facts
 have HR := Lib.hid BR
 clear hW kW BI BJ BR
 by_cases h6 : op = 6
 ·obtain rfl : op = 6 := h6
  have ho : oneI ov 6 a b p = addI a b p := by simp [oneI]
  rw [ho]
  have CC := Lib.hid (fun w1 (k : Kept w w1) => OPS.out.add (HS.out (by decide) (by decide)) (IA.out.kept k) (IB.out.kept k) OA.out.1 OA.out.2 (T.out.kept k) p1 p2)
  clear ho IA IB OA T HOV OPS HS
  generalize rawO _ = o at *
  generalize a.lo.neg = n1 at *
  generalize a.lo.e = e1 at *
  generalize a.hi.neg = n2 at *
  generalize a.hi.e = e2 at *
  generalize b.lo.neg = n3 at *
  generalize b.lo.e = e3 at *
  generalize b.hi.neg = n4 at *
  generalize b.hi.e = e4 at *
  go_enter Tryz.func70, Tryz.ntmps70
  go_upto_region 1 with fail
  rw [← HW.out]
  go_wp2_with fail
  refine (CC.out _ K.out).mono ?_
  rintro e w2 ⟨q, u, rfl, hd⟩
  obtain ⟨P, p', q', R, r, s, rfl, z1, z2⟩ := ivR_split hd
  have hr := HR.out.kept q
  obtain ⟨-, r0, r1, r2, r3, r4, r5⟩ := hr.facts
  obtain ⟨f0, f1, f2, f3, f4, f5⟩ := hr.free
  have HRR := Lib.hid hr
  have Z1 := Lib.hid z1
  have Z2 := Lib.hid z2
  clear hr z1 z2 hd c0 c1 c2 c3 c4 c5 d0 d1 d2 d3 d4 d5
  simp only []
  go_wp2_with fail
  exact ret_iv2 (HRR.out.laid _ _ _ _ _ _) rfl rfl rfl ⟨ivW_kept (K.out.trans q) (by omega), _, rfl, _, _, _, _, _, _, rfl, Z1.out.ivW HRR.out _ _ _ _ _ _, Z2.out.ivW HRR.out _ _ _ _ _ _⟩
 by_cases h7 : op = 7
 ·obtain rfl : op = 7 := h7
  have ho : oneI ov 7 a b p = subI a b p := by simp [oneI]
  rw [ho]
  have CC := Lib.hid (fun w1 (k : Kept w w1) => OPS.out.sub (HS.out (by decide) (by decide)) (IA.out.kept k) (IB.out.kept k) OA.out.1 OA.out.2 (T.out.kept k) p1 p2)
  clear ho IA IB OA T HOV OPS HS
  generalize rawO _ = o at *
  generalize a.lo.neg = n1 at *
  generalize a.lo.e = e1 at *
  generalize a.hi.neg = n2 at *
  generalize a.hi.e = e2 at *
  generalize b.lo.neg = n3 at *
  generalize b.lo.e = e3 at *
  generalize b.hi.neg = n4 at *
  generalize b.hi.e = e4 at *
  go_enter Tryz.func70, Tryz.ntmps70
  go_upto_region 1 with fail
  rw [← HW.out]
  go_wp2_with fail
  refine (CC.out _ K.out).mono ?_
  rintro e w2 ⟨q, u, rfl, hd⟩
  obtain ⟨P, p', q', R, r, s, rfl, z1, z2⟩ := ivR_split hd
  have hr := HR.out.kept q
  obtain ⟨-, r0, r1, r2, r3, r4, r5⟩ := hr.facts
  obtain ⟨f0, f1, f2, f3, f4, f5⟩ := hr.free
  have HRR := Lib.hid hr
  have Z1 := Lib.hid z1
  have Z2 := Lib.hid z2
  clear hr z1 z2 hd c0 c1 c2 c3 c4 c5 d0 d1 d2 d3 d4 d5
  simp only []
  go_wp2_with fail
  exact ret_iv2 (HRR.out.laid _ _ _ _ _ _) rfl rfl rfl ⟨ivW_kept (K.out.trans q) (by omega), _, rfl, _, _, _, _, _, _, rfl, Z1.out.ivW HRR.out _ _ _ _ _ _, Z2.out.ivW HRR.out _ _ _ _ _ _⟩
 by_cases h8 : op = 8
 ·obtain rfl : op = 8 := h8
  have ho : oneI ov 8 a b p = mulI a b p := by simp [oneI]
  rw [ho]
  have CC := Lib.hid (fun w1 (k : Kept w w1) => OPS.out.mul (HS.out (by decide) (by decide)) (IA.out.kept k) (IB.out.kept k) OA.out.1 OA.out.2 (T.out.kept k) p1 p2)
  clear ho IA IB OA T HOV OPS HS
  generalize rawO _ = o at *
  generalize a.lo.neg = n1 at *
  generalize a.lo.e = e1 at *
  generalize a.hi.neg = n2 at *
  generalize a.hi.e = e2 at *
  generalize b.lo.neg = n3 at *
  generalize b.lo.e = e3 at *
  generalize b.hi.neg = n4 at *
  generalize b.hi.e = e4 at *
  go_enter Tryz.func70, Tryz.ntmps70
  go_upto_region 1 with fail
  rw [← HW.out]
  go_wp2_with fail
  refine (CC.out _ K.out).mono ?_
  rintro e w2 ⟨q, u, rfl, hd⟩
  obtain ⟨P, p', q', R, r, s, rfl, z1, z2⟩ := ivR_split hd
  have hr := HR.out.kept q
  obtain ⟨-, r0, r1, r2, r3, r4, r5⟩ := hr.facts
  obtain ⟨f0, f1, f2, f3, f4, f5⟩ := hr.free
  have HRR := Lib.hid hr
  have Z1 := Lib.hid z1
  have Z2 := Lib.hid z2
  clear hr z1 z2 hd c0 c1 c2 c3 c4 c5 d0 d1 d2 d3 d4 d5
  simp only []
  go_wp2_with fail
  exact ret_iv2 (HRR.out.laid _ _ _ _ _ _) rfl rfl rfl ⟨ivW_kept (K.out.trans q) (by omega), _, rfl, _, _, _, _, _, _, rfl, Z1.out.ivW HRR.out _ _ _ _ _ _, Z2.out.ivW HRR.out _ _ _ _ _ _⟩
 by_cases h9 : op = 9
 ·obtain rfl : op = 9 := h9
  have ho : oneI ov 9 a b p = divI a b p := by simp [oneI]
  rw [ho]
  have CC := Lib.hid (fun w1 (k : Kept w w1) => OPS.out.div (HS.out (by decide) (by decide)) (IA.out.kept k) (IB.out.kept k) OA.out.1 OA.out.2 (T.out.kept k) p1 p2)
  clear ho IA IB OA T HOV OPS HS
  generalize rawO _ = o at *
  generalize a.lo.neg = n1 at *
  generalize a.lo.e = e1 at *
  generalize a.hi.neg = n2 at *
  generalize a.hi.e = e2 at *
  generalize b.lo.neg = n3 at *
  generalize b.lo.e = e3 at *
  generalize b.hi.neg = n4 at *
  generalize b.hi.e = e4 at *
  go_enter Tryz.func70, Tryz.ntmps70
  go_upto_region 1 with fail
  rw [← HW.out]
  go_wp2_with fail
  refine (CC.out _ K.out).mono ?_
  rintro e w2 ⟨q, u, rfl, hd⟩
  obtain ⟨P, p', q', R, r, s, rfl, z1, z2⟩ := ivR_split hd
  have hr := HR.out.kept q
  obtain ⟨-, r0, r1, r2, r3, r4, r5⟩ := hr.facts
  obtain ⟨f0, f1, f2, f3, f4, f5⟩ := hr.free
  have HRR := Lib.hid hr
  have Z1 := Lib.hid z1
  have Z2 := Lib.hid z2
  clear hr z1 z2 hd c0 c1 c2 c3 c4 c5 d0 d1 d2 d3 d4 d5
  simp only []
  go_wp2_with fail
  exact ret_iv2 (HRR.out.laid _ _ _ _ _ _) rfl rfl rfl ⟨ivW_kept (K.out.trans q) (by omega), _, rfl, _, _, _, _, _, _, rfl, Z1.out.ivW HRR.out _ _ _ _ _ _, Z2.out.ivW HRR.out _ _ _ _ _ _⟩
 by_cases h10 : op = 10
 ·obtain rfl : op = 10 := h10
  have ho : oneI ov 10 a b p = negI a p := by simp [oneI]
  rw [ho]
  have CC := Lib.hid (fun w1 (k : Kept w w1) => OPS.out.neg (HS.out (by decide) (by decide)) (IA.out.kept k) OA.out.1 (T.out.kept k) p1 p2)
  clear ho IA IB OA T HOV OPS HS
  generalize rawO _ = o at *
  generalize a.lo.neg = n1 at *
  generalize a.lo.e = e1 at *
  generalize a.hi.neg = n2 at *
  generalize a.hi.e = e2 at *
  generalize b.lo.neg = n3 at *
  generalize b.lo.e = e3 at *
  generalize b.hi.neg = n4 at *
  generalize b.hi.e = e4 at *
  go_enter Tryz.func70, Tryz.ntmps70
  go_upto_region 1 with fail
  rw [← HW.out]
  go_wp2_with fail
  refine (CC.out _ K.out).mono ?_
  rintro e w2 ⟨q, u, rfl, hd⟩
  obtain ⟨P, p', q', R, r, s, rfl, z1, z2⟩ := ivR_split hd
  have hr := HR.out.kept q
  obtain ⟨-, r0, r1, r2, r3, r4, r5⟩ := hr.facts
  obtain ⟨f0, f1, f2, f3, f4, f5⟩ := hr.free
  have HRR := Lib.hid hr
  have Z1 := Lib.hid z1
  have Z2 := Lib.hid z2
  clear hr z1 z2 hd c0 c1 c2 c3 c4 c5 d0 d1 d2 d3 d4 d5
  simp only []
  go_wp2_with fail
  exact ret_iv2 (HRR.out.laid _ _ _ _ _ _) rfl rfl rfl ⟨ivW_kept (K.out.trans q) (by omega), _, rfl, _, _, _, _, _, _, rfl, Z1.out.ivW HRR.out _ _ _ _ _ _, Z2.out.ivW HRR.out _ _ _ _ _ _⟩
 by_cases h11 : op = 11
 ·obtain rfl : op = 11 := h11
  have ho : oneI ov 11 a b p = sqrI a p := by simp [oneI]
  rw [ho]
  have CC := Lib.hid (fun w1 (k : Kept w w1) => OPS.out.sqr (HS.out (by decide) (by decide)) (IA.out.kept k) OA.out.1 (T.out.kept k) p1 p2)
  clear ho IA IB OA T HOV OPS HS
  generalize rawO _ = o at *
  generalize a.lo.neg = n1 at *
  generalize a.lo.e = e1 at *
  generalize a.hi.neg = n2 at *
  generalize a.hi.e = e2 at *
  generalize b.lo.neg = n3 at *
  generalize b.lo.e = e3 at *
  generalize b.hi.neg = n4 at *
  generalize b.hi.e = e4 at *
  go_enter Tryz.func70, Tryz.ntmps70
  go_upto_region 1 with fail
  rw [← HW.out]
  go_wp2_with fail
  refine (CC.out _ K.out).mono ?_
  rintro e w2 ⟨q, u, rfl, hd⟩
  obtain ⟨P, p', q', R, r, s, rfl, z1, z2⟩ := ivR_split hd
  have hr := HR.out.kept q
  obtain ⟨-, r0, r1, r2, r3, r4, r5⟩ := hr.facts
  obtain ⟨f0, f1, f2, f3, f4, f5⟩ := hr.free
  have HRR := Lib.hid hr
  have Z1 := Lib.hid z1
  have Z2 := Lib.hid z2
  clear hr z1 z2 hd c0 c1 c2 c3 c4 c5 d0 d1 d2 d3 d4 d5
  simp only []
  go_wp2_with fail
  exact ret_iv2 (HRR.out.laid _ _ _ _ _ _) rfl rfl rfl ⟨ivW_kept (K.out.trans q) (by omega), _, rfl, _, _, _, _, _, _, rfl, Z1.out.ivW HRR.out _ _ _ _ _ _, Z2.out.ivW HRR.out _ _ _ _ _ _⟩
 by_cases h12 : op = 12
 ·obtain rfl : op = 12 := h12
  have ho : oneI ov 12 a b p = sqrtI a p := by simp [oneI]
  rw [ho]
  have CC := Lib.hid (fun w1 (k : Kept w w1) => OPS.out.sqrt (HS.out (by decide) (by decide)) (IA.out.kept k) OA.out.1 (T.out.kept k) p1 p2)
  clear ho IA IB OA T HOV OPS HS
  generalize rawO _ = o at *
  generalize a.lo.neg = n1 at *
  generalize a.lo.e = e1 at *
  generalize a.hi.neg = n2 at *
  generalize a.hi.e = e2 at *
  generalize b.lo.neg = n3 at *
  generalize b.lo.e = e3 at *
  generalize b.hi.neg = n4 at *
  generalize b.hi.e = e4 at *
  go_enter Tryz.func70, Tryz.ntmps70
  go_upto_region 1 with fail
  rw [← HW.out]
  go_wp2_with fail
  refine (CC.out _ K.out).mono ?_
  rintro e w2 ⟨q, u, rfl, hd⟩
  obtain ⟨P, p', q', R, r, s, rfl, z1, z2⟩ := ivR_split hd
  have hr := HR.out.kept q
  obtain ⟨-, r0, r1, r2, r3, r4, r5⟩ := hr.facts
  obtain ⟨f0, f1, f2, f3, f4, f5⟩ := hr.free
  have HRR := Lib.hid hr
  have Z1 := Lib.hid z1
  have Z2 := Lib.hid z2
  clear hr z1 z2 hd c0 c1 c2 c3 c4 c5 d0 d1 d2 d3 d4 d5
  simp only []
  go_wp2_with fail
  exact ret_iv2 (HRR.out.laid _ _ _ _ _ _) rfl rfl rfl ⟨ivW_kept (K.out.trans q) (by omega), _, rfl, _, _, _, _, _, _, rfl, Z1.out.ivW HRR.out _ _ _ _ _ _, Z2.out.ivW HRR.out _ _ _ _ _ _⟩
 have ho : oneI ov op a b p = ov a p := by unfold oneI; rw [if_neg h6, if_neg h7, if_neg h8, if_neg h9, if_neg h10, if_neg h11, if_neg h12]
 rw [ho]
 have CC := Lib.hid (HOV.out (by omega))
 have g6 : (op == 6) = false := by simp [h6]
 have g7 : (op == 7) = false := by simp [h7]
 have g8 : (op == 8) = false := by simp [h8]
 have g9 : (op == 9) = false := by simp [h9]
 have g10 : (op == 10) = false := by simp [h10]
 have g11 : (op == 11) = false := by simp [h11]
 have g12 : (op == 12) = false := by simp [h12]
 clear ho h6 h7 h8 h9 h10 h11 h12 IA IB OA T HOV OPS HS
 generalize rawO _ = o at *
 generalize a.lo.neg = n1 at *
 generalize a.lo.e = e1 at *
 generalize a.hi.neg = n2 at *
 generalize a.hi.e = e2 at *
 generalize b.lo.neg = n3 at *
 generalize b.lo.e = e3 at *
 generalize b.hi.neg = n4 at *
 generalize b.hi.e = e4 at *
 go_enter Tryz.func70, Tryz.ntmps70
 go_upto_region 1 with fail
 rw [← HW.out]
 go_wp2_with fail
 refine (CC.out _ K.out).mono ?_
 rintro e w2 ⟨q, u, rfl, hd⟩
 obtain ⟨P, p', q', R, r, s, rfl, z1, z2⟩ := ivR_split hd
 have hr := HR.out.kept q
 obtain ⟨-, r0, r1, r2, r3, r4, r5⟩ := hr.facts
 obtain ⟨f0, f1, f2, f3, f4, f5⟩ := hr.free
 have HRR := Lib.hid hr
 have Z1 := Lib.hid z1
 have Z2 := Lib.hid z2
 clear hr z1 z2 hd c0 c1 c2 c3 c4 c5 d0 d1 d2 d3 d4 d5
 simp only []
 go_wp2_with fail
 exact ret_iv2 (HRR.out.laid _ _ _ _ _ _) rfl rfl rfl ⟨ivW_kept (K.out.trans q) (by omega), _, rfl, _, _, _, _, _, _, rfl, Z1.out.ivW HRR.out _ _ _ _ _ _, Z2.out.ivW HRR.out _ _ _ _ _ _⟩
theorem mayLs_append (x u p : Int) : ∀ (a b : List Ln) (i : Nat), mayLs x u p i (a ++ b) = (mayLs x u p i a && mayLs x u p (i + a.length) b)
 | [], b, i => by rw [List.nil_append, mayLs, Bool.true_and]; rfl
 | l :: a, b, i => by
   rw [List.cons_append, mayLs, mayLs, mayLs_append x u p a b (i + 1), Bool.and_assoc, List.length_cons, show i + (a.length + 1) = i + 1 + a.length by omega]
theorem belowP_of {n m : Int} (h : 0 ≤ n) (h' : n < m) : belowP n m = true := by unfold belowP; simp [h, h']
theorem mayX1 {d : Dy} (h : d.Ok) (i x u p : Int) : mayL ⟨1, 0, 0, (pt d).raw⟩ i x u p = true := by
 have e : mayL ⟨1, 0, 0, (pt d).raw⟩ i x u p = (mayI (pt d).raw && (decide ((0 : Int) = 0) && decide ((0 : Int) = 0))) := rfl
 rw [e, mayI_raw (pt_ok h)]; rfl
theorem mayX3 {a x : Int} (h : 0 ≤ a) (h' : a < x) (i u p : Int) : mayL ⟨3, a, 0, rzI⟩ i x u p = true := by
 have e : mayL ⟨3, a, 0, rzI⟩ i x u p = (belowP a x && decide ((0 : Int) = 0)) := rfl
 rw [e, belowP_of h h']; rfl
theorem mayX8 {a b i : Int} (h : 0 ≤ a) (h' : a < i) (g : 0 ≤ b) (g' : b < i) (x u p : Int) : mayL ⟨8, a, b, rzI⟩ i x u p = true := by
 have e : mayL ⟨8, a, b, rzI⟩ i x u p = (belowP a i && belowP b i) := rfl
 rw [e, belowP_of h h', belowP_of g g']; rfl
theorem mayI_z : mayI rzI = true := by rw [← iz_rawz]; exact mayI_raw iz_ok
/-- A square, of three. -/
def t10L : List Ln := [⟨3, 0, 0, rzI⟩, ⟨8, 0, 0, rzI⟩]
def t10E : En := ⟨rzI, [(pt (dyz 3 0)).raw], [], []⟩
theorem t10_may : mayLs 1 0 0 0 t10L = true := by
 show (mayL ⟨3, 0, 0, rzI⟩ 0 1 0 0 && (mayL ⟨8, 0, 0, rzI⟩ 1 1 0 0 && true)) = true
 rw [mayX3 (by decide) (by decide), mayX8 (by decide) (by decide) (by decide) (by decide)]; rfl
theorem t10_tape (ov : Iv → Nat → Outc Iv) : tapeI ov t10L [1] t10E 20 = ⟨[(pt (dyz 3 0)).raw, (pt (dyz 9 0)).raw], 0⟩ := by
 have hmt : mayT t10L [1] t10E.x.length t10E.u.length t10E.p.length = true := by
  show (decide ((2 : Nat) ≤ 200) && decide ((1 : Nat) ≤ 200) && mayLs 1 0 0 0 t10L && (belowP 1 2 && true)) = true
  rw [t10_may]; rfl
 have hme : mayE t10E = true := by
  show (mayI rzI && (mayI (pt (dyz 3 0)).raw && true) && true && true) = true
  rw [mayI_z, mayI_raw (pt_ok (dyz_ok _ _))]; rfl
 unfold tapeI
 rw [if_pos ⟨by decide, by decide, hmt, hme⟩]
 have e1 : lineI ov t10E 20 [] ⟨3, 0, 0, rzI⟩ = ⟨pt (dyz 3 0), 0⟩ := by
  rw [lineI3, atI_of (l := t10E.x) (z := 0) (n := 0) (a := pt (dyz 3 0)) rfl rfl]; exact dyz_round (by decide)
 have e2 : lineI ov t10E 20 [(pt (dyz 3 0)).raw] ⟨8, 0, 0, rzI⟩ = ⟨pt (dyz 9 0), 0⟩ := by
  rw [lineI8, atI_of (l := [(pt (dyz 3 0)).raw]) (z := 0) (n := 0) (a := pt (dyz 3 0)) rfl rfl]
  exact dyz_mulI (a := 3) (b := 3) (e := 0) (f := 0) (smZ (by decide) (by decide) (by decide)) (smZ (by decide) (by decide) (by decide)) (smZ (by decide) (by decide) (by decide)) (by decide)
 show linesI ov t10E 20 [] [⟨3, 0, 0, rzI⟩, ⟨8, 0, 0, rzI⟩] = _
 rw [linesI, e1, if_pos rfl, List.nil_append, linesI, e2, if_pos rfl]; rfl
theorem t10_grad (ov : Iv → Nat → Outc Iv) : gradI ov t10L [1] t10E 20 = ⟨([(pt (dyz 9 0)).raw], [[(pt (dyz 6 0)).raw]]), 0⟩ := by
 have e1 : derivS 20 1 [(pt (dyz 3 0)).raw, (pt (dyz 9 0)).raw] [] ⟨3, 0, 0, rzI⟩ = ([(pt d1).raw], 0) := rfl
 have hm : mulI (pt d1) (pt (dyz 3 0)) 20 = ⟨pt (dyz 3 0), 0⟩ := by
  rw [← dyz_one]
  exact dyz_mulI (a := 1) (b := 3) (e := 0) (f := 0) (smZ (by decide) (by decide) (by decide)) (smZ (by decide) (by decide) (by decide)) (smZ (by decide) (by decide) (by decide)) (by decide)
 have hm' : mulI (pt (dyz 3 0)) (pt d1) 20 = ⟨pt (dyz 3 0), 0⟩ := by
  rw [← dyz_one]
  exact dyz_mulI (a := 3) (b := 1) (e := 0) (f := 0) (smZ (by decide) (by decide) (by decide)) (smZ (by decide) (by decide) (by decide)) (smZ (by decide) (by decide) (by decide)) (by decide)
 have ha : addI (pt (dyz 3 0)) (pt (dyz 3 0)) 20 = ⟨pt (dyz 6 0), 0⟩ :=
  dyz_addI (a := 3) (b := 3) (e := 0) (smZ (by decide) (by decide) (by decide)) (smZ (by decide) (by decide) (by decide)) (smZ (by decide) (by decide) (by decide)) (by decide)
 have e2 : derivS 20 1 [(pt (dyz 3 0)).raw, (pt (dyz 9 0)).raw] [[(pt d1).raw]] ⟨8, 0, 0, rzI⟩ = ([(pt (dyz 6 0)).raw], 0) := by
  rw [derivS8, atI_of (l := [(pt (dyz 3 0)).raw, (pt (dyz 9 0)).raw]) (z := 0) (n := 0) (a := pt (dyz 3 0)) rfl rfl]
  show rowG 20 8 (pt (dyz 3 0)) (pt (dyz 3 0)) _ [(pt d1).raw] [(pt d1).raw] 0 = _
  unfold rowG
  rw [Iv.raw_iv, oneS8 hm hm', ha]; rfl
 unfold gradI
 rw [t10_tape]
 have hg : gradS 20 1 [(pt (dyz 3 0)).raw, (pt (dyz 9 0)).raw] [] t10L = ⟨[[(pt d1).raw], [(pt (dyz 6 0)).raw]], 0⟩ := by
  show gradS 20 1 _ [] [⟨3, 0, 0, rzI⟩, ⟨8, 0, 0, rzI⟩] = _
  rw [gradS, e1]
  simp only [if_true, List.nil_append]
  rw [gradS, e2]
  simp only [if_true]; rfl
 rw [if_neg (by decide)]
 show (if (gradS 20 1 [(pt (dyz 3 0)).raw, (pt (dyz 9 0)).raw] [] t10L).k ≠ 0 then _ else (⟨([_], [(gradS 20 1 [(pt (dyz 3 0)).raw, (pt (dyz 9 0)).raw] [] t10L).v.getD 1 []]), 0⟩ : Outc _)) = _
 rw [hg]; rfl
theorem t10_none (ov : Iv → Nat → Outc Iv) : gradI ov t10L [1] ⟨rzI, [], [], []⟩ 20 = ⟨([], []), 1⟩ := by
 have ht : tapeI ov t10L [1] ⟨rzI, [], [], []⟩ 20 = ⟨[], 1⟩ := by
  unfold tapeI
  rw [if_neg]
  rintro ⟨-, -, h, -⟩
  revert h
  show ¬ (decide ((2 : Nat) ≤ 200) && decide ((1 : Nat) ≤ 200) && ((belowP 0 0 && decide ((0 : Int) = 0)) && _) && _) = true
  simp [belowP]
 unfold gradI
 rw [ht, if_pos (by decide)]
/-- A number's eighths. -/
def kz (z : Int) : Int := (IntKind.u64.wrap z).tmod 65 - 32
/-- The cells of an environment of which only the states are set. -/
def envC (v : Value) : Array Value := #[.bool false, .slice none 0 0, .int .i64 0, .bool false, .slice none 0 0, .int .i64 0, v, .slice none 0 0, .slice none 0 0]
def wantL (k : Nat → Int) (n : Nat) : List Raw := (List.range n).map fun j => (dyz (k j) (-3)).raw
def stateL (y : Nat → Int) (n : Nat) : List RawI := (List.range n).map fun j => (pt (dyz (y j) (-3))).raw
theorem stateL_succ (k : Nat → Int) (n : Nat) : stateL k (n + 1) = stateL k n ++ [(pt (dyz (k n) (-3))).raw] := by unfold stateL; rw [List.range_succ, List.map_append]; rfl
structure St (B : Nat) (W0 : World) (bt be : Nat) (k y : Nat → Int) (a b : Nat) (ls : List Ln) (vD vI vL : Value) (w : World) : Prop where
 D : ∃ xs, OwnG w B 30 3 vD a xs ∧ RowD (wantL k a) w xs
 I : ∃ xs, OwnG w B 32 6 vI b xs ∧ RowI (stateL y b) w xs
 L : ∃ xs, OwnG w B 41 9 vL ls.length xs ∧ RowL ls w xs
 dI : ∀ g ∈ ownL vD, g ∉ ownL vI
 dL : ∀ g ∈ ownL vD, g ∉ ownL vL
 iL : ∀ g ∈ ownL vI, g ∉ ownL vL
 t : w.heap[bt]? = some (.cells #[vL, .slice none 0 0] 27 (0, 0))
 e : w.heap[be]? = some (.cells (envC vI) 35 (0, 0))
 kb : KB W0 [bt, be] w
 base : W0.heap.size ≤ B
 ltB : B ≤ w.heap.size
 ltt : bt < B
 lte : be < B
 ne : bt ≠ be
section
variable {B : Nat} {W0 : World} {bt be : Nat} {k y : Nat → Int} {a b : Nat} {ls : List Ln} {vD vI vL : Value} {w w' : World}
theorem St.kept (h : St B W0 bt be k y a b ls vD vI vL w) (q : Kept w w') : St B W0 bt be k y a b ls vD vI vL w' := by
 obtain ⟨⟨x1, d1, d2⟩, ⟨x2, i1, i2⟩, ⟨x3, l1, l2⟩, h1, h2, h3, ht, he, hk, hB, hB', g1, g2, g3⟩ := h
 exact ⟨⟨x1, d1.kept q, stab_D _ _ _ [] _ (q.kb []) d2⟩, ⟨x2, i1.kept q, stab_I _ _ _ [] _ (q.kb []) i2⟩, ⟨x3, l1.kept q, stab_L _ _ _ [] _ (q.kb []) l2⟩, h1, h2, h3, (q.kb []).blk ht (by simp), (q.kb []).blk he (by simp), hk.step q, hB, Nat.le_trans hB' q.size, g1, g2, g3⟩
theorem OwnG.off {T : TypeId} {s n : Nat} {v : Value} {xs : List Value} (h : OwnG w B T s v n xs) {g : Nat} (hg : g ∈ ownL v) : B ≤ g ∧ g < w.heap.size := by
 have := h.lt g (mem_ownL.1 hg)
 exact ⟨this.2, this.1⟩
theorem offX_cons {v u : Value} {b : Nat} (h : ∀ g ∈ ownL v, g ∉ ownL u) (hb : ∀ g ∈ ownL v, g ≠ b) : OffX v (b :: ownL u) := fun g hg hm => by
 rcases List.mem_cons.1 hm with e | hm
 ·exact hb g (mem_ownL.2 hg) e
 ·exact h g (mem_ownL.2 hg) hm
theorem AppV.apart {T : TypeId} {s n : Nat} {C : World → List Value → Prop} {hs : Nat} {v v' u : Value} (h : AppV B T s v n C hs w' v') (hd : ∀ g ∈ ownL v, g ∉ ownL u) (hu : ∀ g ∈ ownL u, g < hs) : ∀ g ∈ ownL v', g ∉ ownL u := by
 intro g hg hgu
 obtain ⟨-, g', h1, h2⟩ := h
 rw [mem_ownL, h1] at hg
 cases hg
 rcases h2 with h2 | h2
 ·exact hd _ (mem_ownL.2 h2) hgu
 ·have := hu _ hgu; omega
theorem flip {v u : Value} (h : ∀ g ∈ ownL v, g ∉ ownL u) : ∀ g ∈ ownL u, g ∉ ownL v := fun g hu hv => h g hv hu
theorem St.ival {v' : Value} (h : St B W0 bt be k y a b ls vD vI vL w) (q : KB w (be :: ownL vI) w') (hb : w'.heap[be]? = some (.cells ((envC vI).setIfInBounds 6 v') 35 (0, 0)))
 (hv : AppV B 32 6 vI (b + 1) (RowI (stateL y b ++ [(pt (dyz (y b) (-3))).raw])) w.heap.size w' v') : St B W0 bt be k y a (b + 1) ls vD v' vL w' := by
 obtain ⟨⟨x1, d1, d2⟩, ⟨x2, i1, i2⟩, ⟨x3, l1, l2⟩, h1, h2, h3, ht, he, hk, hB, hB', g1, g2, g3⟩ := h
 have nd : ∀ {g}, g < B → g ∉ ownL vI := fun hg hm => by have := (i1.off hm).1; omega
 refine ⟨⟨x1, d1.kb q (offX_cons h1 fun g hg => by have := (d1.off hg).1; omega), stab_D _ _ _ _ _ q d2⟩, ?_, ⟨x3, l1.kb q (offX_cons (flip h3) fun g hg => by have := (l1.off hg).1; omega), stab_L _ _ _ _ _ q l2⟩,
  flip (hv.apart (flip h1) (fun g hg => (d1.off hg).2)), h2, hv.apart h3 (fun g hg => (l1.off hg).2), q.blk ht (by rw [List.mem_cons, not_or]; exact ⟨g3, nd g1⟩), hb, hk.trans q (fun g hg => ?_), hB, Nat.le_trans hB' q.size, g1, g2, g3⟩
 ·rw [stateL_succ]
  exact hv.1
 ·rcases List.mem_cons.1 hg with e | hg
  ·left; simp [e]
  ·exact .inr (Nat.le_trans hB (i1.off hg).1)
theorem St.lines {v' : Value} {l2 : List Ln} {m : Nat} (h : St B W0 bt be k y a b ls vD vI vL w) (q : KB w (bt :: ownL vL) w') (hb : w'.heap[bt]? = some (.cells ((#[vL, .slice none 0 0] : Array Value).setIfInBounds 0 v') 27 (0, 0)))
 (hm : l2.length = m) (hv : AppV B 41 9 vL (ls.length + m) (RowL (ls ++ l2)) w.heap.size w' v') : St B W0 bt be k y a b (ls ++ l2) vD vI v' w' := by
 obtain ⟨⟨x1, d1, d2⟩, ⟨x2, i1, i2⟩, ⟨x3, l1, l2'⟩, h1, h2, h3, ht, he, hk, hB, hB', g1, g2, g3⟩ := h
 have nd : ∀ {g}, g < B → g ∉ ownL vL := fun hg hm => by have := (l1.off hm).1; omega
 refine ⟨⟨x1, d1.kb q (offX_cons h2 fun g hg => by have := (d1.off hg).1; omega), stab_D _ _ _ _ _ q d2⟩, ⟨x2, i1.kb q (offX_cons h3 fun g hg => by have := (i1.off hg).1; omega), stab_I _ _ _ _ _ q i2⟩, ?_,
  h1, flip (hv.apart (flip h2) (fun g hg => (d1.off hg).2)), flip (hv.apart (flip h3) (fun g hg => (i1.off hg).2)), hb, q.blk he (by rw [List.mem_cons, not_or]; exact ⟨g3.symm, nd g2⟩), hk.trans q (fun g hg => ?_), hB, Nat.le_trans hB' q.size, g1, g2, g3⟩
 ·rw [List.length_append, hm]
  exact hv.1
 ·rcases List.mem_cons.1 hg with e | hg
  ·left; simp [e]
  ·exact .inr (Nat.le_trans hB (l1.off hg).1)
theorem St.ivS (h : St B W0 bt be k y a b ls vD vI vL w) : IvS w vI (stateL y b) := by
 obtain ⟨xs, h1, h2⟩ := h.I
 exact h1.ivS h2 (by unfold stateL; simp)
theorem St.lnS (h : St B W0 bt be k y a b ls vD vI vL w) : LnS w vL ls := by
 obtain ⟨xs, h1, h2⟩ := h.L
 exact h1.lnS h2 rfl
end
end Go.Proofs.YtgododcbmkpbjaaGreatDoor
