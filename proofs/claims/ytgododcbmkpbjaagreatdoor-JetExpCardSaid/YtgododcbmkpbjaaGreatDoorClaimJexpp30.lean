/- Contracts of package arith, seventh part: Sqr. -/
import Derived.Test.YtgododcbmkpbjaaGreatDoorClaimJexpp14
import Derived.Test.YtgododcbmkpbjaaGreatDoorClaimJexpp20
import Derived.Test.YtgododcbmkpbjaaGreatDoorClaimJexpp29
import Derived.Deep.CutBlock
set_option maxRecDepth 100000
set_option maxHeartbeats 16000000
namespace Go.Proofs.YtgododcbmkpbjaaGreatDoor
open Go.RowKit
/-- A closure's end: it returns two Dyads, or goes up. -/
def Goes2 (T : TypeId) (o : Outc RawI) (w : World) (e : Ending) (w' : World) : Prop :=
 Kept w w' ∧ ((o.k = 0 ∧ ∃ v1 v2, e = .returned (.tuple #[v1, v2]) ∧ DyR w' v1 o.v.lo ∧ DyR w' v2 o.v.hi) ∨ (o.k ≠ 0 ∧ e = .panicked (failV T o.k)))
/-- The cells from an address on are an interval. -/
def IvAt (w : World) (b o : Nat) (a : RawI) : Prop := ∃ x y z x' y' z', w.cell? ⟨b, o, none⟩ = some x ∧ w.cell? ⟨b, o + 1, none⟩ = some y ∧ w.cell? ⟨b, o + 2, none⟩ = some z ∧
 w.cell? ⟨b, o + 3, none⟩ = some x' ∧ w.cell? ⟨b, o + 4, none⟩ = some y' ∧ w.cell? ⟨b, o + 5, none⟩ = some z' ∧ IvR w (.agg #[x, y, z, x', y', z']) a
/-- The slice value v reads in w as the intervals l. -/
def IvS (w : World) (v : Value) (l : List RawI) : Prop := ∃ A c, v = .slice A l.length c ∧ l.length ≤ c ∧ (0 < l.length → ∃ b off, A = some ⟨b, off, none⟩ ∧ ∀ i a, l[i]? = some a → IvAt w b (off + i * 6) a)
theorem IvAt.kept {w w' : World} {b o : Nat} {a : RawI} (h : IvAt w b o a) (k : Kept w w') : IvAt w' b o a := by
 obtain ⟨x, y, z, x', y', z', h0, h1, h2, h3, h4, h5, hd⟩ := h
 have hb := lt_of_cell h0
 exact ⟨x, y, z, x', y', z', (k.cell (p := ⟨b, o, none⟩) hb).trans h0, (k.cell (p := ⟨b, o + 1, none⟩) hb).trans h1, (k.cell (p := ⟨b, o + 2, none⟩) hb).trans h2,
  (k.cell (p := ⟨b, o + 3, none⟩) hb).trans h3, (k.cell (p := ⟨b, o + 4, none⟩) hb).trans h4, (k.cell (p := ⟨b, o + 5, none⟩) hb).trans h5, hd.kept k⟩
theorem IvS.kept {w w' : World} {v : Value} {l : List RawI} (h : IvS w v l) (k : Kept w w') : IvS w' v l := by
 obtain ⟨A, c, rfl, hc, hA⟩ := h
 refine ⟨A, c, rfl, hc, fun h0 => ?_⟩
 obtain ⟨b, off, rfl, hd⟩ := hA h0
 exact ⟨b, off, rfl, fun i d hi => (hd i d hi).kept k⟩
theorem dyR_zero (w : World) : DyR w (.agg #[.bool false, .slice none 0 0, .int .i64 0]) rz := ⟨_, rfl, Lim.nil _ _ _, by decide, by decide⟩
def rzI : RawI := ⟨rz, rz⟩
theorem ivR_zero (w : World) : IvR w (.agg #[.bool false, .slice none 0 0, .int .i64 0, .bool false, .slice none 0 0, .int .i64 0]) rzI := ⟨_, _, _, _, _, _, rfl, dyR_zero w, dyR_zero w⟩
/-- What face makes of it. -/
def faceO (p : Int) (l : List RawI) (o : Outc RawI) : Outc RawI := if 1 ≤ p ∧ p ≤ 2000 ∧ l.all mayI = true then o else ⟨rzI, 1⟩
theorem results_face {tmps : Array Value} {w : World} {b b' : Nat} {x y z x' y' z' q : Value} (h : BlkI w b x y z x' y' z') (h' : w.cell? ⟨b', 0, none⟩ = some q)
 (ht : tmps.getD 6 undef = .pointer (some ⟨b, 0, none⟩)) (ht' : tmps.getD 7 undef = .pointer (some ⟨b', 0, none⟩)) :
 (results Tryz.f129 tmps).run Tryz.prog w = .ok (.tuple #[.agg #[x, y, z, x', y', z'], q]) w := by
 obtain ⟨_, c0, c1, c2, c3, c4, c5⟩ := h.facts
 have t1 : tmps[6]?.getD undef = .pointer (some ⟨b, 0, none⟩) := by simpa using ht
 have t2 : tmps[7]?.getD undef = .pointer (some ⟨b', 0, none⟩) := by simpa using ht'
 simp [results, Tryz.results129, t1, t2, go_sem, c0, c1, c2, c3, c4, c5, h']
theorem face_cA {w : World} {K : Nat} {cap : Array Value} {v : Value} {p : Int} {l : List RawI} {o : Outc RawI} (hv : IvS w v l) (hl : ∀ a ∈ l, a.lens 17592186044416) (hn : l.length ≤ 1000)
 (h : 1 ≤ p → p ≤ 2000 → l.all mayI = true → ∀ w1, Kept w w1 → Calls Tryz.prog K cap w1 (Goes2 162 o w1)) (hz : o.k ≠ 0 → o.v = rzI)
 (hk : ∀ w, (callFunc K cap).run Tryz.prog w = .ok (.enter K cap) w) :
 Calls Tryz.prog 129 #[.int .i64 p, .func (.func K) #[] cap, v] w (RetIE (faceO p l o) w) := by
 have hmf : ∀ (fn : Fn) (first cap : Array Value) (w : World), (Instr.makeFunc fn first cap).run Tryz.prog w = .ok (.func fn first cap) w := fun _ _ _ _ => rfl
 obtain ⟨A, c, rfl, hc, hA⟩ := hv
 have HH := Lib.hid h
 have HA := Lib.hid hA
 have HL := Lib.hid hl
 have HZ := Lib.hid hz
 have HK := Lib.hid hk
 clear h hA hl hz hk
 obtain ⟨n, hn'⟩ : ∃ n, n = l.length := ⟨_, rfl⟩
 rw [← hn'] at hn hc HA ⊢
 have HN := Lib.hid hn'
 clear hn'
 obtain ⟨W, hW⟩ : ∃ W, W = (w.alloc (.cells #[.bool false, .slice none 0 0, .int .i64 0, .bool false, .slice none 0 0, .int .i64 0] 32)).alloc (.cells #[.int .i64 0] 3) := ⟨_, rfl⟩
 have kW : Kept w W := by rw [hW]; exact (kept_alloc _ _).trans (kept_alloc _ _)
 have b0 : BlkI W w.heap.size (.bool false) (.slice none 0 0) (.int .i64 0) (.bool false) (.slice none 0 0) (.int .i64 0) := by rw [hW]; exact (blkI_zero w).kept (kept_alloc _ _)
 have b1 : W.heap[w.heap.size + 1]? = some (.cells #[.int .i64 0] 3 (0, 0)) := by
  rw [hW]
  have := heap_alloc_new (w.alloc (.cells #[.bool false, .slice none 0 0, .int .i64 0, .bool false, .slice none 0 0, .int .i64 0] 32)) (.cells #[.int .i64 0] 3)
  simpa using this
 have HW := Lib.hid hW
 have KW := Lib.hid kW
 have B0 := Lib.hid b0
 have B1 := Lib.hid b1
 clear hW kW b0 b1
 by_cases hp : 1 ≤ p ∧ p ≤ 2000
 ·have hd1 : decide (1 ≤ p) = true := by simp [hp.1]
  have hd2 : decide (p ≤ 2000) = true := by simp [hp.2]
  have HP := Lib.hid hp
  clear hp
  go_enter_defers Tryz.func129, Tryz.ntmps129
  go_wp2_with fail
  rw [← HW.out]
  refine (must_trueA 1 _).mono ?_
  rintro e w1 ⟨rfl, q⟩
  have K1 := Lib.hid q
  clear q
  simp only []
  go_wp2_with fail
  go_loopw [22] (fun t wr => ∃ k : Nat, k ≤ n ∧ t = .int .i64 k ∧ (∀ i a, i < k → l[i]? = some a → mayI a = true) ∧ Kept W wr) (fun t _ => (n - intOf t).toNat)
  case atStart => exact ⟨0, Nat.zero_le _, rfl, fun i a hi => absurd hi (Nat.not_lt_zero _), K1.out⟩
  case round =>
   obtain ⟨k, hk, rfl, hall, hKr⟩ := hrel
   have KR := Lib.hid hKr
   have AL := Lib.hid hall
   clear hKr hall
   by_cases hlt : k < n
   ·obtain ⟨b, off, rfl, hd⟩ := HA.out (by omega)
    obtain ⟨a, hak⟩ : ∃ a, l[k]? = some a := ⟨_, List.getElem?_eq_getElem (by have := HN.out; omega)⟩
    obtain ⟨x, y, z, x', y', z', h0, h1, h2, h3, h4, h5, hI⟩ := (hd k a hak).kept (KW.out.trans KR.out)
    obtain ⟨A1, l1, c1, A2, l2, c2, ei, -, -⟩ := ivR_split hI
    injection ei with ei; injection ei with ei
    simp only [List.cons.injEq, and_true] at ei
    obtain ⟨rfl, rfl, rfl, rfl, rfl, rfl⟩ := ei
    have hm := fun w2 (q : Kept wr w2) => imay_c (hI.kept q) (HL.out a (List.mem_of_getElem? hak))
    have AK := Lib.hid hak
    clear hd hak hI
    obtain ⟨mb, hmb⟩ : ∃ mb, mb = mayI a := ⟨_, rfl⟩
    rw [← hmb] at hm
    have HMB := Lib.hid hmb
    have HM := Lib.hid hm
    clear hmb hm
    generalize a.lo.neg = n1 at *
    generalize a.lo.e = e1 at *
    generalize a.hi.neg = n2 at *
    generalize a.hi.e = e2 at *
    go_wp2_with fail
    refine (HM.out _ (kept_alloc _ _)).mono ?_
    rintro e w2 ⟨rfl, q⟩
    have K2 := Lib.hid (KR.out.trans ((kept_alloc _ _).trans q))
    clear q h0 h1 h2 h3 h4 h5
    simp only []
    go_wp2_with fail
    cases mb
    ·refine (must_cA false 1 _).mono ?_
     rintro e w3 ⟨he, rfl⟩
     obtain rfl : e = .panicked (failV 162 1) := he
     have hpost : faceO p l o = ⟨rzI, 1⟩ := by
      unfold faceO
      rw [if_neg]
      rintro ⟨-, -, h3⟩
      rw [List.all_eq_true] at h3
      have := h3 a (List.mem_of_getElem? AK.out)
      rw [← HMB.out] at this
      cases this
     change bodyPostD _ _ (RetIE (faceO p l o) w) (Exit.panic _) _ _
     rw [hpost]
     refine leaves_cons (f := 169) (args := #[.pointer (some ⟨w.heap.size, 0, none⟩), .pointer (some ⟨w.heap.size + 1, 0, none⟩)]) (by simp) (by simp [go_sem]) ?_
     have y0 := B0.out.kept K2.out
     have y1 := ((Below.block K2.out) (w.heap.size + 1) (Array.getElem?_eq_some_iff.1 B1.out).1).trans B1.out
     refine (catchA_fail _ _ _ _ _ _ _ _ _ _ _ y0 y1 (by omega)).mono ?_
     rintro e u' w4 ⟨rfl, rfl, rfl⟩
     obtain ⟨d0, d1⟩ := laidI_cells (x := .bool false) (y := .slice none 0 0) (z := .int .i64 0) (x' := .bool false) (y' := .slice none 0 0) (z' := .int .i64 0) (q := .int .i64 (1 : Int)) (o := .cells #[.int .i64 (1 : Int)] 162) y0 y1 (by omega)
     have hkept := laidI_kept (x := .bool false) (y := .slice none 0 0) (z := .int .i64 0) (x' := .bool false) (y' := .slice none 0 0) (z' := .int .i64 0) (q := .int .i64 (1 : Int)) (o := .cells #[.int .i64 (1 : Int)] 162) (KW.out.trans K2.out) (Nat.le_refl w.heap.size) (Nat.le_succ w.heap.size)
     have HKE := Lib.hid hkept
     clear hkept y0 y1
     refine ⟨.tuple #[.agg #[.bool false, .slice none 0 0, .int .i64 0, .bool false, .slice none 0 0, .int .i64 0], .int .i64 (1 : Int)], ?_, ?_⟩
     ·obtain ⟨-, c0, c1, c2, c3, c4, c5⟩ := d0.facts
      generalize laidI _ _ _ _ _ _ _ _ _ _ _ = WW at *
      simp [results, Tryz.results129, go_sem, c0, c1, c2, c3, c4, c5, d1]
     ·exact ⟨HKE.out.drew, _, rfl, ivR_zero _⟩
    ·refine (must_trueA 1 _).mono ?_
     rintro e w3 ⟨rfl, q⟩
     replace K2 := Lib.hid (K2.out.trans q)
     simp only []
     go_wp2_with fail
     go_roundw
     case rel =>
      refine ⟨k + 1, by omega, by go_num, fun i a' hi ha' => ?_, K2.out⟩
      by_cases hik : i = k
      ·subst hik
       rw [AK.out] at ha'
       injection ha' with ha'
       rw [← ha', ← HMB.out]
      ·exact AL.out i a' (by omega) ha'
     case measure => simp [intOf]; omega
   ·obtain rfl : k = n := by omega
    have hcall := HH.out HP.out.1 HP.out.2 (by
     rw [List.all_eq_true]
     intro a ha
     obtain ⟨i, hi, rfl⟩ := List.getElem_of_mem ha
     exact AL.out i _ (by have := HN.out; omega) (List.getElem?_eq_getElem hi))
    have HC := Lib.hid hcall
    clear hcall
    have hk := HK.out
    go_wp2_with fail
    have hpost : faceO p l o = o := by
     unfold faceO
     rw [if_pos]
     refine ⟨HP.out.1, HP.out.2, ?_⟩
     rw [List.all_eq_true]
     intro a ha
     obtain ⟨i, hi, rfl⟩ := List.getElem_of_mem ha
     exact AL.out i _ (by have := HN.out; omega) (List.getElem?_eq_getElem hi)
    refine (HC.out _ (KW.out.trans KR.out)).mono ?_
    rintro e w2 ⟨q, ⟨h0, v1, v2, rfl, z1, z2⟩ | ⟨h0, rfl⟩⟩
    ·obtain ⟨A1, l1, c1, rfl, z1⟩ := rawR_split z1
     obtain ⟨A2, l2, c2, rfl, z2⟩ := rawR_split z2
     have y0 := B0.out.kept (KR.out.trans q)
     have y1 := (q.block (w.heap.size + 1) (by have := (Array.getElem?_eq_some_iff.1 B1.out).1; have := KR.out.size; omega)).trans (((KR.out).block (w.heap.size + 1) (Array.getElem?_eq_some_iff.1 B1.out).1).trans B1.out)
     obtain ⟨lb, r0, r1, r2, r3, r4, r5⟩ := y0.facts
     obtain ⟨f0, f1, f2, f3, f4, f5⟩ := y0.free
     have lb1 : w.heap.size + 1 < w2.heap.size := (Array.getElem?_eq_some_iff.1 y1).1
     have s0 := cell_of_block y1 0 _ rfl
     have g0 := free_of_block y1 0
     have m1 : ¬ w.heap.size = w2.heap.size := by omega
     have m2 : ¬ w.heap.size + 1 = w2.heap.size := by omega
     have m3 : ¬ w.heap.size = w2.heap.size + 1 := by omega
     have m4 : ¬ w.heap.size + 1 = w2.heap.size + 1 := by omega
     have m5 : ¬ w.heap.size = w.heap.size + 1 := by omega
     have Z1 := Lib.hid z1
     have Z2 := Lib.hid z2
     have Y0 := Lib.hid y0
     have Y1 := Lib.hid y1
     have H0 := Lib.hid h0
     have K2 := Lib.hid (KW.out.trans (KR.out.trans q))
     have HPOST := Lib.hid hpost
     clear z1 z2 y0 y1 h0 q hpost hk
     simp only []
     go_wp2_with fail
     refine leaves_cons (f := 169) (args := #[.pointer (some ⟨w.heap.size, 0, none⟩), .pointer (some ⟨w.heap.size + 1, 0, none⟩)]) (by simp) (by simp [go_sem]) ?_
     refine (catchA_idle _ _ _).mono ?_
     rintro e u' w4 ⟨rfl, rfl, rfl⟩
     obtain ⟨x0, x1⟩ := laidI_cells (x := .bool o.v.lo.neg) (y := .slice A1 l1 c1) (z := .int .i64 o.v.lo.e) (x' := .bool o.v.hi.neg) (y' := .slice A2 l2 c2) (z' := .int .i64 o.v.hi.e) (q := .int .i64 0) (o := .cells #[.bool o.v.lo.neg, .slice A1 l1 c1, .int .i64 o.v.lo.e] 30) Y0.out Y1.out m5
     refine ⟨_, results_face ((x0.kept (kept_alloc _ _)).kept (kept_alloc _ _)) (cell_kept (kept_alloc _ _) (cell_kept (kept_alloc _ _) x1)) rfl rfl, ?_⟩
     rw [HPOST.out]
     refine ⟨((laidI_kept K2.out (Nat.le_refl _) (Nat.le_succ _)).trans (kept_alloc _ _)).trans (kept_alloc _ _), _, by rw [H0.out], _, _, _, _, _, _, rfl, ?_, ?_⟩
     ·exact ((Z1.out.laidI Y0.out Y1.out m5 _ _ _ _ _ _ _ _).kept (kept_alloc _ _)).kept (kept_alloc _ _)
     ·exact ((Z2.out.laidI Y0.out Y1.out m5 _ _ _ _ _ _ _ _).kept (kept_alloc _ _)).kept (kept_alloc _ _)
    ·have K2 := Lib.hid (KR.out.trans q)
     have hpost2 : faceO p l o = ⟨rzI, o.k⟩ := by rw [hpost, ← HZ.out h0]
     change bodyPostD _ _ (RetIE (faceO p l o) w) (Exit.panic _) _ _
     rw [hpost2]
     refine leaves_cons (f := 169) (args := #[.pointer (some ⟨w.heap.size, 0, none⟩), .pointer (some ⟨w.heap.size + 1, 0, none⟩)]) (by simp) (by simp [go_sem]) ?_
     have y0 := B0.out.kept K2.out
     have y1 := ((Below.block K2.out) (w.heap.size + 1) (Array.getElem?_eq_some_iff.1 B1.out).1).trans B1.out
     refine (catchA_fail _ _ _ _ _ _ _ _ _ _ _ y0 y1 (by omega)).mono ?_
     rintro e u' w4 ⟨rfl, rfl, rfl⟩
     obtain ⟨d0, d1⟩ := laidI_cells (x := .bool false) (y := .slice none 0 0) (z := .int .i64 0) (x' := .bool false) (y' := .slice none 0 0) (z' := .int .i64 0) (q := .int .i64 o.k) (o := .cells #[.int .i64 o.k] 162) y0 y1 (by omega)
     have hkept := laidI_kept (x := .bool false) (y := .slice none 0 0) (z := .int .i64 0) (x' := .bool false) (y' := .slice none 0 0) (z' := .int .i64 0) (q := .int .i64 o.k) (o := .cells #[.int .i64 o.k] 162) (KW.out.trans K2.out) (Nat.le_refl w.heap.size) (Nat.le_succ w.heap.size)
     have HKE := Lib.hid hkept
     clear hkept y0 y1
     refine ⟨.tuple #[.agg #[.bool false, .slice none 0 0, .int .i64 0, .bool false, .slice none 0 0, .int .i64 0], .int .i64 o.k], ?_, ?_⟩
     ·obtain ⟨-, c0, c1, c2, c3, c4, c5⟩ := d0.facts
      generalize laidI _ _ _ _ _ _ _ _ _ _ _ = WW at *
      simp [results, Tryz.results129, go_sem, c0, c1, c2, c3, c4, c5, d1]
     ·exact ⟨HKE.out.drew, _, rfl, ivR_zero _⟩
 ·have hpost : faceO p l o = ⟨rzI, 1⟩ := by
   unfold faceO
   rw [if_neg]
   rintro ⟨h1, h2, -⟩
   exact hp ⟨h1, h2⟩
  rw [hpost]
  have K2 := Lib.hid (Below.refl W.heap.size W)
  by_cases h1 : 1 ≤ p
  ·have hd1 : decide (1 ≤ p) = true := by simp [h1]
   have hd2 : decide (p ≤ 2000) = false := by simp; omega
   clear hp h1
   go_enter_defers Tryz.func129, Tryz.ntmps129
   go_wp2_with fail
   rw [← HW.out]
   refine (must_cA false 1 _).mono ?_
   rintro e w3 ⟨he, rfl⟩
   obtain rfl : e = .panicked (failV 162 1) := he
   change bodyPostD _ _ _ (Exit.panic _) _ _
   refine leaves_cons (f := 169) (args := #[.pointer (some ⟨w.heap.size, 0, none⟩), .pointer (some ⟨w.heap.size + 1, 0, none⟩)]) (by simp) (by simp [go_sem]) ?_
   have y0 := B0.out.kept K2.out
   have y1 := ((Below.block K2.out) (w.heap.size + 1) (Array.getElem?_eq_some_iff.1 B1.out).1).trans B1.out
   refine (catchA_fail _ _ _ _ _ _ _ _ _ _ _ y0 y1 (by omega)).mono ?_
   rintro e u' w4 ⟨rfl, rfl, rfl⟩
   obtain ⟨d0, d1⟩ := laidI_cells (x := .bool false) (y := .slice none 0 0) (z := .int .i64 0) (x' := .bool false) (y' := .slice none 0 0) (z' := .int .i64 0) (q := .int .i64 (1 : Int)) (o := .cells #[.int .i64 (1 : Int)] 162) y0 y1 (by omega)
   have hkept := laidI_kept (x := .bool false) (y := .slice none 0 0) (z := .int .i64 0) (x' := .bool false) (y' := .slice none 0 0) (z' := .int .i64 0) (q := .int .i64 (1 : Int)) (o := .cells #[.int .i64 (1 : Int)] 162) (KW.out.trans K2.out) (Nat.le_refl w.heap.size) (Nat.le_succ w.heap.size)
   have HKE := Lib.hid hkept
   clear hkept y0 y1
   refine ⟨.tuple #[.agg #[.bool false, .slice none 0 0, .int .i64 0, .bool false, .slice none 0 0, .int .i64 0], .int .i64 (1 : Int)], ?_, ?_⟩
   ·obtain ⟨-, c0, c1, c2, c3, c4, c5⟩ := d0.facts
    generalize laidI _ _ _ _ _ _ _ _ _ _ _ = WW at *
    simp [results, Tryz.results129, go_sem, c0, c1, c2, c3, c4, c5, d1]
   ·exact ⟨HKE.out.drew, _, rfl, ivR_zero _⟩
  ·have hd1 : decide (1 ≤ p) = false := by simp; omega
   clear hp h1
   go_enter_defers Tryz.func129, Tryz.ntmps129
   go_wp2_with fail
   rw [← HW.out]
   refine (must_cA false 1 _).mono ?_
   rintro e w3 ⟨he, rfl⟩
   obtain rfl : e = .panicked (failV 162 1) := he
   change bodyPostD _ _ _ (Exit.panic _) _ _
   refine leaves_cons (f := 169) (args := #[.pointer (some ⟨w.heap.size, 0, none⟩), .pointer (some ⟨w.heap.size + 1, 0, none⟩)]) (by simp) (by simp [go_sem]) ?_
   have y0 := B0.out.kept K2.out
   have y1 := ((Below.block K2.out) (w.heap.size + 1) (Array.getElem?_eq_some_iff.1 B1.out).1).trans B1.out
   refine (catchA_fail _ _ _ _ _ _ _ _ _ _ _ y0 y1 (by omega)).mono ?_
   rintro e u' w4 ⟨rfl, rfl, rfl⟩
   obtain ⟨d0, d1⟩ := laidI_cells (x := .bool false) (y := .slice none 0 0) (z := .int .i64 0) (x' := .bool false) (y' := .slice none 0 0) (z' := .int .i64 0) (q := .int .i64 (1 : Int)) (o := .cells #[.int .i64 (1 : Int)] 162) y0 y1 (by omega)
   have hkept := laidI_kept (x := .bool false) (y := .slice none 0 0) (z := .int .i64 0) (x' := .bool false) (y' := .slice none 0 0) (z' := .int .i64 0) (q := .int .i64 (1 : Int)) (o := .cells #[.int .i64 (1 : Int)] 162) (KW.out.trans K2.out) (Nat.le_refl w.heap.size) (Nat.le_succ w.heap.size)
   have HKE := Lib.hid hkept
   clear hkept y0 y1
   refine ⟨.tuple #[.agg #[.bool false, .slice none 0 0, .int .i64 0, .bool false, .slice none 0 0, .int .i64 0], .int .i64 (1 : Int)], ?_, ?_⟩
   ·obtain ⟨-, c0, c1, c2, c3, c4, c5⟩ := d0.facts
    generalize laidI _ _ _ _ _ _ _ _ _ _ _ = WW at *
    simp [results, Tryz.results129, go_sem, c0, c1, c2, c3, c4, c5, d1]
   ·exact ⟨HKE.out.drew, _, rfl, ivR_zero _⟩
section
variable {P : Program} {ops : Array Oper} {Q : Exit → Act → World → Prop}
theorem seq_steps {m : Nat} {V : Nat → Value → World → Prop} {a0 : Act} {W : World}
 (hsz : m ≤ ops.size) (hap : apartSlots ops m = true) (hin : slotsIn ops m a0.tmps.size = true) (hbk : backOk .any ops = true)
 (hmono : ∀ i v w w', Kept w w' → V i v w → V i v w')
 (hstep : ∀ i o, i < m → ops[i]? = some o → ∀ a w, Finds .any ops m V a0 W i a w → StepOK P ops Q V i o a w)
 (hend : ∀ u w, Kept W w → (∀ i, i < m → V i (u i) w) → wpOps P ops Q (List.range' m (ops.size - m)) (puts ops (fun _ => true) u m a0) w) :
 ∀ (k i : Nat) (u : Nat → Value) (w : World), i + k = m → Kept W w → (∀ j, j < i → V j (u j) w) → wpOps P ops Q (List.range' i (ops.size - i)) (puts ops (fun j => decide (j < i)) u m a0) w := by
 intro k
 induction k with
 | zero =>
   intro i u w hi hk hu
   obtain rfl : i = m := by omega
   have e : puts ops (fun j => decide (j < i)) u i a0 = puts ops (fun _ => true) u i a0 := puts_congr i (fun j hj => ⟨by simp [hj], rfl⟩)
   rw [e]
   exact hend u w hk hu
 | succ k ih =>
   intro i u w hi hk hu
   have him : i < m := by omega
   have his : i < ops.size := by omega
   obtain ⟨r, hr⟩ : ∃ r, ops.size - i = r + 1 := ⟨ops.size - i - 1, by omega⟩
   have hr' : ops.size - (i + 1) = r := by omega
   rw [hr, List.range'_succ]
   have hoi := Array.getElem?_eq_getElem his
   have hback : ∀ x y, waitsFor .any ops x y = true → y < x := by
    intro x y hxy
    unfold waitsFor at hxy
    by_cases hx : x < ops.size
    ·have h1 := all_range hbk x hx
     rw [Array.getElem?_eq_getElem hx] at h1 hxy
     simp only [Option.map_some, Option.getD_some, Array.all_eq_true', Array.any_eq_true'] at h1 hxy
     obtain ⟨e, he, hb⟩ := hxy
     simp only [Bool.and_eq_true, beq_iff_eq] at hb
     have := h1 e he
     rw [hb.1, hb.2] at this
     simpa using this
    ·rw [Array.getElem?_eq_none (by omega)] at hxy; simp at hxy
   have hF : Finds .any ops m V a0 W i (puts ops (fun j => decide (j < i)) u m a0) w := by
    refine ⟨hk, puts_defers m, fun j t hw hs => ?_, fun t hu0 => ?_⟩
    ·have hji := hback i j hw
     have hjm : j < m := by omega
     have htn : t < a0.tmps.size := by
      have := all_range hin j hjm
      rw [hs] at this
      simpa using this
     rw [getD_puts_some (i := j) htn (by simp [hji]) hs m hjm (fun j' hj' hne => ?_)]
     ·exact hu j hji
     ·have h1 := all_range (all_range hap j hjm) j' hj'
      rw [hs] at h1
      simp only [Bool.or_eq_true, beq_iff_eq, bne_iff_ne] at h1
      rcases h1 with (h1 | h1) | h1
      ·exact absurd h1.symm hne
      ·cases h1
      ·exact fun h => h1 h.symm
    ·refine getD_puts_none m (fun j hj hjl hs => ?_)
     have h1 := all_range hu0 j hj
     rw [hs] at h1
     simp only [bne_self_eq_false, Bool.false_or, Bool.or_eq_true, beq_iff_eq] at h1
     simp only [decide_eq_true_eq] at hjl
     rcases h1 with h1 | h1
     ·omega
     ·have := hback j i h1; omega
   have hs := hstep i ops[i] him hoi _ w hF
   unfold StepOK at hs
   have hso : (ops[i]).dst = slotOf ops i := by unfold slotOf; rw [hoi]; rfl
   have hput : ∀ v, (puts ops (fun j => decide (j < i)) u m a0).put (ops[i]).dst v = puts ops (fun j => decide (j < i + 1)) (upd u i v) m a0 := by
    intro v
    rw [hso, puts_add (S := fun j => decide (j < i)) (by simp) m him (fun j hj hne => ?_)]
    ·refine puts_congr m (fun j _ => ⟨?_, rfl⟩)
     unfold upd
     by_cases hj : j = i
     ·rw [if_pos hj]; simp; omega
     ·rw [if_neg hj]
      by_cases h2 : j < i
      ·simp [h2]; omega
      ·simp [h2]; omega
    ·have h1 := all_range (all_range hap i him) j hj
     simp only [Bool.or_eq_true, beq_iff_eq, bne_iff_ne] at h1
     rcases h1 with (h1 | h1) | h1
     ·exact absurd h1.symm hne
     ·exact .inl h1
     ·exact .inr h1
   have hnext : ∀ v w', Kept w w' → V i v w' → wpOps P ops Q (List.range' (i + 1) r) ((puts ops (fun j => decide (j < i)) u m a0).put (ops[i]).dst v) w' := by
    intro v w' hk' hv
    rw [hput]
    have := ih (i + 1) (upd u i v) w' (by omega) (hk.trans hk') (fun j hj => by
     unfold upd
     by_cases hji : j = i
     ·subst hji; rw [if_pos rfl]; exact hv
     ·rw [if_neg hji]; exact hmono j _ _ _ hk' (hu j (by omega)))
    rw [hr'] at this
    exact this
   unfold wpOps
   simp only [hoi]
   by_cases hw : Region.wanted ops[i] (yielded ops (puts ops (fun j => decide (j < i)) u m a0).tmps) = true
   ·rw [if_pos hw] at hs ⊢
    refine .inl (Oper.wp_mono (fun a' w' h => ?_) hs)
    obtain ⟨v, rfl, hk', hv⟩ := h
    exact hnext v w' hk' hv
   ·rw [if_neg hw] at hs ⊢
    exact hnext undef w (Below.refl _ _) hs
theorem seq_start {id m : Nat} {V : Nat → Value → World → Prop} {a0 : Act} {W : World}
 (hsz : m ≤ ops.size) (hap : apartSlots ops m = true) (hin : slotsIn ops m a0.tmps.size = true) (hbk : backOk .any ops = true)
 (hmono : ∀ i v w w', Kept w w' → V i v w → V i v w')
 (hstep : ∀ i o, i < m → ops[i]? = some o → ∀ a w, Finds .any ops m V a0 W i a w → StepOK P ops Q V i o a w)
 (hend : ∀ u w, Kept W w → (∀ i, i < m → V i (u i) w) → wpOps P ops Q (List.range' m (ops.size - m)) (puts ops (fun _ => true) u m a0) w) :
 (Code.region id ops false).wp P Q a0 W := by
 refine wp_region ?_
 rw [List.range_eq_range']
 have h := seq_steps hsz hap hin hbk hmono hstep hend m 0 (fun _ => undef) W (by omega) (Below.refl _ _) (fun j hj => absurd hj (Nat.not_lt_zero _))
 have e : ∀ n, puts ops (fun j => decide (j < 0)) (fun _ => undef) n a0 = a0 := by
  intro n
  induction n with
  | zero => rfl
  | succ n ih => unfold puts; rw [if_neg (by simp), ih]
 rw [e m, Nat.sub_zero] at h
 exact h
theorem region_seq {id m : Nat} {V : Nat → Value → World → Prop} {a0 : Act} {W : World}
 (hsz : m = ops.size) (hap : apartSlots ops m = true) (hin : slotsIn ops m a0.tmps.size = true) (hbk : backOk .any ops = true)
 (hmono : ∀ i v w w', Kept w w' → V i v w → V i v w')
 (hstep : ∀ i o, i < m → ops[i]? = some o → ∀ a w, Finds .any ops m V a0 W i a w → StepOK P ops Q V i o a w)
 (hend : ∀ u w, Kept W w → (∀ i, i < m → V i (u i) w) → Q .normal (puts ops (fun _ => true) u m a0) w) :
 (Code.region id ops false).wp P Q a0 W := by
 refine seq_start (by omega) hap hin hbk hmono hstep (fun u w k hu => ?_)
 have : ops.size - m = 0 := by omega
 rw [this]
 exact hend u w k hu
theorem wpOps_one {i : Nat} {o : Oper} {a : Act} {w : World} {rest : List Nat} (ho : ops[i]? = some o) (hg : o.guard = none) (h : o.wp P a w (fun a w => wpOps P ops Q rest a w) Q) : wpOps P ops Q (i :: rest) a w := by
 unfold wpOps
 simp only [ho]
 have : Region.wanted o (yielded ops a.tmps) = true := by simp [Region.wanted, hg]
 rw [if_pos this]
 exact .inl h
theorem region_seq1 {id m : Nat} {V : Nat → Value → World → Prop} {a0 : Act} {W : World} {o : Oper}
 (hsz : m + 1 = ops.size) (ho : ops[m]? = some o) (hg : o.guard = none) (hap : apartSlots ops m = true) (hin : slotsIn ops m a0.tmps.size = true) (hbk : backOk .any ops = true)
 (hmono : ∀ i v w w', Kept w w' → V i v w → V i v w')
 (hstep : ∀ i o, i < m → ops[i]? = some o → ∀ a w, Finds .any ops m V a0 W i a w → StepOK P ops Q V i o a w)
 (hend : ∀ u w, Kept W w → (∀ i, i < m → V i (u i) w) → o.wp P (puts ops (fun _ => true) u m a0) w (Q .normal) Q) :
 (Code.region id ops false).wp P Q a0 W := by
 refine seq_start (by omega) hap hin hbk hmono hstep (fun u w k hu => ?_)
 have : ops.size - m = 0 + 1 := by omega
 rw [this, List.range'_succ]
 exact wpOps_one ho hg (hend u w k hu)
theorem region_seq2 {id m : Nat} {V : Nat → Value → World → Prop} {a0 : Act} {W : World} {o o' : Oper}
 (hsz : m + 2 = ops.size) (ho : ops[m]? = some o) (hg : o.guard = none) (ho' : ops[m + 1]? = some o') (hg' : o'.guard = none) (hap : apartSlots ops m = true) (hin : slotsIn ops m a0.tmps.size = true) (hbk : backOk .any ops = true)
 (hmono : ∀ i v w w', Kept w w' → V i v w → V i v w')
 (hstep : ∀ i o, i < m → ops[i]? = some o → ∀ a w, Finds .any ops m V a0 W i a w → StepOK P ops Q V i o a w)
 (hend : ∀ u w, Kept W w → (∀ i, i < m → V i (u i) w) → o.wp P (puts ops (fun _ => true) u m a0) w (fun a w => o'.wp P a w (Q .normal) Q) Q) :
 (Code.region id ops false).wp P Q a0 W := by
 refine seq_start (by omega) hap hin hbk hmono hstep (fun u w k hu => ?_)
 have : ops.size - m = 1 + 1 := by omega
 rw [this, List.range'_succ]
 refine wpOps_one ho hg (Oper.wp_mono (fun a w h => ?_) (hend u w k hu))
 rw [List.range'_succ]
 exact wpOps_one ho' hg' h
end
/-- Errors one behind the other; what comes out if there is none. -/
def chainL (v : Iv) : List Int → Outc Iv
 | [] => ⟨v, 0⟩
 | k :: l => if k ≠ 0 then ⟨iz, k⟩ else chainL v l
def rawO (o : Outc Iv) : Outc RawI := ⟨o.v.raw, o.k⟩
theorem iz_raw : iz.raw = rzI := by show RawI.mk dz.raw dz.raw = ⟨rz, rz⟩; rw [dz_raw]
theorem ret_dydy {fn : Func} {R : Ending → World → Prop} {a : Act} {w : World} {b b' t t' : Nat} {x y z x' y' z' : Value} (h : Blk w b x y z) (h' : Blk w b' x' y' z')
 (hres : fn.results = #[.cell t 30, .cell t' 30]) (ht : a.tmps.getD t undef = .pointer (some ⟨b, 0, none⟩)) (ht' : a.tmps.getD t' undef = .pointer (some ⟨b', 0, none⟩)) (hd : a.defers = [])
 (hR : R (.returned (.tuple #[.agg #[x, y, z], .agg #[x', y', z']])) w) : bodyPost Tryz.prog fn R .ret a w := by
 obtain ⟨_, c0, c1, c2, _⟩ := h.facts
 obtain ⟨_, d0, d1, d2, _⟩ := h'.facts
 refine bodyPost_ret (v := .tuple #[.agg #[x, y, z], .agg #[x', y', z']]) ?_ hd hR
 have ht2 : a.tmps[t]?.getD undef = .pointer (some ⟨b, 0, none⟩) := by simpa using ht
 have ht3 : a.tmps[t']?.getD undef = .pointer (some ⟨b', 0, none⟩) := by simpa using ht'
 simp [results, hres, ht2, ht3, go_sem, c0, c1, c2, d0, d1, d2]
theorem DyR.dyW {w : World} {v : Value} {r : Raw} {b : Nat} {x y z : Value} (h : DyR w v r) (h0 : Blk w b x y z) (hx : NoLimb x) (hy : NoLimb y) (hz : NoLimb z) (x' y' z' : Value) : DyR (Go.Proofs.YtgododcbmkpbjaaGreatDoor.dyW w b x' y' z') v r := by
 obtain ⟨s, rfl, hs, h1, h2⟩ := h
 exact ⟨s, rfl, hs.dyW h0 hx hy hz, h1, h2⟩
/-- Two Dyads laid into two blocks: the end of a calculation's closure. -/
theorem two_laid {w w1 : World} {b3 b4 : Nat} {r1 r2 : Raw} {A A' : Option Addr} {l c l' c' : Nat} {T : TypeId} {res : Outc RawI} (hk : Kept w w1) (h3 : w.heap.size ≤ b3) (h4 : w.heap.size ≤ b4) (hne : ¬ b3 = b4)
 (R3 : Blk w1 b3 (.bool false) (.slice none 0 0) (.int .i64 0)) (R4 : Blk w1 b4 (.bool false) (.slice none 0 0) (.int .i64 0))
 (d1 : DyR w1 (.agg #[.bool r1.neg, .slice A l c, .int .i64 r1.e]) r1) (d2 : DyR w1 (.agg #[.bool r2.neg, .slice A' l' c', .int .i64 r2.e]) r2) (hr : res = ⟨⟨r1, r2⟩, 0⟩) :
 Blk (dyW (dyW w1 b3 (.bool r1.neg) (.slice A l c) (.int .i64 r1.e)) b4 (.bool r2.neg) (.slice A' l' c') (.int .i64 r2.e)) b3 (.bool r1.neg) (.slice A l c) (.int .i64 r1.e) ∧
 Blk (dyW (dyW w1 b3 (.bool r1.neg) (.slice A l c) (.int .i64 r1.e)) b4 (.bool r2.neg) (.slice A' l' c') (.int .i64 r2.e)) b4 (.bool r2.neg) (.slice A' l' c') (.int .i64 r2.e) ∧
 Goes2 T res w (.returned (.tuple #[.agg #[.bool r1.neg, .slice A l c, .int .i64 r1.e], .agg #[.bool r2.neg, .slice A' l' c', .int .i64 r2.e]])) (dyW (dyW w1 b3 (.bool r1.neg) (.slice A l c) (.int .i64 r1.e)) b4 (.bool r2.neg) (.slice A' l' c') (.int .i64 r2.e)) := by
 have R4' := R4.laid_other (b' := b3) (fun h => hne h.symm) (.bool r1.neg) (.slice A l c) (.int .i64 r1.e)
 refine ⟨(R3.laid _ _ _).laid_other hne _ _ _, R4'.laid _ _ _, dyW_kept (dyW_kept hk h3) h4, .inl ?_⟩
 subst hr
 exact ⟨rfl, _, _, rfl, (d1.dyW R3 (noLimb_bool _) (noLimb_slice _ _ _) (noLimb_i64 _) _ _ _).dyW R4' (noLimb_bool _) (noLimb_slice _ _ _) (noLimb_i64 _) _ _ _,
  (d2.dyW R3 (noLimb_bool _) (noLimb_slice _ _ _) (noLimb_i64 _) _ _ _).dyW R4' (noLimb_bool _) (noLimb_slice _ _ _) (noLimb_i64 _) _ _ _⟩
theorem dyW_swap (w : World) {b b' : Nat} (hne : ¬ b = b') (x y z x' y' z' : Value) : dyW (dyW w b x y z) b' x' y' z' = dyW (dyW w b' x' y' z') b x y z := by
 have hs : ∀ (w : World) (i j : Nat) (u v : Value), (w.setCell ⟨b, i, none⟩ u).setCell ⟨b', j, none⟩ v = (w.setCell ⟨b', j, none⟩ v).setCell ⟨b, i, none⟩ u := by
  intro w i j u v
  simp only [World.setCell]
  congr 1
  apply Array.ext_getElem?
  intro k
  simp only [Array.getElem?_modify]
  by_cases h1 : b = k
  ·have h2 : ¬ b' = k := fun h => hne (h1.trans h.symm)
   simp [h1, h2]
  ·by_cases h2 : b' = k
   ·simp [h1, h2]
   ·simp [h1, h2]
 unfold dyW
 simp only [hs]
/-- What errors make of a result, one by one. -/
def StepsR (res : Outc RawI) (v : RawI) : List Int → Prop
 | [] => res = ⟨v, 0⟩
 | k :: l => (k ≠ 0 → res = ⟨rzI, k⟩) ∧ (k = 0 → StepsR res v l)
theorem steps_chain (v : Iv) : ∀ l : List Int, StepsR (rawO (chainL v l)) v.raw l
 | [] => rfl
 | k :: l => by
   refine ⟨fun h => ?_, fun h => ?_⟩
   ·unfold chainL; rw [if_pos h]; unfold rawO; rw [iz_raw]
   ·unfold chainL; rw [if_neg (fun hh => hh h)]; exact steps_chain v l
/-- A block that holds a clean interval. -/
def BlkIv (w : World) (b : Nat) (a : Iv) : Prop := ∃ A l c A' l' c', BlkI w b (.bool a.lo.neg) (.slice A l c) (.int .i64 a.lo.e) (.bool a.hi.neg) (.slice A' l' c') (.int .i64 a.hi.e) ∧
 DyR w (.agg #[.bool a.lo.neg, .slice A l c, .int .i64 a.lo.e]) a.lo.raw ∧ DyR w (.agg #[.bool a.hi.neg, .slice A' l' c', .int .i64 a.hi.e]) a.hi.raw
theorem BlkIv.kept {w w' : World} {b : Nat} {a : Iv} (h : BlkIv w b a) (k : Kept w w') : BlkIv w' b a := by
 obtain ⟨A, l, c, A', l', c', h1, h2, h3⟩ := h
 exact ⟨A, l, c, A', l', c', h1.kept k, h2.kept k, h3.kept k⟩
theorem box2r (w : World) : ∃ W, W = (w.alloc (.cells #[.bool false, .slice none 0 0, .int .i64 0] 30)).alloc (.cells #[.bool false, .slice none 0 0, .int .i64 0] 30) ∧ Kept w W ∧
 Blk W w.heap.size (.bool false) (.slice none 0 0) (.int .i64 0) ∧ Blk W (w.heap.size + 1) (.bool false) (.slice none 0 0) (.int .i64 0) :=
 ⟨_, rfl, (kept_alloc _ _).trans (kept_alloc _ _), blk_alloc (blk_new0 w) _, blk_new1 _ _ _ _ _⟩
end Go.Proofs.YtgododcbmkpbjaaGreatDoor
namespace Go.Proofs.YtgododcbmkpbjaaGreatDoor
open Go.RowKit
/-- What a Dyad's box holds. -/
def BoxD (w : World) (b : Nat) (r : Raw) : Prop := ∃ A l c, Blk w b (.bool r.neg) (.slice A l c) (.int .i64 r.e) ∧ DyR w (.agg #[.bool r.neg, .slice A l c, .int .i64 r.e]) r
theorem BoxD.kept {w w' : World} {b : Nat} {r : Raw} (h : BoxD w b r) (k : Kept w w') : BoxD w' b r := by
 obtain ⟨A, l, c, h1, h2⟩ := h
 exact ⟨A, l, c, h1.kept k, h2.kept k⟩
theorem BoxD.other {w : World} {b b' : Nat} {r : Raw} {x y z : Value} (h : BoxD w b r) (hne : ¬ b = b') (h0 : Blk w b' x y z) (hx : NoLimb x) (hy : NoLimb y) (hz : NoLimb z) (x' y' z' : Value) : BoxD (dyW w b' x' y' z') b r := by
 obtain ⟨A, l, c, h1, h2⟩ := h
 exact ⟨A, l, c, h1.laid_other hne _ _ _, h2.dyW h0 hx hy hz _ _ _⟩
theorem BoxD.made {w : World} {b : Nat} {r : Raw} {A : Option Addr} {l c : Nat} {x y z : Value} (h0 : Blk w b x y z) (hx : NoLimb x) (hy : NoLimb y) (hz : NoLimb z) (h : DyR w (.agg #[.bool r.neg, .slice A l c, .int .i64 r.e]) r) :
 BoxD (dyW w b (.bool r.neg) (.slice A l c) (.int .i64 r.e)) b r := ⟨A, l, c, h0.laid _ _ _, h.dyW h0 hx hy hz _ _ _⟩
end Go.Proofs.YtgododcbmkpbjaaGreatDoor
