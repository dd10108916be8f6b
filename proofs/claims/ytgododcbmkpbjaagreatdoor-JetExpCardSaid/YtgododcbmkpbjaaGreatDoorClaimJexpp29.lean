/- Contracts of package arith, third part: face and its deferred closure. -/
import Derived.Test.YtgododcbmkpbjaaGreatDoorClaimJexpp24
set_option maxRecDepth 100000
set_option maxHeartbeats 16000000
namespace Go.Proofs.YtgododcbmkpbjaaGreatDoor
open Go.RowKit
theorem sure_c {w : World} {v : Value} {d : Dy} {k : Int} (hv : DyR w v d.raw) :
 Calls Tryz.prog 133 #[v, .int .i64 k] w (Goes 162 (Outc.raw ⟨d, k⟩) w) := by
 obtain ⟨A, l, c, rfl, -, la, xa, xb⟩ := hv.shape
 obtain ⟨W, hW, kW, B0, BR⟩ := boxes1r w (.bool d.neg) (.slice A l c) (.int .i64 d.e)
 have HW := Lib.hid hW
 have K := Lib.hid kW
 have HB := Lib.hid B0
 have HR := Lib.hid BR
 have LA := Lib.hid la
 have BX := Lib.hid (And.intro xa xb)
 clear hW kW B0 BR la xa xb hv
 simp only [Dy.raw] at *
 generalize hgn : d.neg = n1 at *
 generalize hge : d.e = e1 at *
 have GN := Lib.hid hgn
 have GE := Lib.hid hge
 clear hgn hge
 by_cases hk : k = 0
 ·subst hk
  go_enter Tryz.func133, Tryz.ntmps133
  go_wp2_with (go_at_call 131; rw [← HW.out]; refine (must_trueA 0 _).mono ?_; rintro e w1 ⟨rfl, q⟩; replace K := Lib.hid (K.out.trans q); have hb := HB.out.kept q; have hr := HR.out.kept q; obtain ⟨-, a0, a1, a2, -⟩ := hb.facts; obtain ⟨_, c0, c1, c2, f0, f1, f2⟩ := hr.facts; have HR2 := Lib.hid hr; clear hb hr q)
  exact ret_dy (HR2.out.laid _ _ _) rfl rfl rfl ⟨dyW_kept K.out (by omega), .inl ⟨rfl, _, rfl, by
   have := ((LA.out.kept K.out).dyW (x' := .bool n1) (y' := .slice A l c) (z' := .int .i64 e1) HR2.out (noLimb_bool _) (noLimb_slice _ _ _) (noLimb_i64 _)).dyR (r := ⟨n1, limbs d.m, e1⟩) BX.out.1 BX.out.2
   show DyR _ _ ⟨d.neg, limbs d.m, d.e⟩
   rw [GN.out, GE.out]
   exact this⟩⟩
 ·have hkb : (k == 0) = false := by rw [beq_eq_false_iff_ne]; exact hk
  have HKK := Lib.hid hk
  clear hk
  go_enter Tryz.func133, Tryz.ntmps133
  go_wp2_with (go_at_call 131; rw [← HW.out]; refine (must_cA _ _ _).mono ?_; rintro e w3 ⟨he, rfl⟩; obtain rfl : e = .panicked (failV 162 _) := he)
  exact ⟨rfl, K.out, .inr ⟨HKK.out, rfl⟩⟩
theorem dyR_lim {w : World} {x s z : Value} {r : Raw} (h : DyR w (.agg #[x, s, z]) r) : Lim w s r.m ∧ -9223372036854775808 ≤ r.e ∧ r.e ≤ 9223372036854775807 := by
 obtain ⟨s', he, hs, h1, h2⟩ := h
 injection he with he; injection he with he
 simp only [List.cons.injEq, and_true] at he
 rw [he.2.1]
 exact ⟨hs, h1, h2⟩
theorem leastD_snoc (l : List Dy) (x : Dy) : ∀ d, leastD d (l ++ [x]) = if cmpQ x.q (leastD d l).q < 0 then x else leastD d l := by
 induction l with
 | nil => intro d; rfl
 | cons y l ih => intro d; simp only [List.cons_append, leastD]; exact ih _
theorem greatestD_snoc (l : List Dy) (x : Dy) : ∀ d, greatestD d (l ++ [x]) = if 0 < cmpQ x.q (greatestD d l).q then x else greatestD d l := by
 induction l with
 | nil => intro d; rfl
 | cons y l ih => intro d; simp only [List.cons_append, greatestD]; exact ih _
theorem least_c {w : World} {v : Value} {d0 : Dy} {l : List Dy} (hv : DyS w v (d0 :: l)) (hl : okL (d0 :: l)) (hn : (d0 :: l).length ≤ 1000) :
 Calls Tryz.prog 135 #[v] w (RetD (leastD d0 (d0 :: l)).raw w) := by
 obtain ⟨A, c, rfl, hc, hA⟩ := hv
 obtain ⟨b, off, rfl, hd⟩ := hA (by simp)
 have hat := hd 0 d0 rfl
 rw [Nat.zero_mul, Nat.add_zero] at hat
 obtain ⟨s, h0, h1, h2, hR⟩ := hat
 have hok0 := hl d0 (List.mem_cons_self ..)
 obtain ⟨L, hL⟩ : ∃ L, L = d0 :: l := ⟨_, rfl⟩
 rw [← hL] at hd hl hn hc ⊢
 obtain ⟨n, hn'⟩ : ∃ n, n = L.length := ⟨_, rfl⟩
 rw [← hn'] at hn hc ⊢
 have hn0 : 0 < n := by rw [hn', hL]; simp
 have lb := lt_of_cell h0
 simp only at lb
 obtain ⟨A1, l1, c1, es, -, -, -, -⟩ := hR.shape
 injection es with es; injection es with es
 simp only [List.cons.injEq, and_true] at es
 obtain rfl := es.2.1
 clear es hA
 have HD := Lib.hid hd
 have HL := Lib.hid hl
 have HN := Lib.hid hn'
 have HR := Lib.hid hR
 have HO := Lib.hid hok0
 have HLL := Lib.hid hL
 clear hd hl hn' hR hok0 hL
 obtain ⟨n0, hg1⟩ : ∃ x, x = d0.neg := ⟨_, rfl⟩
 obtain ⟨e0, hg2⟩ : ∃ x, x = d0.e := ⟨_, rfl⟩
 rw [← hg1] at h0
 rw [← hg2] at h2
 have G1 := Lib.hid hg1
 have G2 := Lib.hid hg2
 clear hg1 hg2
 go_enter Tryz.func135, Tryz.ntmps135
 go_wp2_with fail
 go_loopw [11] (fun t wr => ∃ (k : Nat) (cur : Dy) (Ac : Option Addr) (lc cc : Nat), k ≤ n ∧ t = .int .i64 k ∧ cur = leastD d0 (L.take k) ∧ cur.Ok ∧ DyR w (.agg #[.bool cur.neg, .slice Ac lc cc, .int .i64 cur.e]) cur.raw ∧
  Blk wr (w.heap.size + 1) (.bool cur.neg) (.slice Ac lc cc) (.int .i64 cur.e) ∧ Blk wr w.heap.size (.bool false) (.slice none 0 0) (.int .i64 0) ∧ Kept w wr) (fun t _ => (n - intOf t).toNat)
 case atStart =>
  refine ⟨0, d0, A1, l1, c1, Nat.zero_le _, rfl, rfl, HO.out, HR.out, ?_, blk_alloc (blk_new0 w) _, (kept_alloc _ _).trans (kept_alloc _ _)⟩
  rw [← G1.out, ← G2.out]
  exact blk_new1 _ _ _ _ _
 case round =>
  obtain ⟨k, cur, Ac, lc, cc, hk, rfl, hcur, hok, hRc, hB1, hB0, hK⟩ := hrel
  have K := Lib.hid hK
  have HB1 := Lib.hid hB1
  have HB0 := Lib.hid hB0
  have HC := Lib.hid hcur
  have HRC := Lib.hid hRc
  have HOK := Lib.hid hok
  clear hK hcur hRc hok
  by_cases hlt : k < n
  ·obtain ⟨d, hdk⟩ : ∃ d, L[k]? = some d := ⟨_, List.getElem?_eq_getElem (by have := HN.out; omega)⟩
   obtain ⟨s', p0, p1, p2, hRd⟩ := (HD.out k d hdk)
   obtain ⟨A3, l3, c3, es, -, -, -, -⟩ := hRd.shape
   injection es with es; injection es with es
   simp only [List.cons.injEq, and_true] at es
   obtain rfl := es.2.1
   clear es
   have hokd := HL.out d (List.mem_of_getElem? hdk)
   have hnext : leastD d0 (L.take (k + 1)) = if cmpQ d.q cur.q < 0 then d else cur := by
    rw [List.take_succ_eq_append_getElem (by have := HN.out; omega)]
    have : L[k]'(by have := HN.out; omega) = d := by
     rw [List.getElem?_eq_getElem (by have := HN.out; omega)] at hdk
     exact Option.some.inj hdk
    rw [this, leastD_snoc, ← HC.out]
   have hcmp := fun w1 (q : Kept w w1) => dcmp_c (hRd.kept q) (HRC.out.kept q) hokd HOK.out
   have q0 := (K.out.cell (p := ⟨b, off + k * 3, none⟩) lb).trans p0
   have q1 := (K.out.cell (p := ⟨b, off + k * 3 + 1, none⟩) lb).trans p1
   have q2 := (K.out.cell (p := ⟨b, off + k * 3 + 2, none⟩) lb).trans p2
   have HCM := Lib.hid hcmp
   have HRD := Lib.hid hRd
   have HOD := Lib.hid hokd
   have HNX := Lib.hid hnext
   clear hnext hcmp hRd hokd hdk p0 p1 p2 h0 h1 h2
   obtain ⟨lb1, r0, r1, r2, g0, g1, g2⟩ := hB1.facts
   clear hB1 hB0
   generalize hcc : cmpQ d.q cur.q = cmp at *
   clear hcc
   obtain ⟨nd, hnd⟩ : ∃ x, x = d.neg := ⟨_, rfl⟩
   obtain ⟨ed, hed⟩ : ∃ x, x = d.e := ⟨_, rfl⟩
   obtain ⟨nc, hnc⟩ : ∃ x, x = cur.neg := ⟨_, rfl⟩
   obtain ⟨ec, hec⟩ : ∃ x, x = cur.e := ⟨_, rfl⟩
   rw [← hnd] at q0 HCM HRD
   rw [← hed] at q2 HCM HRD
   rw [← hnc] at r0 HCM HRC HB1
   rw [← hec] at r2 HCM HRC HB1
   have X1 := Lib.hid hnd
   have X2 := Lib.hid hed
   have X3 := Lib.hid hnc
   have X4 := Lib.hid hec
   clear hnd hed hnc hec
   by_cases hc : cmp < 0
   ·have hd' : decide (cmp < 0) = true := by simp [hc]
    have hnx := HNX.out
    rw [if_pos hc] at hnx
    clear hc HNX
    have HNX := Lib.hid hnx
    clear hnx
    go_wp2_with fail
    refine (HCM.out _ (K.out.trans (kept_alloc _ _))).mono ?_
    rintro e w2 ⟨rfl, q⟩
    have hx := (blk_new wr (.bool nd) (.slice A3 l3 c3) (.int .i64 ed)).kept q
    have hb1 := HB1.out.kept ((kept_alloc _ _).trans q)
    have hb0 := HB0.out.kept ((kept_alloc _ _).trans q)
    replace K := Lib.hid (K.out.trans ((kept_alloc _ _).trans q))
    clear q lb1 r0 r1 r2 g0 g1 g2
    obtain ⟨_, t0, t1, t2, -⟩ := hx.facts
    obtain ⟨lb1, r0, r1, r2, g0, g1, g2⟩ := hb1.facts
    have HX1 := Lib.hid hb1
    have HX0 := Lib.hid hb0
    clear hx hb1 hb0
    simp only []
    go_wp2_with fail
    go_roundw
    case rel =>
     refine ⟨k + 1, d, A3, l3, c3, by omega, by go_num, HNX.out.symm, HOD.out, ?_, ?_, HX0.out.laid_other (by omega) _ _ _, dyW_kept K.out (by omega)⟩
     ·rw [← X1.out, ← X2.out]; exact HRD.out
     ·rw [← X1.out, ← X2.out]; exact HX1.out.laid _ _ _
    case measure => simp [intOf]; omega
   ·have hd' : decide (cmp < 0) = false := by simp [hc]
    have hnx := HNX.out
    rw [if_neg hc] at hnx
    clear hc HNX
    have HNX := Lib.hid hnx
    clear hnx
    go_wp2_with fail
    refine (HCM.out _ (K.out.trans (kept_alloc _ _))).mono ?_
    rintro e w2 ⟨rfl, q⟩
    have hx := (blk_new wr (.bool nd) (.slice A3 l3 c3) (.int .i64 ed)).kept q
    have hb1 := HB1.out.kept ((kept_alloc _ _).trans q)
    have hb0 := HB0.out.kept ((kept_alloc _ _).trans q)
    replace K := Lib.hid (K.out.trans ((kept_alloc _ _).trans q))
    clear q lb1 r0 r1 r2 g0 g1 g2
    obtain ⟨_, t0, t1, t2, -⟩ := hx.facts
    obtain ⟨lb1, r0, r1, r2, g0, g1, g2⟩ := hb1.facts
    have HX1 := Lib.hid hb1
    have HX0 := Lib.hid hb0
    clear hx hb1 hb0
    simp only []
    go_wp2_with fail
    go_roundw
    case rel =>
     refine ⟨k + 1, cur, Ac, lc, cc, by omega, by go_num, HNX.out.symm, HOK.out, ?_, ?_, HX0.out, K.out⟩
     ·rw [← X3.out, ← X4.out]; exact HRC.out
     ·rw [← X3.out, ← X4.out]; exact HX1.out
    case measure => simp [intOf]; omega
  ·obtain rfl : k = n := by omega
   have hfin : leastD d0 L = cur := by rw [HC.out, List.take_of_length_le (by have := HN.out; omega)]
   obtain ⟨_, r0, r1, r2, -⟩ := hB1.facts
   obtain ⟨_, c0, c1', c2, f0, f1, f2⟩ := hB0.facts
   have HF := Lib.hid hfin
   obtain ⟨lim, xa, xb⟩ := dyR_lim HRC.out
   have LIM := Lib.hid lim
   have BX := Lib.hid (And.intro xa xb)
   clear hfin hB1 hB0 lim xa xb
   go_wp2_with fail
   refine ret_dy (HB0.out.laid _ _ _) rfl rfl rfl ⟨dyW_kept K.out (Nat.le_refl _), _, rfl, ?_⟩
   rw [HF.out]
   exact ((LIM.out.kept K.out).dyW HB0.out (noLimb_bool _) (noLimb_slice _ _ _) (noLimb_i64 _)).dyR (r := cur.raw) BX.out.1 BX.out.2
theorem greatest_c {w : World} {v : Value} {d0 : Dy} {l : List Dy} (hv : DyS w v (d0 :: l)) (hl : okL (d0 :: l)) (hn : (d0 :: l).length ≤ 1000) :
 Calls Tryz.prog 136 #[v] w (RetD (greatestD d0 (d0 :: l)).raw w) := by
 obtain ⟨A, c, rfl, hc, hA⟩ := hv
 obtain ⟨b, off, rfl, hd⟩ := hA (by simp)
 have hat := hd 0 d0 rfl
 rw [Nat.zero_mul, Nat.add_zero] at hat
 obtain ⟨s, h0, h1, h2, hR⟩ := hat
 have hok0 := hl d0 (List.mem_cons_self ..)
 obtain ⟨L, hL⟩ : ∃ L, L = d0 :: l := ⟨_, rfl⟩
 rw [← hL] at hd hl hn hc ⊢
 obtain ⟨n, hn'⟩ : ∃ n, n = L.length := ⟨_, rfl⟩
 rw [← hn'] at hn hc ⊢
 have hn0 : 0 < n := by rw [hn', hL]; simp
 have lb := lt_of_cell h0
 simp only at lb
 obtain ⟨A1, l1, c1, es, -, -, -, -⟩ := hR.shape
 injection es with es; injection es with es
 simp only [List.cons.injEq, and_true] at es
 obtain rfl := es.2.1
 clear es hA
 have HD := Lib.hid hd
 have HL := Lib.hid hl
 have HN := Lib.hid hn'
 have HR := Lib.hid hR
 have HO := Lib.hid hok0
 have HLL := Lib.hid hL
 clear hd hl hn' hR hok0 hL
 obtain ⟨n0, hg1⟩ : ∃ x, x = d0.neg := ⟨_, rfl⟩
 obtain ⟨e0, hg2⟩ : ∃ x, x = d0.e := ⟨_, rfl⟩
 rw [← hg1] at h0
 rw [← hg2] at h2
 have G1 := Lib.hid hg1
 have G2 := Lib.hid hg2
 clear hg1 hg2
 go_enter Tryz.func136, Tryz.ntmps136
 go_wp2_with fail
 go_loopw [11] (fun t wr => ∃ (k : Nat) (cur : Dy) (Ac : Option Addr) (lc cc : Nat), k ≤ n ∧ t = .int .i64 k ∧ cur = greatestD d0 (L.take k) ∧ cur.Ok ∧ DyR w (.agg #[.bool cur.neg, .slice Ac lc cc, .int .i64 cur.e]) cur.raw ∧
  Blk wr (w.heap.size + 1) (.bool cur.neg) (.slice Ac lc cc) (.int .i64 cur.e) ∧ Blk wr w.heap.size (.bool false) (.slice none 0 0) (.int .i64 0) ∧ Kept w wr) (fun t _ => (n - intOf t).toNat)
 case atStart =>
  refine ⟨0, d0, A1, l1, c1, Nat.zero_le _, rfl, rfl, HO.out, HR.out, ?_, blk_alloc (blk_new0 w) _, (kept_alloc _ _).trans (kept_alloc _ _)⟩
  rw [← G1.out, ← G2.out]
  exact blk_new1 _ _ _ _ _
 case round =>
  obtain ⟨k, cur, Ac, lc, cc, hk, rfl, hcur, hok, hRc, hB1, hB0, hK⟩ := hrel
  have K := Lib.hid hK
  have HB1 := Lib.hid hB1
  have HB0 := Lib.hid hB0
  have HC := Lib.hid hcur
  have HRC := Lib.hid hRc
  have HOK := Lib.hid hok
  clear hK hcur hRc hok
  by_cases hlt : k < n
  ·obtain ⟨d, hdk⟩ : ∃ d, L[k]? = some d := ⟨_, List.getElem?_eq_getElem (by have := HN.out; omega)⟩
   obtain ⟨s', p0, p1, p2, hRd⟩ := (HD.out k d hdk)
   obtain ⟨A3, l3, c3, es, -, -, -, -⟩ := hRd.shape
   injection es with es; injection es with es
   simp only [List.cons.injEq, and_true] at es
   obtain rfl := es.2.1
   clear es
   have hokd := HL.out d (List.mem_of_getElem? hdk)
   have hnext : greatestD d0 (L.take (k + 1)) = if 0 < cmpQ d.q cur.q then d else cur := by
    rw [List.take_succ_eq_append_getElem (by have := HN.out; omega)]
    have : L[k]'(by have := HN.out; omega) = d := by
     rw [List.getElem?_eq_getElem (by have := HN.out; omega)] at hdk
     exact Option.some.inj hdk
    rw [this, greatestD_snoc, ← HC.out]
   have hcmp := fun w1 (q : Kept w w1) => dcmp_c (hRd.kept q) (HRC.out.kept q) hokd HOK.out
   have q0 := (K.out.cell (p := ⟨b, off + k * 3, none⟩) lb).trans p0
   have q1 := (K.out.cell (p := ⟨b, off + k * 3 + 1, none⟩) lb).trans p1
   have q2 := (K.out.cell (p := ⟨b, off + k * 3 + 2, none⟩) lb).trans p2
   have HCM := Lib.hid hcmp
   have HRD := Lib.hid hRd
   have HOD := Lib.hid hokd
   have HNX := Lib.hid hnext
   clear hnext hcmp hRd hokd hdk p0 p1 p2 h0 h1 h2
   obtain ⟨lb1, r0, r1, r2, g0, g1, g2⟩ := hB1.facts
   clear hB1 hB0
   generalize hcc : cmpQ d.q cur.q = cmp at *
   clear hcc
   obtain ⟨nd, hnd⟩ : ∃ x, x = d.neg := ⟨_, rfl⟩
   obtain ⟨ed, hed⟩ : ∃ x, x = d.e := ⟨_, rfl⟩
   obtain ⟨nc, hnc⟩ : ∃ x, x = cur.neg := ⟨_, rfl⟩
   obtain ⟨ec, hec⟩ : ∃ x, x = cur.e := ⟨_, rfl⟩
   rw [← hnd] at q0 HCM HRD
   rw [← hed] at q2 HCM HRD
   rw [← hnc] at r0 HCM HRC HB1
   rw [← hec] at r2 HCM HRC HB1
   have X1 := Lib.hid hnd
   have X2 := Lib.hid hed
   have X3 := Lib.hid hnc
   have X4 := Lib.hid hec
   clear hnd hed hnc hec
   by_cases hc : 0 < cmp
   ·have hd' : decide (0 < cmp) = true := by simp [hc]
    have hnx := HNX.out
    rw [if_pos hc] at hnx
    clear hc HNX
    have HNX := Lib.hid hnx
    clear hnx
    go_wp2_with fail
    refine (HCM.out _ (K.out.trans (kept_alloc _ _))).mono ?_
    rintro e w2 ⟨rfl, q⟩
    have hx := (blk_new wr (.bool nd) (.slice A3 l3 c3) (.int .i64 ed)).kept q
    have hb1 := HB1.out.kept ((kept_alloc _ _).trans q)
    have hb0 := HB0.out.kept ((kept_alloc _ _).trans q)
    replace K := Lib.hid (K.out.trans ((kept_alloc _ _).trans q))
    clear q lb1 r0 r1 r2 g0 g1 g2
    obtain ⟨_, t0, t1, t2, -⟩ := hx.facts
    obtain ⟨lb1, r0, r1, r2, g0, g1, g2⟩ := hb1.facts
    have HX1 := Lib.hid hb1
    have HX0 := Lib.hid hb0
    clear hx hb1 hb0
    simp only []
    go_wp2_with fail
    go_roundw
    case rel =>
     refine ⟨k + 1, d, A3, l3, c3, by omega, by go_num, HNX.out.symm, HOD.out, ?_, ?_, HX0.out.laid_other (by omega) _ _ _, dyW_kept K.out (by omega)⟩
     ·rw [← X1.out, ← X2.out]; exact HRD.out
     ·rw [← X1.out, ← X2.out]; exact HX1.out.laid _ _ _
    case measure => simp [intOf]; omega
   ·have hd' : decide (0 < cmp) = false := by simp [hc]
    have hnx := HNX.out
    rw [if_neg hc] at hnx
    clear hc HNX
    have HNX := Lib.hid hnx
    clear hnx
    go_wp2_with fail
    refine (HCM.out _ (K.out.trans (kept_alloc _ _))).mono ?_
    rintro e w2 ⟨rfl, q⟩
    have hx := (blk_new wr (.bool nd) (.slice A3 l3 c3) (.int .i64 ed)).kept q
    have hb1 := HB1.out.kept ((kept_alloc _ _).trans q)
    have hb0 := HB0.out.kept ((kept_alloc _ _).trans q)
    replace K := Lib.hid (K.out.trans ((kept_alloc _ _).trans q))
    clear q lb1 r0 r1 r2 g0 g1 g2
    obtain ⟨_, t0, t1, t2, -⟩ := hx.facts
    obtain ⟨lb1, r0, r1, r2, g0, g1, g2⟩ := hb1.facts
    have HX1 := Lib.hid hb1
    have HX0 := Lib.hid hb0
    clear hx hb1 hb0
    simp only []
    go_wp2_with fail
    go_roundw
    case rel =>
     refine ⟨k + 1, cur, Ac, lc, cc, by omega, by go_num, HNX.out.symm, HOK.out, ?_, ?_, HX0.out, K.out⟩
     ·rw [← X3.out, ← X4.out]; exact HRC.out
     ·rw [← X3.out, ← X4.out]; exact HX1.out
    case measure => simp [intOf]; omega
  ·obtain rfl : k = n := by omega
   have hfin : greatestD d0 L = cur := by rw [HC.out, List.take_of_length_le (by have := HN.out; omega)]
   obtain ⟨_, r0, r1, r2, -⟩ := hB1.facts
   obtain ⟨_, c0, c1', c2, f0, f1, f2⟩ := hB0.facts
   have HF := Lib.hid hfin
   obtain ⟨lim, xa, xb⟩ := dyR_lim HRC.out
   have LIM := Lib.hid lim
   have BX := Lib.hid (And.intro xa xb)
   clear hfin hB1 hB0 lim xa xb
   go_wp2_with fail
   refine ret_dy (HB0.out.laid _ _ _) rfl rfl rfl ⟨dyW_kept K.out (Nat.le_refl _), _, rfl, ?_⟩
   rw [HF.out]
   exact ((LIM.out.kept K.out).dyW HB0.out (noLimb_bool _) (noLimb_slice _ _ _) (noLimb_i64 _)).dyR (r := cur.raw) BX.out.1 BX.out.2
/-- An interval laid into block b2, a number into block b3, a new block behind. -/
def laidI (w : World) (b2 b3 : Nat) (x y z x' y' z' q : Value) (o : Obj) : World := ((ivW w b2 x y z x' y' z').setCell ⟨b3, 0, none⟩ q).alloc o
theorem laidI_cells {w : World} {b2 b3 : Nat} {a b c a' b' c' q0 x y z x' y' z' q : Value} {T' : TypeId} {o : Obj} (h0 : BlkI w b2 a b c a' b' c') (h1 : w.heap[b3]? = some (.cells #[q0] T' (0, 0))) (hne : ¬ b2 = b3) :
 BlkI (laidI w b2 b3 x y z x' y' z' q o) b2 x y z x' y' z' ∧ (laidI w b2 b3 x y z x' y' z' q o).cell? ⟨b3, 0, none⟩ = some q := by
 have l2 : b2 < w.heap.size := (Array.getElem?_eq_some_iff.1 h0).1
 have l3 : b3 < w.heap.size := (Array.getElem?_eq_some_iff.1 h1).1
 constructor
 ·unfold BlkI laidI
  rw [Below.heap_alloc _ _ _ (by simp [World.setCell, ivW, l2])]
  exact block_setCell_other (h0.laid _ _ _ _ _ _) hne _
 ·have g1 : (laidI w b2 b3 x y z x' y' z' q o).heap[b3]? = some (.cells #[q] T' (0, 0)) := by
   unfold laidI
   rw [Below.heap_alloc _ _ _ (by simp [World.setCell, ivW, l3])]
   have h2 : (ivW w b2 x y z x' y' z').heap[b3]? = some (.cells #[q0] T' (0, 0)) := by rw [ivW_other _ _ _ _ _ _ _ _ _ (fun h => hne h.symm)]; exact h1
   exact block_setCell h2 _
  exact cell_of_block g1 0 _ rfl
theorem laidI_kept {w0 w : World} {b2 b3 : Nat} {x y z x' y' z' q : Value} {o : Obj} (h : Kept w0 w) (h2 : w0.heap.size ≤ b2) (h3 : w0.heap.size ≤ b3) : Kept w0 (laidI w b2 b3 x y z x' y' z' q o) :=
 ((ivW_kept h h2).setCell (p := ⟨b3, 0, none⟩) h3 q).alloc (by simpa [World.setCell, ivW] using h.size) o
theorem DyR.laidI {w : World} {v : Value} {r : Raw} {b2 b3 : Nat} {n n' : Bool} {A A' : Option Addr} {l c l' c' : Nat} {e e' q0 : Int} {T' : TypeId} (h : DyR w v r) (hb : BlkI w b2 (.bool n) (.slice A l c) (.int .i64 e) (.bool n') (.slice A' l' c') (.int .i64 e'))
 (h1 : w.heap[b3]? = some (.cells #[.int .i64 q0] T' (0, 0))) (hne : ¬ b2 = b3) (x y z x' y' z' q : Value) (o : Obj) : DyR (Go.Proofs.YtgododcbmkpbjaaGreatDoor.laidI w b2 b3 x y z x' y' z' q o) v r := by
 obtain ⟨s, rfl, hs, e1, e2⟩ := h
 have hs2 := hs.ivW hb x y z x' y' z'
 have h2 : (Go.Proofs.YtgododcbmkpbjaaGreatDoor.ivW w b2 x y z x' y' z').cell? ⟨b3, 0, none⟩ = some (.int .i64 q0) := by
  have h2 : (Go.Proofs.YtgododcbmkpbjaaGreatDoor.ivW w b2 x y z x' y' z').heap[b3]? = some (.cells #[.int .i64 q0] T' (0, 0)) := by rw [ivW_other _ _ _ _ _ _ _ _ _ (fun h => hne h.symm)]; exact h1
  exact cell_of_block h2 0 _ rfl
 have hs3 := hs2.setCell h2 (noLimb_i64 _) q
 exact ⟨s, rfl, hs3.kept (kept_alloc _ _), e1, e2⟩
theorem catchA_fail (b2 b3 : Nat) (w : World) (k : Int) (x y z x' y' z' q : Value)
 (h0 : BlkI w b2 x y z x' y' z') (h1 : w.heap[b3]? = some (.cells #[q] 3 (0, 0))) (hne : ¬ b2 = b3) :
 CallsD Tryz.prog 169 #[.pointer (some ⟨b2, 0, none⟩), .pointer (some ⟨b3, 0, none⟩)] (.panicking (failV 162 k)) w fun e u' w' =>
  e = .returned (.tuple #[]) ∧ u' = .panicking [{ v := .iface 162 (.agg #[.int .i64 k]), recovered := true }] ∧
    w' = (laidI w b2 b3 (.bool false) (.slice none 0 0) (.int .i64 0) (.bool false) (.slice none 0 0) (.int .i64 0) (.int .i64 k) (.cells #[.int .i64 k] 162)).drew := by
 have ha := run_assert_failA k
 have l2 : b2 < w.heap.size := (Array.getElem?_eq_some_iff.1 h0).1
 have l3 : b3 < w.heap.size := (Array.getElem?_eq_some_iff.1 h1).1
 have n2 : ¬ b2 = w.heap.size := by omega
 have n3 : ¬ b3 = w.heap.size := by omega
 have n2' : ¬ w.heap.size = b2 := by omega
 have n3' : ¬ w.heap.size = b3 := by omega
 have hne' : ¬ b3 = b2 := fun h => hne h.symm
 obtain ⟨-, c0, c1, c2, c3, c4, c5⟩ := h0.facts
 obtain ⟨f0, f1, f2, f3, f4, f5⟩ := h0.free
 have c30 := cell_of_block h1 0 q rfl
 have f30 := free_of_block h1 0
 refine callsD_of_wpS Tryz.func169 rfl fun c₀ cs hu => ?_
 simp only [Tryz.ntmps169, List.size_toArray, List.length_cons, List.length_nil, Nat.reduceAdd, Nat.reduceSub, Array.replicate_succ,
  Array.replicate_zero, List.push_toArray, List.append_toArray, List.nil_append, List.cons_append]
 refine wpS_recovers (v := .iface 162 (.agg #[.int .i64 k])) (cs' := { c₀ with mode := .panicking [{ v := .iface 162 (.agg #[.int .i64 k]), recovered := true }] } :: cs) (w' := w) rfl ?_ ?_ ?_
 ·simp [go_sem]
 ·rw [recoverD, hu]; exact ⟨rfl, rfl⟩
 go_wp2_with fail
 go_region
 all_goals exact ⟨rfl, _, rfl, _, results_none rfl _ _ _, rfl, rfl, rfl⟩
theorem catchA_idle (b2 b3 : Nat) (w : World) :
 CallsD Tryz.prog 169 #[.pointer (some ⟨b2, 0, none⟩), .pointer (some ⟨b3, 0, none⟩)] .returning w fun e u' w' =>
  e = .returned (.tuple #[]) ∧ u' = .returning ∧ w' = w.alloc (.cells #[.int .i64 0] 162) := by
 have ha := run_assert_nilA
 refine callsD_of_wpS Tryz.func169 rfl fun c₀ cs hu => ?_
 simp only [Tryz.ntmps169, List.size_toArray, List.length_cons, List.length_nil, Nat.reduceAdd, Nat.reduceSub, Array.replicate_succ,
  Array.replicate_zero, List.push_toArray, List.append_toArray, List.nil_append, List.cons_append]
 refine wpS_recovers (v := .nilIface) (cs' := c₀ :: cs) (w' := w) rfl ?_ ?_ ?_
 ·simp [go_sem]
 ·rw [recoverD, hu]; exact ⟨rfl, rfl⟩
 go_wp2_with fail
 exact ⟨rfl, .returning, by rw [← hu], _, results_none rfl _ _ _, rfl, rfl, rfl⟩
end Go.Proofs.YtgododcbmkpbjaaGreatDoor
