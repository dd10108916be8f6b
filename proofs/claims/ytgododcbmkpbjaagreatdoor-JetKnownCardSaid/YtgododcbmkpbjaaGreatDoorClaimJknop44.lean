/- JetKnown: of x' = x x the coefficients hold the powers of x. -/
import Derived.Test.YtgododcbmkpbjaaGreatDoorClaimJknop20
import Derived.Test.YtgododcbmkpbjaaGreatDoorClaimJknop43
import Derived.Deep.CutBlock
set_option maxRecDepth 100000
set_option maxHeartbeats 16000000
namespace Go.Proofs.YtgododcbmkpbjaaGreatDoor
open Go.RowKit
/-- Order or bits may not be. -/
theorem series1_bad {w : World} {bB bK bF bX bP bT : Nat} {k p : Int}
 (hB : w.heap[bB]? = some (.cells #[.int .i64 p] 3 (0, 0))) (hK : w.heap[bK]? = some (.cells #[.int .i64 k] 3 (0, 0))) (hw : withinJ k p = false) :
 Calls Tryz.prog 65 #[.pointer (some ⟨bK, 0, none⟩), .pointer (some ⟨bB, 0, none⟩), .pointer (some ⟨bF, 0, none⟩), .pointer (some ⟨bX, 0, none⟩), .pointer (some ⟨bP, 0, none⟩), .pointer (some ⟨bT, 0, none⟩)] w (GoesLL ⟨[], 1⟩ w) := by
 have WI := Lib.hid (fun w1 => show Calls Tryz.prog 54 #[.int .i64 k, .int .i64 p] w1 (RetQ (.bool false) w1) by have := within_c w1 k p; rwa [hw] at this)
 have HB := Lib.hid hB
 have HK := Lib.hid hK
 have BAD := Lib.hid (fun w1 (q : Kept w w1) => show GoesLL ⟨[], 1⟩ w (.panicked (failV 117 1)) w1 from ⟨q, .inr ⟨by decide, rfl⟩⟩)
 clear hB hK hw
 go_enter Tryz.func65, Tryz.ntmps65
 go_upto_region 1 with fail
 refine region_seq (m := 28) (V := VL [(vE (.int .i64 k)), (vE (.int .i64 p)), (vE (.bool false)), (vE (.bool false)), (vE undef), (vE undef), (vE undef), (vE undef), (vE undef), (vE undef), (vE (.bool false)), (vE (.bool false)), (vE undef), (vE undef), (vE undef), (vE undef), (vE (.bool false)), (vE (.bool false)), (vE undef), (vE undef), (vE undef), (vE (.bool false)), (vE (.bool false)), (vE undef), (vE undef), (vE undef), (vE (.bool false)), (fun v _ => False)])
  rfl (by kernel_rfl) (by kernel_rfl) (by kernel_rfl) (mono_of _ ⟨mE, mE, mE, mE, mE, mE, mE, mE, mE, mE, mE, mE, mE, mE, mE, mE, mE, mE, mE, mE, mE, mE, mE, mE, mE, mE, mE, fun v w w' k h => by first | exact h | exact h.kept k | exact ⟨h.1, h.2.kept k⟩, trivial⟩) (steps_of ⟨
   (fun aF wF F => by have s0 : aF.tmps.getD 0 undef = (.pointer (some ⟨bK, 0, none⟩)) := F.o 0; have c0 := cell_at HK.out F.kept 0 _ rfl; exact sv rfl), (fun aF wF F => by have s1 : aF.tmps.getD 1 undef = (.pointer (some ⟨bB, 0, none⟩)) := F.o 1; have c0 := cell_at HB.out F.kept 0 _ rfl; exact sv rfl), (fun aF wF F => by have s7 := F.v 0 7; have s8 := F.v 1 8; exact sQ (WI.out _) fun _ _ h => h), (fun aF wF F => by have s9 := F.v 2 9; exact sv rfl), (so 3 10), (so 3 10), (so 3 10), (so 3 10), (so 3 10), (so 3 10), (fun aF wF F => by have s10 := F.v 3 10; have s16 := F.v 9 16; exact sv rfl), (fun aF wF F => by have s17 := F.v 10 17; exact sv rfl), (so 11 18), (so 11 18), (so 11 18), (so 11 18), (fun aF wF F => by have s18 := F.v 11 18; have s22 := F.v 15 22; exact sv rfl), (fun aF wF F => by have s23 := F.v 16 23; exact sv rfl), (so 17 24), (so 17 24), (so 17 24), (fun aF wF F => by have s24 := F.v 17 24; have s27 := F.v 20 27; exact sv rfl), (fun aF wF F => by have s28 := F.v 21 28; exact sv rfl), (so 22 29), (so 22 29), (so 22 29), (fun aF wF F => by have s29 := F.v 22 29; have s32 := F.v 25 32; exact sv rfl), (fun aF wF F => by have s33 := F.v 26 33; exact step_call (by simp [Region.wanted]) (by go_simp) (must_ifJ false 1 _) (fun e w2 h => h.elim (fun ⟨v, he, hk, hb, _⟩ => absurd hb (by decide)) (fun ⟨c, he, h0, hc, hw2⟩ => .inr ⟨c, he, F.defers, by subst hc; exact BAD.out w2 (hw2 ▸ F.kept)⟩))),
   trivial⟩) ?_
 intro u w1 k1 hu
 have p34 := hp hu 27
 simp only [puts, slotOf, if_true, Act.put, z1, z2, z3, z4, z5, z6, z7, hv hu 0, hv hu 1, hv hu 2, hv hu 3, hv hu 4, hv hu 5, hv hu 6, hv hu 7, hv hu 8, hv hu 9, hv hu 10, hv hu 11, hv hu 12, hv hu 13, hv hu 14, hv hu 15, hv hu 16, hv hu 17, hv hu 18, hv hu 19, hv hu 20, hv hu 21, hv hu 22, hv hu 23, hv hu 24, hv hu 25, hv hu 26]
 clear hu
 generalize u 27 = v34 at *
 exact p34.elim
theorem series_bad {w : World} {k p : Int} {vt : Value} {ls : List Ln} {outs : List Int} (hv : TpR w vt ls outs) (hw : withinJ k p = false) :
 Calls Tryz.prog 27 #[vt, .slice none 0 0, .slice none 0 0, .slice none 0 0, .int .i64 k, .int .i64 p] w (RetLL ⟨[], 1⟩ w) := by
 obtain ⟨s, o, rfl, ⟨A, c, rfl, -, -⟩, ⟨B, d, rfl, -, -⟩⟩ := hv
 exact series_face (fun _ => rfl) fun w1 q B => series1_bad B.b B.k hw
theorem lim_newJ {w : World} {b n : Nat} {T : TypeId} (hn : n < 18446744073709551616) (h : w.heap[b]? = some (.cells #[.int .u64 (n : Int)] T (0, 0))) : Lim w (.slice (some ⟨b, 0, none⟩) 1 1) [n] := by
 refine ⟨fun x hx => by simp at hx; omega, some ⟨b, 0, none⟩, 1, rfl, Nat.le_refl _, fun _ => ⟨b, 0, rfl, (Array.getElem?_eq_some_iff.1 h).1, fun i hi => ?_⟩⟩
 have hi : i < 1 := hi
 obtain rfl : i = 0 := by omega
 exact cell_of_block h 0 _ rfl
theorem dy81 : (dyz 8 (-3)).raw = ⟨false, [1], 0⟩ := by
 have hl := limbs_one 1 (by decide) (by decide)
 have ht : tz 8 = 3 := tz_unique 8 3 1 rfl rfl
 have h : fitD false 8 (-3) = ⟨⟨false, 1, 0⟩, 0⟩ := by
  unfold fitD
  rw [ht, if_neg (by decide), if_neg (by show ¬ 64 < (limbs 1).length; rw [hl]; decide), if_neg (by decide), if_neg (by decide)]
  rfl
 have h2 : dyz 8 (-3) = ⟨false, 1, 0⟩ := congrArg Outc.v h
 rw [h2]; unfold Dy.raw; rw [hl]
theorem cellKJ {w w' : World} {b o : Nat} {v : Value} (h : w.cell? ⟨b, o, none⟩ = some v) (k : Kept w w') : w'.cell? ⟨b, o, none⟩ = some v := (k.cell (p := ⟨b, o, none⟩) (lt_of_cell h)).trans h
theorem told9_c {S : Int → Prop} {w : World} (O : OpsC S) (h9 : S 9) (hT : Tab w) : Calls Tryz.prog 26 #[] w (RetK (.bool true) w) := by
 have T := Lib.hid hT
 obtain ⟨c9, hst, gc9, lc9, he9, hq9⟩ := told_steps
 have hf := e8_first (m := 8) (p := 30) ⟨by decide, by decide, by decide⟩
 have C1 := Lib.hid (fun w1 (k : Kept w w1) vt vx (ht : TpR w1 vt tE [0]) (hx : OneI w1 vx ⟨⟨false, [1], 0⟩, ⟨false, [1], 0⟩⟩) => show Calls Tryz.prog 24 #[vt, .agg #[.bool false, .slice none 0 0, .int .i64 0, .bool false, .slice none 0 0, .int .i64 0], vx, .slice none 0 0, .int .i64 3, .int .i64 30] w1 (RetLL ⟨[c9], 0⟩ w1) by
  have e : (⟨⟨false, [1], 0⟩, ⟨false, [1], 0⟩⟩ : RawI) = (pt (dyz 8 (-3))).raw := by show _ = RawI.mk (dyz 8 (-3)).raw (dyz 8 (-3)).raw; rw [dy81]
  rw [e] at hx
  exact solve_one (ov := fun _ _ => ⟨iz, 0⟩) (k := 3) (p := 30) (time := []) O h9 ht hx ⟨by rw [Iv.raw_iv]; exact pt_ok (dyz_ok _ _), by rw [Iv.raw_iv]⟩ lnOk_E (by decide) rfl (by intro n hn; simp only [List.mem_singleton] at hn; subst hn; decide) rfl rfl
   (fun n c hn gc hc => linC_E gc hc (by omega) (by decide) (by decide)) (hT.kept k) (by rw [Iv.raw_iv]; exact hf.2.1.1) (by rw [Iv.raw_iv]; exact hst))
 have C2 := Lib.hid (fun w1 (_ : Kept w w1) vt (ht : TpR w1 vt tE [0]) => show Calls Tryz.prog 24 #[vt, .agg #[.bool false, .slice none 0 0, .int .i64 0, .bool false, .slice none 0 0, .int .i64 0], .slice none 0 0, .slice none 0 0, .int .i64 3, .int .i64 30] w1 (RetLL ⟨[], 1⟩ w1) from
  solve_bad ht lnOk_E (by decide) (by decide) rfl rfl)
 have C3 := Lib.hid (fun w1 (_ : Kept w w1) vt (ht : TpR w1 vt tE [0]) => show Calls Tryz.prog 27 #[vt, .slice none 0 0, .slice none 0 0, .slice none 0 0, .int .i64 13, .int .i64 30] w1 (RetLL ⟨[], 1⟩ w1) from series_bad ht rfl)
 obtain ⟨r2, hr2⟩ : ∃ r, r = gI c9 2 := ⟨_, rfl⟩
 obtain ⟨r3, hr3⟩ : ∃ r, r = gI c9 3 := ⟨_, rfl⟩
 have ok3 : r3.Ok := by rw [hr3]; exact gI_ok gc9 3
 rw [← hr2] at he9
 rw [← hr3] at hq9
 have CC := Lib.hid (fun w1 va vb (ha : DyR w1 va r3.lo.raw) (hb : DyR w1 vb r3.hi.raw) => show Calls Tryz.prog 21 #[va, vb] w1 (RetK (.int .i64 (-1)) w1) by
  have := dcmp_c ha hb ok3.lo ok3.hi
  rwa [cmpQ_of_lt hq9] at this)
 have PL := Lib.hid (fun w1 v (h : IvS w1 v c9) => h.place gc9 (by omega))
 have LC := Lib.hid lc9
 have R2 := Lib.hid hr2
 have R3 := Lib.hid hr3
 have E9 := Lib.hid (show r2.raw.lo.e = -1 from he9)
 clear hT hst gc9 lc9 he9 hq9 hf ok3 hr2 hr3 O
 go_enter Tryz.func26, Tryz.ntmps26
 go_wp2_with fail
 have hlim : Lim (w.alloc (.cells #[.int .u64 1] 60)) (.slice (some ⟨w.heap.size, 0, none⟩) 1 1) [1] := lim_newJ (n := 1) (T := 60) (by decide) (heap_alloc_new _ _)
 refine (iof_c (r := ⟨false, [1], 0⟩) ⟨_, rfl, hlim, by decide, by decide⟩).mono ?_
 rintro e w1 ⟨q, v, rfl, hv⟩
 obtain ⟨P1, l1, d1, P2, l2, d2, rfl, -, -⟩ := ivR_split hv
 have K1 := Lib.hid ((kept_alloc _ _).trans q)
 have HV1 := Lib.hid hv
 clear hlim hv q
 simp only [] at HV1 ⊢
 obtain ⟨V1, hV1, kV1, bV1⟩ := boxi1 w1 (.bool false) (.slice P1 l1 d1) (.int .i64 0) (.bool false) (.slice P2 l2 d2) (.int .i64 0)
 have HB1 := Lib.hid hV1
 go_upto_region 2 with fail
 rw [← HB1.out]
 obtain ⟨V2, hV2, kV2, b0, b1, b2⟩ := boxTJ V1 #[.int .i64 3, .int .i64 0, .int .i64 0, .bool false, .slice none 0 0, .int .i64 0, .bool false, .slice none 0 0, .int .i64 0] 0 1
 have HB2 := Lib.hid hV2
 have K2 := Lib.hid (K1.out.trans (kV1.trans kV2))
 have BI := Lib.hid (bV1.kept kV2)
 have IV := Lib.hid (HV1.out.kept (kV1.trans kV2))
 have BT := Lib.hid b2
 have TP := Lib.hid (show TpR V2 (.agg #[.slice (some ⟨V1.heap.size, 0, none⟩) 1 1, .slice (some ⟨V1.heap.size + 1, 0, none⟩) 1 1]) tE [0] from ⟨_, _, rfl, lnJ1 b0, insJ1 b1⟩)
 clear hV1 hV2 kV1 kV2 bV1 b0 b1 b2 HV1 HB1 K1
 go_upto_region 3 with fail
 rw [← HB2.out]
 clear HB2
 generalize V1.heap.size + 1 + 1 = n3 at *
 generalize w1.heap.size = n1 at *
 generalize V1.heap.size + 1 = n2 at *
 generalize V1.heap.size = n0 at *
 obtain ⟨c0, c1⟩ := cells2 BT.out
 obtain ⟨-, m0, m1, m2, m3, m4, m5⟩ := BI.out.facts
 go_wp2_with fail
 refine (C1.out _ (K2.out.trans (kept_alloc _ _)) _ _ (TP.out.kept (kept_alloc _ _)) (oneI_new IV.out)).mono ?_
 rintro e w3 ⟨q3, v3, rfl, hr3⟩
 obtain ⟨b3, o3, e3, s3, rfl, -, cell3, hs3⟩ := hr3.row (i := 0) (by simp)
 obtain ⟨br, orr, cr, rfl, -, hRG⟩ := PL.out w3 _ (show IvS w3 s3 c9 from hs3)
 have i2 := hRG w3 (Below.refl _ _) 2 (by have := LC.out; omega)
 have i3 := hRG w3 (Below.refl _ _) 3 (by have := LC.out; omega)
 rw [← R2.out] at i2
 rw [← R3.out] at i3
 rw [LC.out, Nat.add_zero] at cell3
 obtain ⟨y0, y1, y2, y3, y4, y5, -, -, s2, -, -, -, hI2⟩ := i2
 obtain ⟨A1, a1, a2, A2, a3, a4, hh, -, -⟩ := ivR_split hI2
 simp only [Value.agg.injEq, List.cons.injEq, Array.mk.injEq, and_true] at hh
 obtain ⟨rfl, rfl, rfl, rfl, rfl, rfl⟩ := hh
 rw [E9.out] at s2
 obtain ⟨x0, x1, x2, x3, x4, x5, t0, t1, t2, t3, t4, t5, hI3⟩ := i3
 obtain ⟨B1, f1, f2, B2, f3, f4, hh, dlo, dhi⟩ := ivR_split hI3
 simp only [Value.agg.injEq, List.cons.injEq, Array.mk.injEq, and_true] at hh
 obtain ⟨rfl, rfl, rfl, rfl, rfl, rfl⟩ := hh
 have kq := (kept_alloc V2 (.cells #[.bool false, .slice P1 l1 d1, .int .i64 0, .bool false, .slice P2 l2 d2, .int .i64 0] 32)).trans q3
 have K3 := Lib.hid (K2.out.trans kq)
 have TP3 := Lib.hid (TP.out.kept kq)
 have BT3 := Lib.hid (blk_kept BT.out kq)
 have S2 := Lib.hid s2
 have S3 := Lib.hid (And.intro t0 (And.intro t1 (And.intro t2 (And.intro t3 (And.intro t4 t5)))))
 have CE := Lib.hid cell3
 have DLO := Lib.hid dlo
 have DHI := Lib.hid dhi
 clear c0 c1 m0 m1 m2 m3 m4 m5 K2 TP BT IV BI hI2 hI3 dlo dhi t0 t1 t2 t3 t4 t5 s2 cell3 hs3 hRG kq q3 C1 PL
 obtain ⟨c0, c1⟩ := cells2 BT3.out
 simp only []
 go_wp2_with fail
 refine (C2.out _ K3.out _ TP3.out).mono ?_
 rintro e w4 ⟨q4, v4, rfl, hr4⟩
 obtain ⟨A4, c4, rfl, -, -⟩ := hr4
 have Q4 := Lib.hid q4
 clear c0 c1 q4
 obtain ⟨c0, c1⟩ := cells2 (blk_kept BT3.out Q4.out)
 simp only []
 go_wp2_with fail
 refine (C3.out _ (K3.out.trans Q4.out) _ (TP3.out.kept Q4.out)).mono ?_
 rintro e w5 ⟨q5, v5, rfl, hr5⟩
 obtain ⟨A5, c5, rfl, -, -⟩ := hr5
 have Q5 := Lib.hid (Q4.out.trans q5)
 clear c0 c1 q5 C2 C3
 simp only []
 go_wp2_with fail
 refine region_lin (m := 49) (V := VL [(vE (.int .i64 0)), (vE (.bool true)), (vE (.bool true)), (vE (.slice (some ⟨b3, o3, none⟩) 1 e3)), (vE (.int .i64 1)), (vE (.bool true)), (vE (.bool true)), (vE (.bool true)), (vE (.slice (some ⟨b3, o3, none⟩) 1 e3)), (vE (.pointer (some ⟨b3, o3, none⟩))), (vE (.slice (some ⟨br, orr, none⟩) 4 cr)), (vE (.int .i64 4)), (vE (.bool true)), (vE (.bool true)), (vE (.bool true)), (vE (.slice (some ⟨b3, o3, none⟩) 1 e3)), (vE (.pointer (some ⟨b3, o3, none⟩))), (vE (.slice (some ⟨br, orr, none⟩) 4 cr)), (vE (.pointer (some ⟨br, orr + 2 * 6, none⟩))), (vE (.pointer (some ⟨br, orr + 2 * 6, none⟩))), (vE (.pointer (some ⟨br, orr + 2 * 6 + 2, none⟩))), (vE (.int .i64 (-1))), (vE (.bool true)), (vE (.bool true)), (vE (.bool true)), (vE (.slice (some ⟨b3, o3, none⟩) 1 e3)), (vE (.pointer (some ⟨b3, o3, none⟩))), (vE (.slice (some ⟨br, orr, none⟩) 4 cr)), (vE (.pointer (some ⟨br, orr + 3 * 6, none⟩))), (vE (.pointer (some ⟨br, orr + 3 * 6, none⟩))), (vE (.agg #[.bool r3.raw.lo.neg, .slice B1 f1 f2, .int .i64 r3.raw.lo.e])), (vE (.slice (some ⟨b3, o3, none⟩) 1 e3)), (vE (.pointer (some ⟨b3, o3, none⟩))), (vE (.slice (some ⟨br, orr, none⟩) 4 cr)), (vE (.pointer (some ⟨br, orr + 3 * 6, none⟩))), (vE (.pointer (some ⟨br, orr + 3 * 6 + 3, none⟩))), (vE (.agg #[.bool r3.raw.hi.neg, .slice B2 f3 f4, .int .i64 r3.raw.hi.e])), (vE (.int .i64 (-1))), (vE (.bool true)), (vE (.bool true)), (vE (.bool true)), (vE (.int .i64 1)), (vE (.bool true)), (vE (.bool true)), (vE (.bool true)), (vE (.int .i64 1)), (vE (.bool true)), (vE (.bool true)), (vE (.bool true))])
  (by kernel_rfl) rfl (by kernel_rfl) (by kernel_rfl) (by kernel_rfl) (mono_of _ ⟨mE, mE, mE, mE, mE, mE, mE, mE, mE, mE, mE, mE, mE, mE, mE, mE, mE, mE, mE, mE, mE, mE, mE, mE, mE, mE, mE, mE, mE, mE, mE, mE, mE, mE, mE, mE, mE, mE, mE, mE, mE, mE, mE, mE, mE, mE, mE, mE, mE, trivial⟩) (steps_of ⟨
    (fun aF wF F => by have s4 : aF.tmps.getD 4 undef = (.int .i64 0) := F.o 4; exact sv rfl), (fun aF wF F => by have s35 := F.v 0 35; exact sv rfl), (fun aF wF F => by have s36 := F.v 1 36; exact sv rfl), (fun aF wF F => by have s3 : aF.tmps.getD 3 undef = (.slice (some ⟨b3, o3, none⟩) 1 e3) := F.o 3; have sg := F.v 2 37; exact step_val ((wanted_guard rfl rfl sg).trans rfl) (by go_simp) rfl), (fun aF wF F => by have s38 := F.v 3 38; have sg := F.v 2 37; exact step_val ((wanted_guard rfl rfl sg).trans rfl) (by go_simp) rfl), (fun aF wF F => by have s39 := F.v 4 39; have sg := F.v 2 37; exact step_val ((wanted_guard rfl rfl sg).trans rfl) (by go_simp) rfl), (fun aF wF F => by have s37 := F.v 2 37; have s40 := F.v 5 40; exact sv rfl), (fun aF wF F => by have s41 := F.v 6 41; exact sv rfl), (fun aF wF F => by have s3 : aF.tmps.getD 3 undef = (.slice (some ⟨b3, o3, none⟩) 1 e3) := F.o 3; have sg := F.v 7 42; exact step_val ((wanted_guard rfl rfl sg).trans rfl) (by go_simp) rfl), (fun aF wF F => by have s43 := F.v 8 43; have sg := F.v 7 42; exact step_val ((wanted_guard rfl rfl sg).trans rfl) (by go_simp) rfl), (fun aF wF F => by have s44 := F.v 9 44; have sg := F.v 7 42; exact step_val ((wanted_guard rfl rfl sg).trans rfl) (by (have n0 := cellKJ CE.out (Q5.out.trans F.kept); go_simp)) rfl), (fun aF wF F => by have s45 := F.v 10 45; have sg := F.v 7 42; exact step_val ((wanted_guard rfl rfl sg).trans rfl) (by go_simp) rfl), (fun aF wF F => by have s46 := F.v 11 46; have sg := F.v 7 42; exact step_val ((wanted_guard rfl rfl sg).trans rfl) (by go_simp) rfl), (fun aF wF F => by have s42 := F.v 7 42; have s47 := F.v 12 47; exact sv rfl), (fun aF wF F => by have s48 := F.v 13 48; exact sv rfl), (fun aF wF F => by have s3 : aF.tmps.getD 3 undef = (.slice (some ⟨b3, o3, none⟩) 1 e3) := F.o 3; have sg := F.v 14 49; exact step_val ((wanted_guard rfl rfl sg).trans rfl) (by go_simp) rfl), (fun aF wF F => by have s50 := F.v 15 50; have sg := F.v 14 49; exact step_val ((wanted_guard rfl rfl sg).trans rfl) (by go_simp) rfl), (fun aF wF F => by have s51 := F.v 16 51; have sg := F.v 14 49; exact step_val ((wanted_guard rfl rfl sg).trans rfl) (by (have n0 := cellKJ CE.out (Q5.out.trans F.kept); go_simp)) rfl), (fun aF wF F => by have s52 := F.v 17 52; have sg := F.v 14 49; exact step_val ((wanted_guard rfl rfl sg).trans rfl) (by go_simp) rfl), (fun aF wF F => by have s53 := F.v 18 53; have sg := F.v 14 49; exact step_val ((wanted_guard rfl rfl sg).trans rfl) (by go_simp) rfl), (fun aF wF F => by have s54 := F.v 19 54; have sg := F.v 14 49; exact step_val ((wanted_guard rfl rfl sg).trans rfl) (by go_simp) rfl), (fun aF wF F => by have s55 := F.v 20 55; have sg := F.v 14 49; exact step_val ((wanted_guard rfl rfl sg).trans rfl) (by (have n0 := cellKJ S2.out (Q5.out.trans F.kept); go_simp)) rfl), (fun aF wF F => by have s56 := F.v 21 56; have sg := F.v 14 49; exact step_val ((wanted_guard rfl rfl sg).trans rfl) (by go_simp) rfl), (fun aF wF F => by have s49 := F.v 14 49; have s57 := F.v 22 57; exact sv rfl), (fun aF wF F => by have s58 := F.v 23 58; exact sv rfl), (fun aF wF F => by have s3 : aF.tmps.getD 3 undef = (.slice (some ⟨b3, o3, none⟩) 1 e3) := F.o 3; have sg := F.v 24 59; exact step_val ((wanted_guard rfl rfl sg).trans rfl) (by go_simp) rfl), (fun aF wF F => by have s60 := F.v 25 60; have sg := F.v 24 59; exact step_val ((wanted_guard rfl rfl sg).trans rfl) (by go_simp) rfl), (fun aF wF F => by have s61 := F.v 26 61; have sg := F.v 24 59; exact step_val ((wanted_guard rfl rfl sg).trans rfl) (by (have n0 := cellKJ CE.out (Q5.out.trans F.kept); go_simp)) rfl), (fun aF wF F => by have s62 := F.v 27 62; have sg := F.v 24 59; exact step_val ((wanted_guard rfl rfl sg).trans rfl) (by go_simp) rfl), (fun aF wF F => by have s63 := F.v 28 63; have sg := F.v 24 59; exact step_val ((wanted_guard rfl rfl sg).trans rfl) (by go_simp) rfl), (fun aF wF F => by have s64 := F.v 29 64; have sg := F.v 24 59; exact step_val ((wanted_guard rfl rfl sg).trans rfl) (by (have n0 := cellKJ S3.out.1 (Q5.out.trans F.kept); have n1 := cellKJ S3.out.2.1 (Q5.out.trans F.kept); have n2 := cellKJ S3.out.2.2.1 (Q5.out.trans F.kept); go_simp)) rfl), (fun aF wF F => by have s3 : aF.tmps.getD 3 undef = (.slice (some ⟨b3, o3, none⟩) 1 e3) := F.o 3; have sg := F.v 24 59; exact step_val ((wanted_guard rfl rfl sg).trans rfl) (by go_simp) rfl), (fun aF wF F => by have s66 := F.v 31 66; have sg := F.v 24 59; exact step_val ((wanted_guard rfl rfl sg).trans rfl) (by go_simp) rfl), (fun aF wF F => by have s67 := F.v 32 67; have sg := F.v 24 59; exact step_val ((wanted_guard rfl rfl sg).trans rfl) (by (have n0 := cellKJ CE.out (Q5.out.trans F.kept); go_simp)) rfl), (fun aF wF F => by have s68 := F.v 33 68; have sg := F.v 24 59; exact step_val ((wanted_guard rfl rfl sg).trans rfl) (by go_simp) rfl), (fun aF wF F => by have s69 := F.v 34 69; have sg := F.v 24 59; exact step_val ((wanted_guard rfl rfl sg).trans rfl) (by go_simp) rfl), (fun aF wF F => by have s70 := F.v 35 70; have sg := F.v 24 59; exact step_val ((wanted_guard rfl rfl sg).trans rfl) (by (have n0 := cellKJ S3.out.2.2.2.1 (Q5.out.trans F.kept); have n1 := cellKJ S3.out.2.2.2.2.1 (Q5.out.trans F.kept); have n2 := cellKJ S3.out.2.2.2.2.2 (Q5.out.trans F.kept); go_simp)) rfl), (fun aF wF F => by have s65 := F.v 30 65; have s71 := F.v 36 71; have sg := F.v 24 59; exact step_good ((wanted_guard rfl rfl sg).trans rfl) (by go_simp) (CC.out _ _ _ (DLO.out.kept (Q5.out.trans F.kept)) (DHI.out.kept (Q5.out.trans F.kept))) (fun _ _ h => RetK.good h) (fun _ _ h => h)), (fun aF wF F => by have s72 := F.v 37 72; have sg := F.v 24 59; exact step_val ((wanted_guard rfl rfl sg).trans rfl) (by go_simp) rfl), (fun aF wF F => by have s59 := F.v 24 59; have s73 := F.v 38 73; exact sv rfl), (fun aF wF F => by have s74 := F.v 39 74; exact sv rfl), (fun aF wF F => by have s6 : aF.tmps.getD 6 undef = (.int .i64 1) := F.o 6; have sg := F.v 40 75; exact step_val ((wanted_guard rfl rfl sg).trans rfl) (by go_simp) rfl), (fun aF wF F => by have s76 := F.v 41 76; have sg := F.v 40 75; exact step_val ((wanted_guard rfl rfl sg).trans rfl) (by go_simp) rfl), (fun aF wF F => by have s75 := F.v 40 75; have s77 := F.v 42 77; exact sv rfl), (fun aF wF F => by have s78 := F.v 43 78; exact sv rfl), (fun aF wF F => by have s8 : aF.tmps.getD 8 undef = (.int .i64 1) := F.o 8; have sg := F.v 44 79; exact step_val ((wanted_guard rfl rfl sg).trans rfl) (by go_simp) rfl), (fun aF wF F => by have s80 := F.v 45 80; have sg := F.v 44 79; exact step_val ((wanted_guard rfl rfl sg).trans rfl) (by go_simp) rfl), (fun aF wF F => by have s79 := F.v 44 79; have s81 := F.v 46 81; exact sv rfl), (fun aF wF F => by have s82 := F.v 47 82; exact sv rfl),
    trivial⟩) ?_
 intro u w6 q6 hu
 simp only [puts, slotOf, if_true, Act.put, z1, z2, z3, z4, z5, z6, z7, hv hu 0, hv hu 1, hv hu 2, hv hu 3, hv hu 4, hv hu 5, hv hu 6, hv hu 7, hv hu 8, hv hu 9, hv hu 10, hv hu 11, hv hu 12, hv hu 13, hv hu 14, hv hu 15, hv hu 16, hv hu 17, hv hu 18, hv hu 19, hv hu 20, hv hu 21, hv hu 22, hv hu 23, hv hu 24, hv hu 25, hv hu 26, hv hu 27, hv hu 28, hv hu 29, hv hu 30, hv hu 31, hv hu 32, hv hu 33, hv hu 34, hv hu 35, hv hu 36, hv hu 37, hv hu 38, hv hu 39, hv hu 40, hv hu 41, hv hu 42, hv hu 43, hv hu 44, hv hu 45, hv hu 46, hv hu 47, hv hu 48]
 clear hu
 have KF := Lib.hid (K3.out.trans (Q5.out.trans q6))
 clear q6
 go_wp2_with fail
 go_ret
 exact ⟨rfl, KF.out⟩
/-- The powers. -/
def mpw (m : Int) : Nat → Int
 | 0 => m
 | n + 1 => mpw m n * m
theorem mpw_le {m : Int} (h : m.natAbs ≤ 15) : ∀ n, (mpw m n).natAbs ≤ 15 ^ (n + 1)
 | 0 => by show m.natAbs ≤ 15 ^ 1; omega
 | n + 1 => by
   have h1 := mpw_le h n
   show (mpw m n * m).natAbs ≤ 15 ^ (n + 1 + 1)
   rw [Int.natAbs_mul, Nat.pow_succ]
   exact Nat.mul_le_mul h1 h
theorem mpw_z {m : Int} (h : m.natAbs ≤ 15) {n : Nat} (hn : n ≤ 9) : SmZ (mpw m n) (-3 * ((n : Int) + 1)) := by
 have h1 := mpw_le h n
 have h2 : 15 ^ (n + 1) ≤ 15 ^ 10 := Nat.pow_le_pow_right (by decide) (by omega)
 have h3 : 15 ^ 10 < 2 ^ 60 := by decide
 exact ⟨by omega, by omega, by omega⟩
theorem mpw_q (m : Int) : ∀ n : Nat, (mpw m n : Rat) * pw (-3 * ((n : Int) + 1)) = rp ((m : Rat) * pw (-3)) n
 | 0 => rfl
 | n + 1 => by
   have ih := mpw_q m n
   show ((mpw m n * m : Int) : Rat) * _ = rp ((m : Rat) * pw (-3)) n * ((m : Rat) * pw (-3))
   rw [← ih, show (-3 * (((n + 1 : Nat) : Int) + 1)) = -3 * ((n : Int) + 1) + -3 by omega, pw_add, Rat.intCast_mul]
   grind
/-- The power that is told. -/
def dpw (m : Int) (n : Nat) : Dy := dyz (mpw m n) (-3 * ((n : Int) + 1))
theorem dpw_mul {m : Int} (h : m.natAbs ≤ 15) {n : Nat} (hn : n ≤ 8) : mulD (dpw m n) (dyz m (-3)) = ⟨dpw m (n + 1), 0⟩ := by
 have e : (-3 * (((n + 1 : Nat) : Int) + 1)) = -3 * ((n : Int) + 1) + -3 := by omega
 have hz := mpw_z h (n := n + 1) (by omega)
 unfold dpw
 rw [e] at hz ⊢
 exact dyz_mul (mpw_z h (by omega)) ⟨Nat.lt_of_le_of_lt h (by decide), by decide, by decide⟩ hz
/-- Sums, products, divisions. -/
def S689 (op : Int) : Prop := op = 6 ∨ op = 8 ∨ op = 9
theorem ops689 : OpsC S689 :=
 ⟨fun _ _ _ _ _ _ _ => Add_k, fun h => absurd h (by unfold S689; decide), fun _ _ _ _ _ _ _ => Mul_k, fun _ _ _ _ _ _ _ => Div_k, fun h => absurd h (by unfold S689; decide), fun h => absurd h (by unfold S689; decide), fun h => absurd h (by unfold S689; decide)⟩
/-- What Solve makes in JetKnown. -/
theorem knownS {m : Int} {p q : Nat} (h : E8 m p) (hq : q ≤ 8) : ∃ c9, Cf (rp (dyz m (-3)).q) (fun n => 3 + 88 * n) (fun n => 2 + 40 * n) c9 ∧ c9.length = q + 1 ∧
 ∀ w1 vt vx, TpR w1 vt tM [1] → OneI w1 vx (pt (dyz m (-3))).raw → Tab w1 → Calls Tryz.prog 24 #[vt, .agg #[.bool false, .slice none 0 0, .int .i64 0, .bool false, .slice none 0 0, .int .i64 0], vx, .slice none 0 0, .int .i64 (q : Int), .int .i64 (p : Int)] w1 (RetLL ⟨[c9], 0⟩ w1) := by
 have h1 := h.p1
 have h2 := h.p2
 obtain ⟨c9, hst, hc, hl⟩ := stepM (ov := fun _ _ => ⟨iz, 0⟩) h hq []
 refine ⟨c9, hc, hl, fun w1 vt vx ht hx hT => ?_⟩
 exact solve_one (ov := fun _ _ => ⟨iz, 0⟩) (time := []) ops689 (.inr (.inr rfl)) ht hx ⟨by rw [Iv.raw_iv]; exact pt_ok (dyz_ok _ _), by rw [Iv.raw_iv]⟩ lnOk_M (by decide) rfl (by intro n hn; simp only [List.mem_singleton] at hn; subst hn; decide)
  (by unfold withinJ; simp only [Bool.and_eq_true, decide_eq_true_eq]; omega) rfl (fun n c hn gc hc => linC_M ops689 (.inl rfl) (.inr (.inl rfl)) gc hc (by omega) (by omega) (by omega)) hT (by rw [Iv.raw_iv]; exact (e8_first h).2.1.1) (by rw [Iv.raw_iv]; exact hst)
theorem known_has {m : Int} (h : m.natAbs ≤ 15) {q : Nat} {c9 : List RawI} (hc : Cf (rp (dyz m (-3)).q) (fun n => 3 + 88 * n) (fun n => 2 + 40 * n) c9) (hl : c9.length = q + 1) (hq : q ≤ 8) {i : Nat} (hi : i ≤ q) :
 (gI c9 i).Ok ∧ hasI (gI c9 i) (dpw m i) = true := by
 obtain ⟨⟨ok, -⟩, -, mem⟩ := hc i (by omega)
 refine ⟨ok, ?_⟩
 unfold hasI
 have e : (dpw m i).q = rp (dyz m (-3)).q i := by
  unfold dpw
  rw [dyz_q (mpw_z h (by omega)), mpw_q, dyz_q ⟨Nat.lt_of_le_of_lt h (by decide), by decide, by decide⟩]
 rw [e, decide_eq_true (cmpQ_le.2 mem.1), decide_eq_true (cmpQ_le.2 mem.2)]
 rfl
theorem w64_succK {i : Nat} (h : i < 9) : wrap64 ((i : Int) + 1) = ((i + 1 : Nat) : Int) := by unfold wrap64; omega
theorem meas_ltK {i q : Nat} (h : i ≤ q) : ((q : Int) + 1 - ((i + 1 : Nat) : Int)).toNat < ((q : Int) + 1 - (i : Int)).toNat := by omega
theorem jknown_c {w : World} {n k p : Int} (hT : Tab w) : Calls Tryz.prog 6 #[.int .i64 n, .int .i64 k, .int .i64 p] w (RetK (.bool true) w) := by
 have T := Lib.hid hT
 obtain ⟨hm0, hm1, hm2⟩ := kzJ_eq n (m := 31) (c := 15) (by decide) (by decide) (by decide) (by decide)
 obtain ⟨m, hm⟩ : ∃ m, m = kzJ 31 15 n := ⟨_, rfl⟩
 rw [← hm] at hm0 hm1 hm2
 obtain ⟨bits, hb, b1, b2⟩ := nJ_of p 8 73 (by decide) (by decide)
 obtain ⟨qn, hq, q1⟩ := qJ_of k 9 (by decide) (by decide)
 have hm15 : m.natAbs ≤ 15 := by omega
 have E := Lib.hid (show E8 m bits from ⟨hm15, by omega, by omega⟩)
 obtain ⟨c9, hcf, hcl, hsv⟩ := knownS E.out (show qn ≤ 8 by omega)
 obtain ⟨dd, hdd⟩ : ∃ d, d = dyz m (-3) := ⟨_, rfl⟩
 have OF := Lib.hid (fun w1 (k : Kept w w1) => show Calls Tryz.prog 13 #[.int .i64 m, .int .i64 (-3)] w1 (RetE ⟨dd.raw, 0⟩ w1) by rw [hdd]; exact dof_zJ (by omega) (by decide) (by decide) (hT.kept k))
 have SV := Lib.hid (fun w1 (k : Kept w w1) vt vx (ht : TpR w1 vt tM [1]) (hx : OneI w1 vx (pt dd).raw) => hsv w1 vt vx ht (by rw [← hdd]; exact hx) (hT.kept k))
 have HAS := Lib.hid (fun i (hi : i ≤ qn) w1 v u (hv : IvR w1 v (gI c9 i).raw) (hu : DyR w1 u (dpw m i).raw) => show Calls Tryz.prog 25 #[v, u] w1 (RetK (.bool true) w1) by
  obtain ⟨ok, he⟩ := known_has hm15 hcf hcl (by omega) hi
  have := has_c (a := gI c9 i) hv hu ok (dyz_ok _ _)
  rwa [he] at this)
 have MUL := Lib.hid (fun i (hi : i ≤ qn) w1 (k : Kept w w1) v u (hv : DyR w1 v (dpw m i).raw) (hu : DyR w1 u dd.raw) => show Calls Tryz.prog 23 #[v, u] w1 (RetE ⟨(dpw m (i + 1)).raw, 0⟩ w1) by
  rw [hdd] at hu
  have := Mul_c hv hu (dyz_ok _ _) (dyz_ok _ _) (hT.kept k)
  rw [dpw_mul hm15 (by omega)] at this
  exact this)
 have D0 := Lib.hid (show dd = dpw m 0 from hdd)
 have LC := Lib.hid hcl
 have GC := Lib.hid hcf.gd
 have Q1 := Lib.hid q1
 have hb' : wrap64 (8 + wrap64 ((IntKind.u64.wrap p).tmod 73)) = (bits : Int) := hb
 have hq' : wrap64 ((IntKind.u64.wrap k).tmod 9) = (qn : Int) := hq
 clear hm hb hq hT hcf hcl hsv hdd E hm1 hm2 b1 b2 q1 hm15
 go_enter Tryz.func6, Tryz.ntmps6
 go_upto_region 3 with fail
 rw [hm0, hb']
 clear hm0 hb'
 go_wp2_with fail
 refine (OF.out _ (Below.refl _ _)).mono ?_
 rintro e w1 ⟨q1, u, rfl, hd⟩
 obtain ⟨P1, l1, d1, rfl, hd⟩ := dyR_split hd
 simp only []
 obtain ⟨V1, hV1, kV1, hb1, lV1⟩ := boxD w1 (.bool dd.neg) (.slice P1 l1 d1) (.int .i64 dd.e)
 have HV := Lib.hid hV1
 have KA := Lib.hid (q1.trans kV1)
 have B1 := Lib.hid hb1
 have D1 := Lib.hid (hd.kept kV1)
 clear hV1 hb1 hd q1 kV1 lV1 OF
 go_upto_region 4 with fail
 rw [← HV.out]
 clear HV
 obtain ⟨V2, hV2, kV2, b0, b1, b2⟩ := boxTJ V1 #[.int .i64 3, .int .i64 0, .int .i64 0, .bool false, .slice none 0 0, .int .i64 0, .bool false, .slice none 0 0, .int .i64 0, .int .i64 8, .int .i64 0, .int .i64 0, .bool false, .slice none 0 0, .int .i64 0, .bool false, .slice none 0 0, .int .i64 0] 1 2
 have HB2 := Lib.hid hV2
 have K2 := Lib.hid (KA.out.trans kV2)
 have BT := Lib.hid b2
 have TP := Lib.hid (show TpR V2 (.agg #[.slice (some ⟨V1.heap.size, 0, none⟩) 2 2, .slice (some ⟨V1.heap.size + 1, 0, none⟩) 1 1]) tM [1] from ⟨_, _, rfl, lnJ2 b0, insJ1 b1⟩)
 replace B1 := Lib.hid (B1.out.kept kV2)
 replace D1 := Lib.hid (D1.out.kept kV2)
 clear hV2 kV2 b0 b1 b2 KA
 go_upto_region 6 with fail
 rw [← HB2.out, hq']
 clear HB2 hq'
 generalize V1.heap.size + 1 + 1 = n3 at *
 generalize V1.heap.size + 1 = n2 at *
 generalize V1.heap.size = n0 at *
 generalize w1.heap.size = n1 at *
 refine region_lin (m := 13) (V := VL [(vE (.agg #[.slice (some ⟨n0, 0, none⟩) 2 2, .slice (some ⟨n2, 0, none⟩) 1 1])), (vE (.agg #[.bool false, .slice none 0 0, .int .i64 0, .bool false, .slice none 0 0, .int .i64 0])), (vE (.agg #[.bool dd.neg, .slice P1 l1 d1, .int .i64 dd.e])), (fun v wv => IvR wv v ((pt dd).raw)), (fun v wv => OneI wv v (pt dd).raw), (vE (.int .i64 (qn : Int))), (vE (.int .i64 (bits : Int))), (fun v wv => ∃ vv, v = .tuple #[vv, .int .i64 0] ∧ Rws wv vv [c9]), (fun v wv => ∃ vv, v = .tuple #[vv, .int .i64 0] ∧ Rws wv vv [c9]), (fun v wv => Rws wv v [c9]), (vE (.int .i64 0)), (fun v wv => Rws wv v [c9]), (vE (.int .i64 0))])
  (by kernel_rfl) rfl (by kernel_rfl) (by kernel_rfl) (by kernel_rfl) (mono_of _ ⟨mE, mE, mE, fun v w w' k h => by first | exact h | exact h.kept k | exact ⟨h.1, h.2.kept k⟩, fun v w w' k h => by first | exact h | exact h.kept k | exact ⟨h.1, h.2.kept k⟩, mE, mE, fun v w w' k h => by obtain ⟨d, h1, h2⟩ := h; exact ⟨d, h1, h2.kept k⟩, fun v w w' k h => by obtain ⟨d, h1, h2⟩ := h; exact ⟨d, h1, h2.kept k⟩, fun v w w' k h => by first | exact h | exact h.kept k | exact ⟨h.1, h.2.kept k⟩, mE, fun v w w' k h => by first | exact h | exact h.kept k | exact ⟨h.1, h.2.kept k⟩, mE, trivial⟩) (steps_of ⟨
    (fun aF wF F => by have s11 : aF.tmps.getD 11 undef = (.pointer (some ⟨n3, 0, none⟩)) := F.o 11; have c0 := cell_at BT.out F.kept 0 _ rfl; have c1 := cell_at BT.out F.kept 1 _ rfl; exact sv rfl), (fun aF wF F => by exact sv rfl), (fun aF wF F => by have s9 : aF.tmps.getD 9 undef = (.pointer (some ⟨n1, 0, none⟩)) := F.o 9; have c0 := cell_at B1.out F.kept 0 _ rfl; have c1 := cell_at B1.out F.kept 1 _ rfl; have c2 := cell_at B1.out F.kept 2 _ rfl; exact sv rfl), (fun aF wF F => by have s46 := F.v 2 46; exact sI (iof_c (D1.out.kept F.kept)) fun _ _ h => h), (fun aF wF F => by have s47 := F.p 3 47; obtain ⟨A1, a1, e1, A2, a2, e2, ee, v1', v2'⟩ := ivR_split s47; simp only [Array.getD_eq_getD_getElem?] at ee; exact step_new (by simp [Region.wanted]) (by first | (go_simp; done) | (go_simp; rfl)) (kept_alloc _ _) (oneI_new (r := (pt dd).raw) ⟨_, _, _, _, _, _, rfl, v1', v2'⟩)), (fun aF wF F => by have s12 : aF.tmps.getD 12 undef = (.int .i64 (qn : Int)) := F.o 12; exact sv rfl), (fun aF wF F => by have s8 : aF.tmps.getD 8 undef = (.int .i64 (bits : Int)) := F.o 8; exact sv rfl), (fun aF wF F => by have s44 := F.v 0 44; have s45 := F.v 1 45; have s48 := F.p 4 48; have s49 := F.v 5 49; have s50 := F.v 6 50; exact step_good (by simp [Region.wanted]) (by go_simp) (SV.out _ (K2.out.trans F.kept) _ _ (TP.out.kept F.kept) s48) (fun _ _ h => by obtain ⟨k9, v9, e9, r9⟩ := h; exact ⟨_, e9, k9, v9, rfl, r9⟩) (fun _ _ h => h)), (fun aF wF F => by have s51 := F.p 7 51; exact step_val (by simp [Region.wanted]) rfl s51), (fun aF wF F => by have s43 := F.p 8 43; obtain ⟨d, ee, h1⟩ := s43; exact step_val (by simp [Region.wanted]) (by go_simp) h1), (fun aF wF F => by have s43 := F.p 8 43; exact sw (by obtain ⟨d, ee, h1⟩ := s43; go_simp) rfl), (fun aF wF F => by have s52 := F.p 9 52; exact step_val (by simp [Region.wanted]) rfl s52), (fun aF wF F => by have s53 := F.v 10 53; exact sv rfl),
    trivial⟩) ?_
 intro u w2 q2 hu
 have p47 := hp hu 3
 have p48 := hp hu 4
 have p51 := hp hu 7
 have p43 := hp hu 8
 have p52 := hp hu 9
 have p13 := hp hu 11
 simp only [puts, slotOf, if_true, Act.put, z1, z2, z3, z4, z5, z6, z7, hv hu 0, hv hu 1, hv hu 2, hv hu 5, hv hu 6, hv hu 10, hv hu 12]
 clear hu
 generalize u 3 = v47 at *
 generalize u 4 = v48 at *
 generalize u 7 = v51 at *
 generalize u 8 = v43 at *
 generalize u 9 = v52 at *
 generalize u 11 = v13 at *
 clear p43 p47 p48 p51 p52
 obtain ⟨b3, o3, e3, s3, rfl, -, cell3, hs3⟩ := p13.row (i := 0) (by simp)
 obtain ⟨br, orr, cr, rfl, -, hRG⟩ := (show IvS w2 s3 c9 from hs3).place GC.out (by have := LC.out; omega)
 rw [LC.out, Nat.add_zero] at cell3
 have RG := Lib.hid (fun w1 (k : Kept w2 w1) j (hj : j ≤ qn) => hRG w1 k j (by have := LC.out; omega))
 have CE := Lib.hid cell3
 have K3 := Lib.hid (K2.out.trans q2)
 replace B1 := Lib.hid (B1.out.kept q2)
 replace D1 := Lib.hid (D1.out.kept q2)
 have QW : Hid (IntKind.i64.wrap ((qn : Int) + 1) = (qn : Int) + 1) := Lib.hid (by have := Q1.out; simp [IntKind.wrap_i64]; omega)
 clear hRG hs3 p13 q2 K2 TP BT SV
 have qw := QW.out
 obtain ⟨-, a0, a1, a2, -⟩ := B1.out.facts
 obtain ⟨V3, hV3, kV3, hb3, lV3⟩ := boxD w2 (.bool dd.neg) (.slice P1 l1 d1) (.int .i64 dd.e)
 have HV := Lib.hid hV3
 go_upto_region 10 with fail
 rw [← HV.out]
 clear HV hV3 cell3 qw a0 a1 a2
 have BI := Lib.hid hb3
 have DI := Lib.hid (D1.out.kept kV3)
 have K30 := Lib.hid kV3
 clear hb3 kV3
 generalize hb15 : w2.heap.size = b15 at *
 have HB15 := Lib.hid hb15
 clear hb15 lV3
 rw [D0.out] at BI DI
 go_wp2_with fail
 go_loopw [16] (fun vi wr => ∃ (i : Nat) (P : Option Addr) (l c : Nat), i ≤ qn + 1 ∧ vi = .int .i64 i ∧ Blk wr b15 (.bool (dpw m i).neg) (.slice P l c) (.int .i64 (dpw m i).e) ∧ DyR wr (.agg #[.bool (dpw m i).neg, .slice P l c, .int .i64 (dpw m i).e]) (dpw m i).raw ∧ Kept w2 wr) (fun vi _ => (qn + 1 - intOf vi).toNat)
 case atStart => exact ⟨0, _, _, _, Nat.zero_le _, rfl, BI.out, DI.out, K30.out⟩
 case round =>
  obtain ⟨i, P, l, c, hi, rfl, hbi, hdi, hkr⟩ := hrel
  have KR := Lib.hid hkr
  have HBI := Lib.hid hbi
  have HDI := Lib.hid hdi
  clear hkr hbi hdi BI DI K30
  by_cases hiq : i ≤ qn
  ·have HIQ := Lib.hid hiq
   obtain ⟨d1', hd1⟩ : ∃ d, d = dpw m i := ⟨_, rfl⟩
   obtain ⟨d2', hd2⟩ : ∃ d, d = dpw m (i + 1) := ⟨_, rfl⟩
   have HS := Lib.hid (fun w1 v u (hv : IvR w1 v (gI c9 i).raw) (hu : DyR w1 u d1'.raw) => HAS.out i hiq w1 v u hv (by rw [← hd1]; exact hu))
   have ML := Lib.hid (fun w1 (k : Kept w w1) v u (hv : DyR w1 v d1'.raw) (hu : DyR w1 u dd.raw) => show Calls Tryz.prog 23 #[v, u] w1 (RetE ⟨d2'.raw, 0⟩ w1) by rw [hd2]; exact MUL.out i hiq w1 k v u (by rw [← hd1]; exact hv) hu)
   rw [← hd1] at HBI HDI
   have D2E := Lib.hid hd2
   clear hd1 hd2 hiq
   go_wp2_with fail
   refine region_lin (m := 9) (V := VL [(vE (.slice (some ⟨b3, o3, none⟩) 1 e3)), (vE (.pointer (some ⟨b3, o3, none⟩))), (vE (.slice (some ⟨br, orr, none⟩) (qn + 1) cr)), (vE (.int .i64 (i : Int))), (vE (.pointer (some ⟨br, orr + i * 6, none⟩))), (fun v wv => IvR wv v ((gI c9 i).raw)), (vE (.agg #[.bool d1'.neg, .slice P l c, .int .i64 d1'.e])), (vE (.bool true)), (vE (.bool false))])
    (by kernel_rfl) rfl (by kernel_rfl) (by kernel_rfl) (by kernel_rfl) (mono_of _ ⟨mE, mE, mE, mE, mE, fun v w w' k h => by first | exact h | exact h.kept k | exact ⟨h.1, h.2.kept k⟩, mE, mE, mE, trivial⟩) (steps_of ⟨
      (fun aF wF F => by have s13 : aF.tmps.getD 13 undef = (.slice (some ⟨b3, o3, none⟩) 1 e3) := F.o 13; exact sv rfl), (fun aF wF F => by have s80 := F.v 0 80; exact sv rfl), (fun aF wF F => by have s81 := F.v 1 81; exact sw (by (have n0 := cellKJ CE.out (KR.out.trans F.kept); go_simp)) rfl), (fun aF wF F => by have s16 : aF.tmps.getD 16 undef = (.int .i64 (i : Int)) := F.o 16; exact sv rfl), (fun aF wF F => by have s82 := F.v 2 82; have s83 := F.v 3 83; exact sw (by (have hi9 := HIQ.out; go_simp; omega)) rfl), (fun aF wF F => by have s84 := F.v 4 84; obtain ⟨xx, yy, zz, xx', yy', zz', h0, h1, h2, h3, h4, h5, hI⟩ := (RG.out _ (KR.out.trans F.kept) i HIQ.out); exact step_val (by simp [Region.wanted]) (by go_simp) hI), (fun aF wF F => by have s15 : aF.tmps.getD 15 undef = (.pointer (some ⟨b15, 0, none⟩)) := F.o 15; have c0 := cell_at HBI.out F.kept 0 _ rfl; have c1 := cell_at HBI.out F.kept 1 _ rfl; have c2 := cell_at HBI.out F.kept 2 _ rfl; exact sv rfl), (fun aF wF F => by have s85 := F.p 5 85; have s86 := F.v 6 86; exact sK (HS.out _ _ _ s85 (HDI.out.kept F.kept)) fun _ _ h => h), (fun aF wF F => by have s87 := F.v 7 87; exact sv rfl),
      trivial⟩) ?_
   intro u w6 q6 hu
   have p85 := hp hu 5
   simp only [puts, slotOf, if_true, Act.put, z1, z2, z3, z4, z5, z6, z7, hv hu 0, hv hu 1, hv hu 2, hv hu 3, hv hu 4, hv hu 6, hv hu 7, hv hu 8]
   clear hu
   generalize u 5 = v85 at *
   clear p85
   have K6 := Lib.hid (KR.out.trans q6)
   replace HBI := Lib.hid (HBI.out.kept q6)
   replace HDI := Lib.hid (HDI.out.kept q6)
   clear q6 KR HS
   have BD := Lib.hid (B1.out.kept K6.out)
   have DD := Lib.hid (D1.out.kept K6.out)
   obtain ⟨-, a0, a1, a2, -⟩ := HBI.out.facts
   obtain ⟨-, c0, c1, c2, -⟩ := BD.out.facts
   go_wp2_with fail
   refine (ML.out _ (K3.out.trans K6.out) _ _ HDI.out DD.out).mono ?_
   rintro e w7 ⟨q7, u7, rfl, hd7⟩
   obtain ⟨P7, t7, k7, rfl, hd7⟩ := dyR_split hd7
   simp only []
   obtain ⟨V7, hV7, kV7, hb7, lV7⟩ := boxD w7 (.bool d2'.neg) (.slice P7 t7 k7) (.int .i64 d2'.e)
   have HV := Lib.hid hV7
   have K7 := Lib.hid (K6.out.trans (q7.trans kV7))
   have B7 := Lib.hid hb7
   have D7 := Lib.hid (hd7.kept kV7)
   replace HBI := Lib.hid (HBI.out.kept (q7.trans kV7))
   clear hV7 hb7 hd7 q7 kV7 lV7 a0 a1 a2 c0 c1 c2 BD DD HDI K6 ML
   go_upto_region 16 with fail
   rw [← HV.out]
   clear HV
   generalize w7.heap.size = b17 at *
   obtain ⟨-, a0, a1, a2, f0, f1, f2⟩ := HBI.out.facts
   obtain ⟨-, c0, c1, c2, -⟩ := B7.out.facts
   go_upto_region 12 with fail
   change Code.wp _ _ _ _ (dyW V7 b15 (.bool d2'.neg) (.slice P7 t7 k7) (.int .i64 d2'.e))
   have HZ := Lib.hid (HBI.out.laid (.bool d2'.neg) (.slice P7 t7 k7) (.int .i64 d2'.e))
   have HY := Lib.hid (D7.out.dyW HBI.out (noLimb_bool _) (noLimb_slice _ _ _) (noLimb_i64 _) (.bool d2'.neg) (.slice P7 t7 k7) (.int .i64 d2'.e))
   have HX := Lib.hid (show Kept w2 (dyW V7 b15 (.bool d2'.neg) (.slice P7 t7 k7) (.int .i64 d2'.e)) from dyW_kept K7.out (Nat.le_of_eq HB15.out))
   clear HBI D7 B7 K7 a0 a1 a2 f0 f1 f2 c0 c1 c2
   generalize dyW V7 b15 (.bool d2'.neg) (.slice P7 t7 k7) (.int .i64 d2'.e) = Y at *
   rw [D2E.out] at HZ HY
   clear D2E
   go_wp2_with fail
   go_roundw
   case rel => exact ⟨i + 1, P7, t7, k7, Nat.succ_le_succ HIQ.out, congrArg _ (w64_succK (Nat.lt_of_le_of_lt HIQ.out Q1.out)), HZ.out, HY.out, HX.out⟩
   case measure =>
    rw [w64_succK (Nat.lt_of_le_of_lt HIQ.out Q1.out)]
    simp only [intOf]
    exact meas_ltK HIQ.out
  ·obtain rfl : i = qn + 1 := by omega
   go_wp2_with fail
   refine (told9_c ops689 (.inr (.inr rfl)) (T.out.kept (K3.out.trans KR.out))).mono ?_
   rintro e w14 ⟨rfl, q⟩
   simp only []
   go_wp2_with fail
   go_ret
   exact ⟨rfl, K3.out.trans (KR.out.trans q)⟩
end Go.Proofs.YtgododcbmkpbjaaGreatDoor
