/- JetExp: of x' = x the coefficients hold 1 / n!, times x. -/
import Derived.Test.YtgododcbmkpbjaaGreatDoorClaimJexpp42
import Derived.Test.YtgododcbmkpbjaaGreatDoorClaimJexpp43
import Derived.Deep.CutBlock
set_option maxRecDepth 100000
set_option maxHeartbeats 16000000
namespace Go.Proofs.YtgododcbmkpbjaaGreatDoor
open Go.RowKit
theorem dup {A B G : Prop} (a : G → A) (b : G → B) (g : G) : A ∧ B := ⟨a g, b g⟩
theorem w64_succ {i : Nat} (h : i < 9) : wrap64 ((i : Int) + 1) = ((i + 1 : Nat) : Int) := by unfold wrap64; omega
theorem meas_lt {i q : Nat} (h : i ≤ q) : ((q : Int) + 1 - ((i + 1 : Nat) : Int)).toNat < ((q : Int) + 1 - (i : Int)).toNat := by omega
def fac : Nat → Nat
 | 0 => 1
 | n + 1 => fac n * (n + 1)
theorem facS {i f : Nat} (h : f = fac i) : Value.int .i64 (f : Int) = .int .i64 ((fac (i + 1 - 1) : Nat) : Int) := by rw [Nat.add_sub_cancel, h]
theorem fac_le : ∀ i, i ≤ 8 → fac i ≤ 40320 ∧ 1 ≤ fac i := by decide
theorem fac_eF (x : Rat) : ∀ i, ((fac i : Int) : Rat) * eF x i = x
 | 0 => by
   have : (((1 : Nat) : Int) : Rat) = 1 := rfl
   show (((1 : Nat) : Int) : Rat) * x = x
   rw [this, Rat.one_mul]
 | n + 1 => by
   have h := fac_eF x n
   have h0 := nat_ne n
   show (((fac n * (n + 1) : Nat) : Int) : Rat) * (eF x n / (((n + 1 : Nat) : Int) : Rat)) = x
   rw [Int.natCast_mul, Rat.intCast_mul]
   grind
/-- What is reckoned with a coefficient. -/
theorem exp_pack {m : Int} {q : Nat} {c9 : List RawI} (hq : q ≤ 8) (hc : Cf (eF (dyz m (-3)).q) (fun n => 3 + 85 * n) (fun n => 2 + 3 * n) c9) (hl : c9.length = q + 1) {i : Nat} (hi : i ≤ q) :
 ∃ (ld hd : Dy), (∀ w v u, DyR w v (gI c9 i).lo.raw → DyR w u (dyz (fac i : Int) 0).raw → Tab w → Calls Tryz.prog 23 #[v, u] w (RetE ⟨ld.raw, 0⟩ w)) ∧
   (∀ w v u, DyR w v (gI c9 i).hi.raw → DyR w u (dyz (fac i : Int) 0).raw → Tab w → Calls Tryz.prog 23 #[v, u] w (RetE ⟨hd.raw, 0⟩ w)) ∧
   (∃ k1 : Int, decide (0 < k1) = false ∧ ∀ w v u, DyR w v ld.raw → DyR w u (dyz m (-3)).raw → Calls Tryz.prog 21 #[v, u] w (RetK (.int .i64 k1) w)) ∧
   (∃ k2 : Int, decide (0 < k2) = false ∧ ∀ w v u, DyR w v (dyz m (-3)).raw → DyR w u hd.raw → Calls Tryz.prog 21 #[v, u] w (RetK (.int .i64 k2) w)) := by
 obtain ⟨⟨ok, -⟩, rg, mem⟩ := hc i (by omega)
 obtain ⟨f1, f2⟩ := fac_le i (by omega)
 have hz : SmZ (fac i : Int) 0 := ⟨by have : (2 : Nat) ^ 60 = 1152921504606846976 := rfl; omega, by decide, by decide⟩
 have hb : bl (fac i) ≤ 16 := bl_le _ _ (by omega)
 have hy : Rg (dyz (fac i : Int) 0) 0 16 := (fitD_rg (fun _ => by omega) (fun _ => by rw [Int.natAbs_natCast]; omega) (by rw [Int.natAbs_natCast]; omega) (by decide) (by decide)).2
 replace rg : RgI (gI c9 i) (3 + 85 * (i : Int)) (2 + 3 * (i : Int)) := rg
 obtain ⟨kl, rl⟩ := mulD_rg rg.lo hy (by omega) (by omega) (by omega)
 obtain ⟨kh, rh⟩ := mulD_rg rg.hi hy (by omega) (by omega) (by omega)
 have yok := dyz_ok (fac i : Int) 0
 have ql := mulD_q kl
 have qh := mulD_q kh
 rw [dyz_q hz, pw_zero, Rat.mul_one] at ql qh
 have hx := fac_eF (dyz m (-3)).q i
 have hf : (0 : Rat) ≤ ((fac i : Int) : Rat) := by
  have : ((0 : Int) : Rat) ≤ ((fac i : Int) : Rat) := Rat.intCast_le_intCast.2 (by omega)
  exact this
 have m1 := Rat.mul_le_mul_of_nonneg_right mem.1 hf
 have m2 := Rat.mul_le_mul_of_nonneg_right mem.2 hf
 rw [Rat.mul_comm (eF _ i), hx] at m1 m2
 refine ⟨(mulD (gI c9 i).lo (dyz (fac i : Int) 0)).v, (mulD (gI c9 i).hi (dyz (fac i : Int) 0)).v, fun w v u h1 h2 h3 => ?_, fun w v u h1 h2 h3 => ?_, ⟨_, decide_eq_false (fun hh => ?_), fun w v u h1 h2 => dcmp_c h1 h2 rl.ok (dyz_ok _ _)⟩, ⟨_, decide_eq_false (fun hh => ?_), fun w v u h1 h2 => dcmp_c h1 h2 (dyz_ok _ _) rh.ok⟩⟩
 ·have h := Mul_c h1 h2 ok.lo yok h3
  rw [k0_eq kl rfl] at h
  exact h
 ·have h := Mul_c h1 h2 ok.hi yok h3
  rw [k0_eq kh rfl] at h
  exact h
 ·rw [cmpQ_gt, ql] at hh
  grind
 ·rw [cmpQ_gt, qh] at hh
  grind
/-- Divisions alone. -/
def S9 (op : Int) : Prop := op = 9
theorem ops9 : OpsC S9 :=
 ⟨fun h => absurd h (by unfold S9; decide), fun h => absurd h (by unfold S9; decide), fun h => absurd h (by unfold S9; decide), fun _ _ _ _ _ _ _ => Div_k, fun h => absurd h (by unfold S9; decide), fun h => absurd h (by unfold S9; decide), fun h => absurd h (by unfold S9; decide)⟩
/-- What Solve makes in JetExp. -/
theorem expS {m : Int} {p q : Nat} (h : E8 m p) (hq : q ≤ 8) : ∃ c9, Cf (eF (dyz m (-3)).q) (fun n => 3 + 85 * n) (fun n => 2 + 3 * n) c9 ∧ c9.length = q + 1 ∧
 ∀ w1 vt vx, TpR w1 vt tE [0] → OneI w1 vx (pt (dyz m (-3))).raw → Tab w1 → Calls Tryz.prog 24 #[vt, .agg #[.bool false, .slice none 0 0, .int .i64 0, .bool false, .slice none 0 0, .int .i64 0], vx, .slice none 0 0, .int .i64 (q : Int), .int .i64 (p : Int)] w1 (RetLL ⟨[c9], 0⟩ w1) := by
 have h1 := h.p1
 have h2 := h.p2
 obtain ⟨c9, hst, hc, hl⟩ := stepE (ov := fun _ _ => ⟨iz, 0⟩) h hq []
 refine ⟨c9, hc, hl, fun w1 vt vx ht hx hT => ?_⟩
 exact solve_one (ov := fun _ _ => ⟨iz, 0⟩) (time := []) ops9 rfl ht hx ⟨by rw [Iv.raw_iv]; exact pt_ok (dyz_ok _ _), by rw [Iv.raw_iv]⟩ lnOk_E (by decide) rfl (by intro n hn; simp only [List.mem_singleton] at hn; subst hn; decide)
  (by unfold withinJ; simp only [Bool.and_eq_true, decide_eq_true_eq]; omega) rfl (fun n c hn gc hc => linC_E gc hc (by omega) (by omega) (by omega)) hT (by rw [Iv.raw_iv]; exact (e8_first h).2.1.1) (by rw [Iv.raw_iv]; exact hst)
theorem jexp_c {w : World} {n k p : Int} (hT : Tab w) : Calls Tryz.prog 7 #[.int .i64 n, .int .i64 k, .int .i64 p] w (RetK (.bool true) w) := by
 have T := Lib.hid hT
 obtain ⟨hm0, hm1, hm2⟩ := kzJ_eq n (m := 31) (c := 15) (by decide) (by decide) (by decide) (by decide)
 obtain ⟨m, hm⟩ : ∃ m, m = kzJ 31 15 n := ⟨_, rfl⟩
 rw [← hm] at hm0 hm1 hm2
 obtain ⟨bits, hb, b1, b2⟩ := nJ_of p 10 71 (by decide) (by decide)
 obtain ⟨qn, hq, q1⟩ := qJ_of k 9 (by decide) (by decide)
 have E := Lib.hid (show E8 m bits from ⟨by omega, by omega, by omega⟩)
 obtain ⟨c9, hcf, hcl, hsv⟩ := expS E.out (show qn ≤ 8 by omega)
 obtain ⟨dd, hdd⟩ : ∃ d, d = dyz m (-3) := ⟨_, rfl⟩
 have OF := Lib.hid (fun w1 (k : Kept w w1) => show Calls Tryz.prog 13 #[.int .i64 m, .int .i64 (-3)] w1 (RetE ⟨dd.raw, 0⟩ w1) by rw [hdd]; exact dof_zJ (by omega) (by decide) (by decide) (hT.kept k))
 have OG := Lib.hid (fun w1 (k : Kept w w1) i (hi : i ≤ 8) => show Calls Tryz.prog 13 #[.int .i64 (fac i : Int), .int .i64 0] w1 (RetE ⟨(dyz (fac i : Int) 0).raw, 0⟩ w1) from dof_zJ (by have := fac_le i hi; omega) (by decide) (by decide) (hT.kept k))
 have SV := Lib.hid (fun w1 (k : Kept w w1) vt vx (ht : TpR w1 vt tE [0]) (hx : OneI w1 vx (pt dd).raw) => hsv w1 vt vx ht (by rw [← hdd]; exact hx) (hT.kept k))
 have PK := Lib.hid (fun i (hi : i ≤ qn) => exp_pack (show qn ≤ 8 by omega) hcf hcl hi)
 rw [← hdd] at PK
 have LC := Lib.hid hcl
 have GC := Lib.hid hcf.gd
 have Q1 := Lib.hid q1
 have hb' : wrap64 (10 + wrap64 ((IntKind.u64.wrap p).tmod 71)) = (bits : Int) := hb
 have hq' : wrap64 ((IntKind.u64.wrap k).tmod 9) = (qn : Int) := hq
 clear hm hb hq hT hcf hcl hsv hdd E hm1 hm2 b1 b2 q1
 go_enter Tryz.func7, Tryz.ntmps7
 go_upto_region 3 with fail
 rw [hm0, hb', hq']
 clear hm0 hb' hq'
 go_wp2_with fail
 refine (OF.out _ (Below.refl _ _)).mono ?_
 rintro e w1 ⟨q1, u, rfl, hd⟩
 obtain ⟨P1, l1, d1, rfl, hd⟩ := dyR_split hd
 simp only []
 obtain ⟨V1, hV1, kV1, hb1, lV1⟩ := boxD w1 (.bool dd.neg) (.slice P1 l1 d1) (.int .i64 dd.e)
 have HV := Lib.hid hV1
 have KA := Lib.hid (q1.trans kV1)
 have B1 := Lib.hid hb1
 have D1 := Lib.hid (hd.kept kV1)
 clear hV1 hb1 hd q1 kV1 lV1 OF
 go_upto_region 4 with fail
 rw [← HV.out]
 clear HV
 obtain ⟨V2, hV2, kV2, b0, b1, b2⟩ := boxTJ V1 #[.int .i64 3, .int .i64 0, .int .i64 0, .bool false, .slice none 0 0, .int .i64 0, .bool false, .slice none 0 0, .int .i64 0] 0 1
 have HB2 := Lib.hid hV2
 have K2 := Lib.hid (KA.out.trans kV2)
 have BT := Lib.hid b2
 have TP := Lib.hid (show TpR V2 (.agg #[.slice (some ⟨V1.heap.size, 0, none⟩) 1 1, .slice (some ⟨V1.heap.size + 1, 0, none⟩) 1 1]) tE [0] from ⟨_, _, rfl, lnJ1 b0, insJ1 b1⟩)
 replace B1 := Lib.hid (B1.out.kept kV2)
 replace D1 := Lib.hid (D1.out.kept kV2)
 clear hV2 kV2 b0 b1 b2 KA
 go_upto_region 5 with fail
 rw [← HB2.out]
 clear HB2
 generalize V1.heap.size + 1 + 1 = n3 at *
 generalize V1.heap.size + 1 = n2 at *
 generalize V1.heap.size = n0 at *
 generalize w1.heap.size = n1 at *
 refine region_lin (m := 13) (V := VL [(vE (.agg #[.slice (some ⟨n0, 0, none⟩) 1 1, .slice (some ⟨n2, 0, none⟩) 1 1])), (vE (.agg #[.bool false, .slice none 0 0, .int .i64 0, .bool false, .slice none 0 0, .int .i64 0])), (vE (.agg #[.bool dd.neg, .slice P1 l1 d1, .int .i64 dd.e])), (fun v wv => IvR wv v ((pt dd).raw)), (fun v wv => OneI wv v (pt dd).raw), (vE (.int .i64 (qn : Int))), (vE (.int .i64 (bits : Int))), (fun v wv => ∃ vv, v = .tuple #[vv, .int .i64 0] ∧ Rws wv vv [c9]), (fun v wv => ∃ vv, v = .tuple #[vv, .int .i64 0] ∧ Rws wv vv [c9]), (fun v wv => Rws wv v [c9]), (vE (.int .i64 0)), (fun v wv => Rws wv v [c9]), (vE (.int .i64 0))])
  (by kernel_rfl) rfl (by kernel_rfl) (by kernel_rfl) (by kernel_rfl) (mono_of _ ⟨mE, mE, mE, fun v w w' k h => by first | exact h | exact h.kept k | exact ⟨h.1, h.2.kept k⟩, fun v w w' k h => by first | exact h | exact h.kept k | exact ⟨h.1, h.2.kept k⟩, mE, mE, fun v w w' k h => by obtain ⟨d, h1, h2⟩ := h; exact ⟨d, h1, h2.kept k⟩, fun v w w' k h => by obtain ⟨d, h1, h2⟩ := h; exact ⟨d, h1, h2.kept k⟩, fun v w w' k h => by first | exact h | exact h.kept k | exact ⟨h.1, h.2.kept k⟩, mE, fun v w w' k h => by first | exact h | exact h.kept k | exact ⟨h.1, h.2.kept k⟩, mE, trivial⟩) (steps_of ⟨
    (fun aF wF F => by have s12 : aF.tmps.getD 12 undef = (.pointer (some ⟨n3, 0, none⟩)) := F.o 12; have c0 := cell_at BT.out F.kept 0 _ rfl; have c1 := cell_at BT.out F.kept 1 _ rfl; exact sv rfl), (fun aF wF F => by exact sv rfl), (fun aF wF F => by have s10 : aF.tmps.getD 10 undef = (.pointer (some ⟨n1, 0, none⟩)) := F.o 10; have c0 := cell_at B1.out F.kept 0 _ rfl; have c1 := cell_at B1.out F.kept 1 _ rfl; have c2 := cell_at B1.out F.kept 2 _ rfl; exact sv rfl), (fun aF wF F => by have s49 := F.v 2 49; exact sI (iof_c (D1.out.kept F.kept)) fun _ _ h => h), (fun aF wF F => by have s50 := F.p 3 50; obtain ⟨A1, a1, e1, A2, a2, e2, ee, v1', v2'⟩ := ivR_split s50; simp only [Array.getD_eq_getD_getElem?] at ee; exact step_new (by simp [Region.wanted]) (by first | (go_simp; done) | (go_simp; rfl)) (kept_alloc _ _) (oneI_new (r := (pt dd).raw) ⟨_, _, _, _, _, _, rfl, v1', v2'⟩)), (fun aF wF F => by have s9 : aF.tmps.getD 9 undef = (.int .i64 (qn : Int)) := F.o 9; exact sv rfl), (fun aF wF F => by have s8 : aF.tmps.getD 8 undef = (.int .i64 (bits : Int)) := F.o 8; exact sv rfl), (fun aF wF F => by have s47 := F.v 0 47; have s48 := F.v 1 48; have s51 := F.p 4 51; have s52 := F.v 5 52; have s53 := F.v 6 53; exact step_good (by simp [Region.wanted]) (by go_simp) (SV.out _ (K2.out.trans F.kept) _ _ (TP.out.kept F.kept) s51) (fun _ _ h => by obtain ⟨k9, v9, e9, r9⟩ := h; exact ⟨_, e9, k9, v9, rfl, r9⟩) (fun _ _ h => h)), (fun aF wF F => by have s54 := F.p 7 54; exact step_val (by simp [Region.wanted]) rfl s54), (fun aF wF F => by have s46 := F.p 8 46; obtain ⟨d, ee, h1⟩ := s46; exact step_val (by simp [Region.wanted]) (by go_simp) h1), (fun aF wF F => by have s46 := F.p 8 46; exact sw (by obtain ⟨d, ee, h1⟩ := s46; go_simp) rfl), (fun aF wF F => by have s55 := F.p 9 55; exact step_val (by simp [Region.wanted]) rfl s55), (fun aF wF F => by have s56 := F.v 10 56; exact sv rfl),
    trivial⟩) ?_
 intro u w2 q2 hu
 have p50 := hp hu 3
 have p51 := hp hu 4
 have p54 := hp hu 7
 have p46 := hp hu 8
 have p55 := hp hu 9
 have p13 := hp hu 11
 simp only [puts, slotOf, if_true, Act.put, z1, z2, z3, z4, z5, z6, z7, hv hu 0, hv hu 1, hv hu 2, hv hu 5, hv hu 6, hv hu 10, hv hu 12]
 clear hu
 generalize u 3 = v50 at *
 generalize u 4 = v51 at *
 generalize u 7 = v54 at *
 generalize u 8 = v46 at *
 generalize u 9 = v55 at *
 generalize u 11 = v13 at *
 clear p46 p50 p51 p54 p55
 obtain ⟨b3, o3, e3, s3, rfl, -, cell3, hs3⟩ := p13.row (i := 0) (by simp)
 obtain ⟨br, orr, cr, rfl, -, hRG⟩ := (show IvS w2 s3 c9 from hs3).place GC.out (by have := LC.out; omega)
 rw [LC.out, Nat.add_zero] at cell3
 have RG := Lib.hid (fun w1 (k : Kept w2 w1) j (hj : j ≤ qn) => hRG w1 k j (by have := LC.out; omega))
 have CE := Lib.hid cell3
 have K3 := Lib.hid (K2.out.trans q2)
 replace B1 := Lib.hid (B1.out.kept q2)
 replace D1 := Lib.hid (D1.out.kept q2)
 have QW : Hid (IntKind.i64.wrap ((qn : Int) + 1) = (qn : Int) + 1) := Lib.hid (by have := Q1.out; simp [IntKind.wrap_i64]; omega)
 clear hRG hs3 p13 q2 K2 TP BT SV
 have qw := QW.out
 go_wp2_with fail
 clear cell3 qw
 go_loopw [15, 16] (fun vf vi wr => ∃ i : Nat, i ≤ qn + 1 ∧ vi = .int .i64 i ∧ vf = .int .i64 (fac (i - 1) : Int) ∧ Kept w2 wr) (fun _ vi _ => (qn + 1 - intOf vi).toNat)
 case atStart => exact ⟨0, Nat.zero_le _, rfl, rfl, Below.refl _ _⟩
 case round =>
  obtain ⟨i, hi, rfl, rfl, hkr⟩ := hrel
  have KR := Lib.hid hkr
  clear hkr
  by_cases hiq : i ≤ qn
  ·have HIQ := Lib.hid hiq
   obtain ⟨ld, hd, hML, hMH, ⟨k1, hk1, hCL⟩, ⟨k2, hk2, hCH⟩⟩ := PK.out i hiq
   obtain ⟨f, hf⟩ : ∃ f, f = fac i := ⟨_, rfl⟩
   obtain ⟨yd, hyd⟩ : ∃ y, y = dyz (fac i : Int) 0 := ⟨_, rfl⟩
   rw [← hyd] at hML hMH
   have OY := Lib.hid (fun w1 (k : Kept w w1) => show Calls Tryz.prog 13 #[.int .i64 (f : Int), .int .i64 0] w1 (RetE ⟨yd.raw, 0⟩ w1) by rw [hyd, hf]; exact OG.out w1 k i (by have := Q1.out; omega))
   have ML := Lib.hid hML
   have MH := Lib.hid hMH
   have CL := Lib.hid hCL
   have CH := Lib.hid hCH
   have KK1 := Lib.hid hk1
   have KK2 := Lib.hid hk2
   have hrg := RG.out _ KR.out i hiq
   obtain ⟨x0, x1, x2, x3, x4, x5, t0, t1, t2, t3, t4, t5, hI3⟩ := hrg
   obtain ⟨B2, f1, f2, B3, f3, f4, hh, dlo, dhi⟩ := ivR_split hI3
   simp only [Value.agg.injEq, List.cons.injEq, Array.mk.injEq, and_true] at hh
   obtain ⟨rfl, rfl, rfl, rfl, rfl, rfl⟩ := hh
   have HS := Lib.hid (show Six wr br (orr + i * 6) (.bool (gI c9 i).raw.lo.neg) (.slice B2 f1 f2) (.int .i64 (gI c9 i).raw.lo.e) (.bool (gI c9 i).raw.hi.neg) (.slice B3 f3 f4) (.int .i64 (gI c9 i).raw.hi.e) from ⟨t0, t1, t2, t3, t4, t5⟩)
   have DLO := Lib.hid dlo
   have DHI := Lib.hid dhi
   have HF := Lib.hid hf
   clear hML hMH hCL hCH hk1 hk2 hI3 t0 t1 t2 t3 t4 t5 dlo dhi hyd hiq hf
   have hfm : ∀ j : Nat, i = j + 1 → wrap64 ((fac (i - 1) : Int) * (i : Int)) = (f : Int) := by
    intro j hj
    subst hj
    have := (fac_le (j + 1) (by have := HIQ.out; have := Q1.out; omega)).1
    have e : ((fac (j + 1 - 1) : Nat) : Int) * ((j + 1 : Nat) : Int) = (f : Int) := by rw [HF.out]; show ((fac j : Nat) : Int) * ((j + 1 : Nat) : Int) = ((fac j * (j + 1) : Nat) : Int); rw [Int.natCast_mul]
    rw [e]
    rw [← HF.out] at this
    unfold wrap64; omega
   have hf0 : i = 0 → (fac (i - 1) : Int) = (f : Int) := fun h => by rw [HF.out, h]
   go_upto_if 83 with fail
   go_cut [15] (fun t wx => t = .int .i64 (f : Int) ∧ Kept wr wx)
   case first =>
    go_wp2_with fail
    ·go_meet
     exact ⟨congrArg _ (hfm (i - 1) (by omega)), Below.refl _ _⟩
    ·go_meet
     exact ⟨congrArg _ (hf0 (by omega)), Below.refl _ _⟩
   obtain ⟨rfl, kc⟩ := hcut
   clear hfm hf0
   have KC := Lib.hid (KR.out.trans kc)
   replace HS := Lib.hid (HS.out.kept kc)
   replace DLO := Lib.hid (DLO.out.kept kc)
   replace DHI := Lib.hid (DHI.out.kept kc)
   clear kc KR
   go_wp2_with fail
   refine (OY.out _ (K3.out.trans KC.out)).mono ?_
   rintro e w7 ⟨q7, u, rfl, hd'⟩
   obtain ⟨P7, t7, k7, rfl, hd'⟩ := dyR_split hd'
   simp only []
   obtain ⟨V7, hV7, kV7, hb7, lV7⟩ := boxD w7 (.bool yd.neg) (.slice P7 t7 k7) (.int .i64 yd.e)
   have HV := Lib.hid hV7
   have kk := q7.trans kV7
   replace HS := Lib.hid (HS.out.kept kk)
   replace DLO := Lib.hid (DLO.out.kept kk)
   replace DHI := Lib.hid (DHI.out.kept kk)
   have K4 := Lib.hid (KC.out.trans kk)
   have BW := Lib.hid hb7
   have DW := Lib.hid (hd'.kept kV7)
   clear hV7 hb7 hd' q7 kV7 kk KC OY lV7
   go_upto_region 15 with fail
   rw [← HV.out]
   clear HV
   generalize w7.heap.size = b27 at *
   refine region_lin2e (e := 11) (m := 13) (V := VL [(vE (.slice (some ⟨b3, o3, none⟩) 1 e3)), (vE (.pointer (some ⟨b3, o3, none⟩))), (vE (.slice (some ⟨br, orr, none⟩) (qn + 1) cr)), (vE (.int .i64 (i : Int))), (vE (.pointer (some ⟨br, orr + i * 6, none⟩))), (vE (.pointer (some ⟨br, orr + i * 6, none⟩))), (vE (.agg #[.bool (gI c9 i).raw.lo.neg, .slice B2 f1 f2, .int .i64 (gI c9 i).raw.lo.e])), (vE (.agg #[.bool yd.neg, .slice P7 t7 k7, .int .i64 yd.e])), (fun v wv => ∃ d, v = .tuple #[d, .int .i64 0] ∧ DyR wv d ld.raw), (fun v wv => ∃ d, v = .tuple #[d, .int .i64 0] ∧ DyR wv d ld.raw), (fun v wv => DyR wv v ld.raw), (vE (.int .i64 0)), (fun v wv => ∃ b, v = .pointer (some ⟨b, 0, none⟩) ∧ V7.heap.size ≤ b ∧ Blk wv b (.bool false) (.slice none 0 0) (.int .i64 0))])
    (by kernel_rfl) rfl rfl rfl rfl rfl rfl rfl (by decide) (by kernel_rfl) (by kernel_rfl) (by kernel_rfl) (by kernel_rfl) (by kernel_rfl) (by kernel_rfl) (mono_of _ ⟨mE, mE, mE, mE, mE, mE, mE, mE, fun v w w' k h => by obtain ⟨d, h1, h2⟩ := h; exact ⟨d, h1, h2.kept k⟩, fun v w w' k h => by obtain ⟨d, h1, h2⟩ := h; exact ⟨d, h1, h2.kept k⟩, mD, mE, fun v w w' k h => by obtain ⟨b, h1, h2, h3⟩ := h; exact ⟨b, h1, h2, h3.kept k⟩, trivial⟩) (steps_of ⟨
      (fun aF wF F => by have s13 : aF.tmps.getD 13 undef = (.slice (some ⟨b3, o3, none⟩) 1 e3) := F.o 13; exact sv rfl), (fun aF wF F => by have s93 := F.v 0 93; exact sv rfl), (fun aF wF F => by have s94 := F.v 1 94; exact sw (by (have n0 := cellKJ CE.out (K4.out.trans F.kept); go_simp)) rfl), (fun aF wF F => by have s16 : aF.tmps.getD 16 undef = (.int .i64 (i : Int)) := F.o 16; exact sv rfl), (fun aF wF F => by have s95 := F.v 2 95; have s96 := F.v 3 96; exact sw (by (have hi9 := HIQ.out; go_simp; omega)) rfl), (fun aF wF F => by have s97 := F.v 4 97; exact sv rfl), (fun aF wF F => by have s98 := F.v 5 98; exact sw (by (obtain ⟨n0, n1, n2, n3, n4, n5⟩ := HS.out.kept F.kept; go_simp)) rfl), (fun aF wF F => by have s17 : aF.tmps.getD 17 undef = (.pointer (some ⟨b27, 0, none⟩)) := F.o 17; have c0 := cell_at BW.out F.kept 0 _ rfl; have c1 := cell_at BW.out F.kept 1 _ rfl; have c2 := cell_at BW.out F.kept 2 _ rfl; exact sv rfl), (fun aF wF F => by have s99 := F.v 6 99; have s100 := F.v 7 100; exact sE (ML.out _ _ _ (DLO.out.kept F.kept) (DW.out.kept F.kept) (T.out.kept (K3.out.trans (K4.out.trans F.kept)))) fun _ _ h => h), (fun aF wF F => by have s101 := F.p 8 101; exact step_val (by simp [Region.wanted]) rfl s101), (fun aF wF F => by have s92 := F.p 9 92; obtain ⟨d, ee, hh⟩ := s92; exact step_val (by simp [Region.wanted]) (by go_simp) hh), (fun aF wF F => by have s92 := F.p 9 92; exact sw (by obtain ⟨d, ee, hh⟩ := s92; go_simp) rfl), (fun aF wF F => by exact step_new (by simp [Region.wanted]) (by go_simp) (kept_alloc _ _) ⟨_, rfl, F.kept.size, blk_new0 _⟩),
      trivial⟩) ?_
   intro u w8 q hu
   have e93 : u 0 = (.slice (some ⟨b3, o3, none⟩) 1 e3) := hu 0 (by decide) (by decide)
   have e94 : u 1 = (.pointer (some ⟨b3, o3, none⟩)) := hu 1 (by decide) (by decide)
   have e95 : u 2 = (.slice (some ⟨br, orr, none⟩) (qn + 1) cr) := hu 2 (by decide) (by decide)
   have e96 : u 3 = (.int .i64 (i : Int)) := hu 3 (by decide) (by decide)
   have e97 : u 4 = (.pointer (some ⟨br, orr + i * 6, none⟩)) := hu 4 (by decide) (by decide)
   have e98 : u 5 = (.pointer (some ⟨br, orr + i * 6, none⟩)) := hu 5 (by decide) (by decide)
   have e99 : u 6 = (.agg #[.bool (gI c9 i).raw.lo.neg, .slice B2 f1 f2, .int .i64 (gI c9 i).raw.lo.e]) := hu 6 (by decide) (by decide)
   have e100 : u 7 = (.agg #[.bool yd.neg, .slice P7 t7 k7, .int .i64 yd.e]) := hu 7 (by decide) (by decide)
   have p101 := hu 8 (by decide) (by decide)
   obtain ⟨v101, e101⟩ : ∃ v, u 8 = v := ⟨_, rfl⟩
   rw [e101] at p101
   try simp only [VL, List.getD_cons_zero, List.getD_cons_succ] at p101
   have p92 := hu 9 (by decide) (by decide)
   obtain ⟨v92, e92⟩ : ∃ v, u 9 = v := ⟨_, rfl⟩
   rw [e92] at p92
   try simp only [VL, List.getD_cons_zero, List.getD_cons_succ] at p92
   have p102 := hu 10 (by decide) (by decide)
   obtain ⟨v102, e102⟩ : ∃ v, u 10 = v := ⟨_, rfl⟩
   rw [e102] at p102
   try simp only [VL, List.getD_cons_zero, List.getD_cons_succ] at p102
   have p19 := hu 12 (by decide) (by decide)
   obtain ⟨v19, e19⟩ : ∃ v, u 12 = v := ⟨_, rfl⟩
   rw [e19] at p19
   try simp only [VL, List.getD_cons_zero, List.getD_cons_succ] at p19
   clear hu
   clear p101
   obtain ⟨bn19, rfl, hbn, hxn⟩ := p19
   obtain ⟨Pn, tn, kn, rfl, zn⟩ := dyR_split p102
   obtain ⟨-, y0', y1', y2', f0', f1', f2'⟩ := hxn.facts
   obtain ⟨dd, rfl, -⟩ := p92
   apply dup
   ·intro G he
    simp only [VL, vE, List.getD_cons_zero, List.getD_cons_succ] at he
    simp only [if_true, puts, slotOf, Act.put, List.setIfInBounds_toArray, List.set_cons_zero, List.set_cons_succ, List.getElem?_toArray, List.getElem?_cons_zero, List.getElem?_cons_succ, Option.bind_some, e93, e94, e95, e96, e97, e98, e99, e100, e101, e92, e102, e19, he]
    go_simp
    exact G
   ·intro G
    simp only [puts, slotOf, Act.put, List.setIfInBounds_toArray, List.set_cons_zero, List.set_cons_succ, List.getElem?_toArray, List.getElem?_cons_zero, List.getElem?_cons_succ, Option.bind_some, e93, e94, e95, e96, e97, e98, e99, e100, e101, e92, e102, e19]
    go_simp
    exact G
   clear e93 e94 e95 e96 e97 e98 e99 e100 e101 e92 e102 e19
   go_upto_region 16 with fail
   change Code.wp _ _ _ _ (dyW w8 bn19 (.bool ld.neg) (.slice Pn tn kn) (.int .i64 ld.e))
   obtain ⟨Y8, hX⟩ : ∃ X, X = dyW w8 bn19 (.bool ld.neg) (.slice Pn tn kn) (.int .i64 ld.e) := ⟨_, rfl⟩
   rw [← hX]
   have BLo := Lib.hid (show Blk Y8 bn19 (.bool ld.neg) (.slice Pn tn kn) (.int .i64 ld.e) by rw [hX]; exact hxn.laid _ _ _)
   have DL2 := Lib.hid (show DyR Y8 (.agg #[.bool ld.neg, .slice Pn tn kn, .int .i64 ld.e]) ld.raw by rw [hX]; exact zn.dyW hxn (noLimb_bool _) (noLimb_slice _ _ _) (noLimb_i64 _) _ _ _)
   replace q : Kept V7 Y8 := by rw [hX]; exact dyW_kept q hbn
   replace K4 := Lib.hid (K4.out.trans q)
   clear hX hbn hxn zn y0' y1' y2' f0' f1' f2'
   replace HS := Lib.hid (HS.out.kept q)
   replace DHI := Lib.hid (DHI.out.kept q)
   replace BW := Lib.hid (BW.out.kept q)
   replace DW := Lib.hid (DW.out.kept q)
   clear q DLO ML
   refine region_lin2e (e := 11) (m := 13) (V := VL [(vE (.slice (some ⟨b3, o3, none⟩) 1 e3)), (vE (.pointer (some ⟨b3, o3, none⟩))), (vE (.slice (some ⟨br, orr, none⟩) (qn + 1) cr)), (vE (.int .i64 (i : Int))), (vE (.pointer (some ⟨br, orr + i * 6, none⟩))), (vE (.pointer (some ⟨br, orr + i * 6 + 3, none⟩))), (vE (.agg #[.bool (gI c9 i).raw.hi.neg, .slice B3 f3 f4, .int .i64 (gI c9 i).raw.hi.e])), (vE (.agg #[.bool yd.neg, .slice P7 t7 k7, .int .i64 yd.e])), (fun v wv => ∃ d, v = .tuple #[d, .int .i64 0] ∧ DyR wv d hd.raw), (fun v wv => ∃ d, v = .tuple #[d, .int .i64 0] ∧ DyR wv d hd.raw), (fun v wv => DyR wv v hd.raw), (vE (.int .i64 0)), (fun v wv => ∃ b, v = .pointer (some ⟨b, 0, none⟩) ∧ Y8.heap.size ≤ b ∧ Blk wv b (.bool false) (.slice none 0 0) (.int .i64 0))])
    (by kernel_rfl) rfl rfl rfl rfl rfl rfl rfl (by decide) (by kernel_rfl) (by kernel_rfl) (by kernel_rfl) (by kernel_rfl) (by kernel_rfl) (by kernel_rfl) (mono_of _ ⟨mE, mE, mE, mE, mE, mE, mE, mE, fun v w w' k h => by obtain ⟨d, h1, h2⟩ := h; exact ⟨d, h1, h2.kept k⟩, fun v w w' k h => by obtain ⟨d, h1, h2⟩ := h; exact ⟨d, h1, h2.kept k⟩, mD, mE, fun v w w' k h => by obtain ⟨b, h1, h2, h3⟩ := h; exact ⟨b, h1, h2, h3.kept k⟩, trivial⟩) (steps_of ⟨
      (fun aF wF F => by have s13 : aF.tmps.getD 13 undef = (.slice (some ⟨b3, o3, none⟩) 1 e3) := F.o 13; exact sv rfl), (fun aF wF F => by have s105 := F.v 0 105; exact sv rfl), (fun aF wF F => by have s106 := F.v 1 106; exact sw (by (have n0 := cellKJ CE.out (K4.out.trans F.kept); go_simp)) rfl), (fun aF wF F => by have s16 : aF.tmps.getD 16 undef = (.int .i64 (i : Int)) := F.o 16; exact sv rfl), (fun aF wF F => by have s107 := F.v 2 107; have s108 := F.v 3 108; exact sw (by (have hi9 := HIQ.out; go_simp; omega)) rfl), (fun aF wF F => by have s109 := F.v 4 109; exact sv rfl), (fun aF wF F => by have s110 := F.v 5 110; exact sw (by (obtain ⟨n0, n1, n2, n3, n4, n5⟩ := HS.out.kept F.kept; go_simp)) rfl), (fun aF wF F => by have s17 : aF.tmps.getD 17 undef = (.pointer (some ⟨b27, 0, none⟩)) := F.o 17; have c0 := cell_at BW.out F.kept 0 _ rfl; have c1 := cell_at BW.out F.kept 1 _ rfl; have c2 := cell_at BW.out F.kept 2 _ rfl; exact sv rfl), (fun aF wF F => by have s111 := F.v 6 111; have s112 := F.v 7 112; exact sE (MH.out _ _ _ (DHI.out.kept F.kept) (DW.out.kept F.kept) (T.out.kept (K3.out.trans (K4.out.trans F.kept)))) fun _ _ h => h), (fun aF wF F => by have s113 := F.p 8 113; exact step_val (by simp [Region.wanted]) rfl s113), (fun aF wF F => by have s104 := F.p 9 104; obtain ⟨d, ee, hh⟩ := s104; exact step_val (by simp [Region.wanted]) (by go_simp) hh), (fun aF wF F => by have s104 := F.p 9 104; exact sw (by obtain ⟨d, ee, hh⟩ := s104; go_simp) rfl), (fun aF wF F => by exact step_new (by simp [Region.wanted]) (by go_simp) (kept_alloc _ _) ⟨_, rfl, F.kept.size, blk_new0 _⟩),
      trivial⟩) ?_
   intro u w9 q hu
   have e105 : u 0 = (.slice (some ⟨b3, o3, none⟩) 1 e3) := hu 0 (by decide) (by decide)
   have e106 : u 1 = (.pointer (some ⟨b3, o3, none⟩)) := hu 1 (by decide) (by decide)
   have e107 : u 2 = (.slice (some ⟨br, orr, none⟩) (qn + 1) cr) := hu 2 (by decide) (by decide)
   have e108 : u 3 = (.int .i64 (i : Int)) := hu 3 (by decide) (by decide)
   have e109 : u 4 = (.pointer (some ⟨br, orr + i * 6, none⟩)) := hu 4 (by decide) (by decide)
   have e110 : u 5 = (.pointer (some ⟨br, orr + i * 6 + 3, none⟩)) := hu 5 (by decide) (by decide)
   have e111 : u 6 = (.agg #[.bool (gI c9 i).raw.hi.neg, .slice B3 f3 f4, .int .i64 (gI c9 i).raw.hi.e]) := hu 6 (by decide) (by decide)
   have e112 : u 7 = (.agg #[.bool yd.neg, .slice P7 t7 k7, .int .i64 yd.e]) := hu 7 (by decide) (by decide)
   have p113 := hu 8 (by decide) (by decide)
   obtain ⟨v113, e113⟩ : ∃ v, u 8 = v := ⟨_, rfl⟩
   rw [e113] at p113
   try simp only [VL, List.getD_cons_zero, List.getD_cons_succ] at p113
   have p104 := hu 9 (by decide) (by decide)
   obtain ⟨v104, e104⟩ : ∃ v, u 9 = v := ⟨_, rfl⟩
   rw [e104] at p104
   try simp only [VL, List.getD_cons_zero, List.getD_cons_succ] at p104
   have p114 := hu 10 (by decide) (by decide)
   obtain ⟨v114, e114⟩ : ∃ v, u 10 = v := ⟨_, rfl⟩
   rw [e114] at p114
   try simp only [VL, List.getD_cons_zero, List.getD_cons_succ] at p114
   have p21 := hu 12 (by decide) (by decide)
   obtain ⟨v21, e21⟩ : ∃ v, u 12 = v := ⟨_, rfl⟩
   rw [e21] at p21
   try simp only [VL, List.getD_cons_zero, List.getD_cons_succ] at p21
   clear hu
   clear p113
   obtain ⟨bn21, rfl, hbn, hxn⟩ := p21
   obtain ⟨Pn, tn, kn, rfl, zn⟩ := dyR_split p114
   obtain ⟨-, y0', y1', y2', f0', f1', f2'⟩ := hxn.facts
   obtain ⟨dd, rfl, -⟩ := p104
   apply dup
   ·intro G he
    simp only [VL, vE, List.getD_cons_zero, List.getD_cons_succ] at he
    simp only [if_true, puts, slotOf, Act.put, List.setIfInBounds_toArray, List.set_cons_zero, List.set_cons_succ, List.getElem?_toArray, List.getElem?_cons_zero, List.getElem?_cons_succ, Option.bind_some, e105, e106, e107, e108, e109, e110, e111, e112, e113, e104, e114, e21, he]
    go_simp
    exact G
   ·intro G
    simp only [puts, slotOf, Act.put, List.setIfInBounds_toArray, List.set_cons_zero, List.set_cons_succ, List.getElem?_toArray, List.getElem?_cons_zero, List.getElem?_cons_succ, Option.bind_some, e105, e106, e107, e108, e109, e110, e111, e112, e113, e104, e114, e21]
    go_simp
    exact G
   clear e105 e106 e107 e108 e109 e110 e111 e112 e113 e104 e114 e21
   go_upto_region 17 with fail
   change Code.wp _ _ _ _ (dyW w9 bn21 (.bool hd.neg) (.slice Pn tn kn) (.int .i64 hd.e))
   obtain ⟨Y9, hX⟩ : ∃ X, X = dyW w9 bn21 (.bool hd.neg) (.slice Pn tn kn) (.int .i64 hd.e) := ⟨_, rfl⟩
   rw [← hX]
   have BHi := Lib.hid (show Blk Y9 bn21 (.bool hd.neg) (.slice Pn tn kn) (.int .i64 hd.e) by rw [hX]; exact hxn.laid _ _ _)
   have DH2 := Lib.hid (show DyR Y9 (.agg #[.bool hd.neg, .slice Pn tn kn, .int .i64 hd.e]) hd.raw by rw [hX]; exact zn.dyW hxn (noLimb_bool _) (noLimb_slice _ _ _) (noLimb_i64 _) _ _ _)
   replace q : Kept Y8 Y9 := by rw [hX]; exact dyW_kept q hbn
   replace K4 := Lib.hid (K4.out.trans q)
   clear hX hbn hxn zn y0' y1' y2' f0' f1' f2'
   replace BLo := Lib.hid (BLo.out.kept q)
   replace DL2 := Lib.hid (DL2.out.kept q)
   clear q HS DHI MH BW DW
   have BD := Lib.hid (B1.out.kept K4.out)
   have DD := Lib.hid (D1.out.kept K4.out)
   obtain ⟨-, a0, a1, a2, -⟩ := BLo.out.facts
   obtain ⟨-, c0, c1, c2, -⟩ := BD.out.facts
   go_wp2_with fail
   refine (CL.out _ _ _ DL2.out DD.out).mono ?_
   rintro e w12 ⟨rfl, q⟩
   simp only []
   replace K4 := Lib.hid (K4.out.trans q)
   replace BD := Lib.hid (BD.out.kept q)
   replace DD := Lib.hid (DD.out.kept q)
   replace BHi := Lib.hid (BHi.out.kept q)
   replace DH2 := Lib.hid (DH2.out.kept q)
   clear q a0 a1 a2 c0 c1 c2 BLo DL2
   have hk1 := KK1.out
   obtain ⟨-, a0, a1, a2, -⟩ := BHi.out.facts
   obtain ⟨-, c0, c1, c2, -⟩ := BD.out.facts
   go_wp2_with fail
   refine (CH.out _ _ _ DD.out DH2.out).mono ?_
   rintro e w13 ⟨rfl, q⟩
   simp only []
   have K5 := Lib.hid (K4.out.trans q)
   have hk2 := KK2.out
   clear q a0 a1 a2 c0 c1 c2 BD DD BHi DH2 K4
   go_wp2_with fail
   go_roundw
   case rel => exact ⟨i + 1, Nat.succ_le_succ HIQ.out, congrArg _ (w64_succ (Nat.lt_of_le_of_lt HIQ.out Q1.out)), facS HF.out, K5.out⟩
   case measure =>
    rw [w64_succ (Nat.lt_of_le_of_lt HIQ.out Q1.out)]
    simp only [intOf]
    exact meas_lt HIQ.out
  ·obtain rfl : i = qn + 1 := by omega
   go_wp2_with fail
   refine (told9_c ops9 rfl (T.out.kept (K3.out.trans KR.out))).mono ?_
   rintro e w14 ⟨rfl, q⟩
   simp only []
   go_wp2_with fail
   go_ret
   exact ⟨rfl, K3.out.trans (KR.out.trans q)⟩
end Go.Proofs.YtgododcbmkpbjaaGreatDoor
