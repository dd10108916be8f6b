/- Contracts of package arith, ninth part: the quotients of Div. Its text was turned from XArH's. -/
import Derived.Test.YtgododcbmkpbjaaGreatDoorClaimJknop32
set_option maxRecDepth 100000
set_option maxHeartbeats 16000000
namespace Go.Proofs.YtgododcbmkpbjaaGreatDoor
open Go.RowKit
/-- The first kind that is not 0. -/
def firstK : List Int → Int
 | [] => 0
 | k :: l => if k ≠ 0 then k else firstK l
def StepsK (res : Int) : List Int → Prop
 | [] => res = 0
 | k :: l => (k ≠ 0 → res = k) ∧ (k = 0 → StepsK res l)
theorem stepsK : ∀ l : List Int, StepsK (firstK l) l
 | [] => rfl
 | k :: l => by
   refine ⟨fun h => ?_, fun h => ?_⟩
   ·unfold firstK; rw [if_pos h]
   ·unfold firstK; rw [if_neg (by simpa using h)]; exact stepsK l
/-- A list of Dyads, or the first fault. -/
def GoesS (T : TypeId) (res : Int) (l : List Dy) (w : World) : Ending → World → Prop := fun e w' => Kept w w' ∧ ((res = 0 ∧ ∃ v, e = .returned v ∧ DyS w' v l) ∨ (res ≠ 0 ∧ e = .panicked (failV T res)))
theorem divq_c {w : World} {a b : Iv} {p ba bb bp : Nat} {up : Bool} (ha : a.Ok) (hb : b.Ok) (hT : Tab w) (p1 : 1 ≤ p) (p2 : p ≤ 2000) (ca : BlkIv w ba a) (cb : BlkIv w bb b) (cp : w.cell? ⟨bp, 0, none⟩ = some (.int .i64 p)) :
 Calls Tryz.prog 132 #[.bool up, .pointer (some ⟨ba, 0, none⟩), .pointer (some ⟨bb, 0, none⟩), .pointer (some ⟨bp, 0, none⟩)] w
  (GoesS 162 (firstK [(quotZ a.lo b.lo p up).k, (quotZ a.lo b.hi p up).k, (quotZ a.hi b.lo p up).k, (quotZ a.hi b.hi p up).k])
    [(quotZ a.lo b.lo p up).v, (quotZ a.lo b.hi p up).v, (quotZ a.hi b.lo p up).v, (quotZ a.hi b.hi p up).v] w) := by
 obtain ⟨A, l, c, A', l', c', hba, x1, x2⟩ := ca
 obtain ⟨B, j, e, B', j', e', hbb, y1, y2⟩ := cb
 have C1 := Lib.hid (fun w1 (k : Kept w w1) => quot_c (up := up) (x1.kept k) (y1.kept k) ha.lo hb.lo (hT.kept k) p1 p2)
 have C2 := Lib.hid (fun w1 (k : Kept w w1) => quot_c (up := up) (x1.kept k) (y2.kept k) ha.lo hb.hi (hT.kept k) p1 p2)
 have C3 := Lib.hid (fun w1 (k : Kept w w1) => quot_c (up := up) (x2.kept k) (y1.kept k) ha.hi hb.lo (hT.kept k) p1 p2)
 have C4 := Lib.hid (fun w1 (k : Kept w w1) => quot_c (up := up) (x2.kept k) (y2.kept k) ha.hi hb.hi (hT.kept k) p1 p2)
 generalize quotZ a.lo b.lo p up = o1 at *
 generalize quotZ a.lo b.hi p up = o2 at *
 generalize quotZ a.hi b.lo p up = o3 at *
 generalize quotZ a.hi b.hi p up = o4 at *
 have K := Lib.hid (show Kept w w from Below.refl _ _)
 have HA := Lib.hid hba
 have HB := Lib.hid hbb
 have CP := Lib.hid cp
 have lp := lt_of_cell cp
 obtain ⟨la, -⟩ := hba.facts
 obtain ⟨lb, -⟩ := hbb.facts
 simp only at lp
 have hst := stepsK [o1.raw.k, o2.raw.k, o3.raw.k, o4.raw.k]
 obtain ⟨res, hres'⟩ : ∃ r, r = firstK [o1.k, o2.k, o3.k, o4.k] := ⟨_, rfl⟩
 have ST := Lib.hid (show StepsK res [o1.raw.k, o2.raw.k, o3.raw.k, o4.raw.k] by rw [hres']; exact hst)
 rw [← hres']
 have BAD : Hid (∀ (k : Int) (w1 : World), Kept w w1 → k ≠ 0 → res = k → GoesS 162 res [o1.v, o2.v, o3.v, o4.v] w (.panicked (failV 162 k)) w1) := fun k w1 kk hk he => by subst he; exact ⟨kk, .inr ⟨hk, rfl⟩⟩
 clear hba hbb cp x1 x2 y1 y2 ha hb hT p1 p2 hres' hst
 generalize a.lo.neg = n1 at *
 generalize a.lo.e = e1 at *
 generalize a.hi.neg = n2 at *
 generalize a.hi.e = e2 at *
 generalize b.lo.neg = n3 at *
 generalize b.lo.e = e3 at *
 generalize b.hi.neg = n4 at *
 generalize b.hi.e = e4 at *
 go_enter Tryz.func132, Tryz.ntmps132
 go_upto_region 2 with fail
 obtain ⟨-, a0, a1, a2, a3, a4, a5⟩ := (HA.out.kept K.out).facts
 obtain ⟨X, hX, kX, hx15, lX⟩ := arr2 w (.bool n1) (.slice A l c) (.int .i64 e1) (.bool n2) (.slice A' l' c') (.int .i64 e2)
 have HX := Lib.hid hX
 clear hX
 go_upto_region 3 with fail
 rw [← HX.out]
 refine wp_loop_rounds 3 ?_
 rw [rounds_succ]
 have x0 := cell_of_block hx15 0 _ rfl
 have x1 := cell_of_block hx15 1 _ rfl
 have x2 := cell_of_block hx15 2 _ rfl
 have KX := Lib.hid (K.out.trans kX)
 have HXb := Lib.hid hx15
 clear a0 a1 a2 a3 a4 a5 hx15
 obtain ⟨Y, hY, kY, hy7, lY⟩ := boxF X (.bool n1) (.slice A l c) (.int .i64 e1)
 have HY := Lib.hid hY
 clear hY
 go_upto_region 5 with fail
 rw [← HY.out]
 replace K := Lib.hid (KX.out.trans kY)
 have O5 := Lib.hid (OwnS.nil Y w.heap.size)
 have B15 := Lib.hid (show Y.heap[w.heap.size]? = some (.cells #[.bool n1, .slice A l c, .int .i64 e1, .bool n2, .slice A' l' c', .int .i64 e2] 30 (0, 0)) from (kY.block _ lX).trans HXb.out)
 have hy := hy7
 have lY' := lY
 clear x0 x1 x2
 obtain ⟨-, b0, b1, b2, b3, b4, b5⟩ := (HB.out.kept K.out).facts
 obtain ⟨U, hU, kU, hu25, lU⟩ := arr2 Y (.bool n3) (.slice B j e) (.int .i64 e3) (.bool n4) (.slice B' j' e') (.int .i64 e4)
 have HU := Lib.hid hU
 clear hU
 go_upto_region 6 with fail
 rw [← HU.out]
 refine wp_loop_rounds 3 ?_
 rw [rounds_succ]
 have x0 := cell_of_block hu25 0 _ rfl
 have x1 := cell_of_block hu25 1 _ rfl
 have x2 := cell_of_block hu25 2 _ rfl
 have x3 := cell_of_block hu25 3 _ rfl
 have x4 := cell_of_block hu25 4 _ rfl
 have x5 := cell_of_block hu25 5 _ rfl
 have KU := Lib.hid (K.out.trans kU)
 have HUb := Lib.hid hu25
 have hy7' := hy.kept kU
 clear b0 b1 b2 b3 b4 b5 hu25
 obtain ⟨Z, hZ, kZ, hz9, lZ⟩ := boxF U (.bool n3) (.slice B j e) (.int .i64 e3)
 have HZ := Lib.hid hZ
 clear hZ
 go_upto_region 8 with fail
 rw [← HZ.out]
 have KZ := Lib.hid (KU.out.trans kZ)
 have hz7 := hy7'.kept kZ
 clear x0 x1 x2 x3 x4 x5
 refine region_seq2 (m := 10) (V := VL [(vE (.slice none 0 0)), (vE (.agg #[.bool n1, .slice A l c, .int .i64 e1])), (vE (.agg #[.bool n3, .slice B j e, .int .i64 e3])), (vE (.int .i64 p)), (vE (.bool up)), (fun v wv => (∃ d, v = .tuple #[d, .int .i64 o1.raw.k] ∧ DyR wv d o1.raw.v) ∧ (True)), (fun v wv => DyR wv v o1.raw.v ∧ (True)), (vE (.int .i64 o1.raw.k)), (fun v wv => (o1.raw.k = 0 ∧ (True)) ∧ DyR wv v o1.raw.v), (fun v wv => One wv v o1.raw.v)])
  rfl rfl rfl rfl rfl (by kernel_rfl) (by kernel_rfl) (by kernel_rfl) (mono_of _ ⟨mE, mE, mE, mE, mE, fun v w w' k h => by obtain ⟨⟨d, h1, h2⟩, h3⟩ := h; exact ⟨⟨d, h1, h2.kept k⟩, h3⟩, fun v w w' k h => ⟨h.1.kept k, h.2⟩, mE, fun v w w' k h => by first | exact h | exact h.kept k | exact ⟨h.1, h.2.kept k⟩, fun v w w' k h => h.kept k, trivial⟩) (steps_of ⟨
   (fun aF wF F => by have s6 : aF.tmps.getD 6 undef = .slice none 0 0 := F.o 6; exact sv rfl), (fun aF wF F => by have s8 : aF.tmps.getD 8 undef = (.pointer (some ⟨X.heap.size, 0, none⟩)) := F.o 8; have c0 := cell_at hz7 F.kept 0 _ rfl; have c1 := cell_at hz7 F.kept 1 _ rfl; have c2 := cell_at hz7 F.kept 2 _ rfl; exact sv rfl), (fun aF wF F => by have s10 : aF.tmps.getD 10 undef = (.pointer (some ⟨U.heap.size, 0, none⟩)) := F.o 10; have c0 := cell_at hz9 F.kept 0 _ rfl; have c1 := cell_at hz9 F.kept 1 _ rfl; have c2 := cell_at hz9 F.kept 2 _ rfl; exact sv rfl), (fun aF wF F => by have s3 : aF.tmps.getD 3 undef = (.pointer (some ⟨bp, 0, none⟩)) := F.o 3; exact sw (by have cq := cell_kept (KZ.out.trans F.kept) CP.out; go_simp) rfl), (fun aF wF F => by have s0 : aF.tmps.getD 0 undef = .bool up := F.o 0; exact sv rfl), (fun aF wF F => by have s32 := F.v 1 32; have s33 := F.v 2 33; have s34 := F.v 3 34; have s35 := F.v 4 35; have hC : True := trivial; exact step_good (by simp [Region.wanted]) (by go_simp) (C1.out _ (KZ.out.trans F.kept)) (fun _ _ h => RetE.good h) (fun _ _ h => ⟨h, hC⟩)), (fun aF wF F => by have s36 := F.p 5 36; obtain ⟨⟨dd, ee, hh⟩, hC⟩ := s36; exact step_val (by simp [Region.wanted]) (by go_simp) ⟨hh, hC⟩), (fun aF wF F => by have s36 := F.p 5 36; exact sw (by obtain ⟨⟨dd, ee, hh⟩, -⟩ := s36; go_simp) rfl), (fun aF wF F => by have s37 := F.p 6 37; have s38 := F.v 7 38; have hC := s37.2; exact sG (sure_c (d := o1.v) (k := o1.raw.k) s37.1) (fun _ _ _ h0 h => ⟨⟨h0, hC⟩, h⟩) (fun w2 k2 h0 => ⟨F.defers, BAD.out _ _ (KZ.out.trans (F.kept.trans k2)) h0 (ST.out.1 h0)⟩)), (fun aF wF F => by have s39 := F.p 8 39; obtain ⟨A9, l9, c9, e9, hd9⟩ := rawR_split s39.2; simp only [Array.getD_eq_getD_getElem?] at e9; exact step_new (by simp [Region.wanted]) (by first | (go_simp; done) | (go_simp; rfl)) (kept_alloc _ _) (one_new rfl hd9)),
   trivial⟩) ?_
 intro u w1 k1 hu
 have p36 := hp hu 5
 have p37 := hp hu 6
 have p39 := hp hu 8
 have p40 := hp hu 9
 simp only [puts, slotOf, if_true, Act.put, z1, z2, z3, z4, z5, z6, z7, hv hu 0, hv hu 1, hv hu 2, hv hu 3, hv hu 4, hv hu 7]
 clear hu
 generalize u 5 = v36 at *
 generalize u 6 = v37 at *
 generalize u 8 = v39 at *
 generalize u 9 = v40 at *
 obtain ⟨A9, l9, c9, b9, u9, hb9, hd9⟩ := p40
 obtain ⟨⟨z1, -⟩, -⟩ := p39
 replace K := Lib.hid (KZ.out.trans k1)
 have B15' := Lib.hid ((((kU.trans kZ).trans k1).block _ (Nat.lt_trans lX lY')).trans B15.out)
 subst u9
 refine wp_append_dy (.tmp 31) (.tmp 40) ?ho (v := .slice none 0 0) ?hs (OwnS.nil w1 w1.heap.size) (d := o1.v) hd9 hb9 ?hx (by simp) (Nat.le_refl _) ?h
 case ho => rfl
 case hs => first | rfl | (go_simp; done)
 case hx => first | rfl | (go_simp; done)
 intro v1 S1 O1 hg1
 have KS := Lib.hid (show Kept w1 S1 from Below.grown (Below.refl _ _) hg1 (Nat.le_refl _) (by intro k hk; simp [Value.ownBlock] at hk))
 have Z1 := Lib.hid z1
 have OW1 := Lib.hid O1
 clear z1 hd9 hb9 p36 p37 hg1 O1
 have lw1 : w.heap.size ≤ w1.heap.size := K.out.size
 replace K := Lib.hid (K.out.trans KS.out)
 have b25 := ((kZ.trans k1).trans KS.out).block _ (Nat.lt_of_lt_of_le (Array.getElem?_eq_some_iff.1 HUb.out).1 (Nat.le_refl _)) |>.trans HUb.out
 have b7 := (hz7.kept k1).kept KS.out
 have B25 := Lib.hid b25
 go_simp
 go_wp2_with fail
 rw [rounds_succ]
 have x3 := cell_of_block b25 3 _ rfl
 have x4 := cell_of_block b25 4 _ rfl
 have x5 := cell_of_block b25 5 _ rfl
 obtain ⟨Z2, hZ2, kZ2, hz92, lZ2⟩ := boxF S1 (.bool n4) (.slice B' j' e') (.int .i64 e4)
 have HZ2 := Lib.hid hZ2
 clear hZ2
 go_upto_region 8 with fail
 rw [← HZ2.out]
 generalize w1 = T at *
 replace K := Lib.hid (K.out.trans kZ2)
 have c7 := b7.kept kZ2
 clear x3 x4 x5
 refine region_seq2 (m := 10) (V := VL [(vE v1), (vE (.agg #[.bool n1, .slice A l c, .int .i64 e1])), (vE (.agg #[.bool n4, .slice B' j' e', .int .i64 e4])), (vE (.int .i64 p)), (vE (.bool up)), (fun v wv => (∃ d, v = .tuple #[d, .int .i64 o2.raw.k] ∧ DyR wv d o2.raw.v) ∧ (True)), (fun v wv => DyR wv v o2.raw.v ∧ (True)), (vE (.int .i64 o2.raw.k)), (fun v wv => (o2.raw.k = 0 ∧ (True)) ∧ DyR wv v o2.raw.v), (fun v wv => One wv v o2.raw.v)])
  rfl rfl rfl rfl rfl (by kernel_rfl) (by kernel_rfl) (by kernel_rfl) (mono_of _ ⟨mE, mE, mE, mE, mE, fun v w w' k h => by obtain ⟨⟨d, h1, h2⟩, h3⟩ := h; exact ⟨⟨d, h1, h2.kept k⟩, h3⟩, fun v w w' k h => ⟨h.1.kept k, h.2⟩, mE, fun v w w' k h => by first | exact h | exact h.kept k | exact ⟨h.1, h.2.kept k⟩, fun v w w' k h => h.kept k, trivial⟩) (steps_of ⟨
   (fun aF wF F => by have s6 : aF.tmps.getD 6 undef = v1 := F.o 6; exact sv rfl), (fun aF wF F => by have s8 : aF.tmps.getD 8 undef = (.pointer (some ⟨X.heap.size, 0, none⟩)) := F.o 8; have c0 := cell_at c7 F.kept 0 _ rfl; have c1 := cell_at c7 F.kept 1 _ rfl; have c2 := cell_at c7 F.kept 2 _ rfl; exact sv rfl), (fun aF wF F => by have s10 : aF.tmps.getD 10 undef = (.pointer (some ⟨S1.heap.size, 0, none⟩)) := F.o 10; have c0 := cell_at hz92 F.kept 0 _ rfl; have c1 := cell_at hz92 F.kept 1 _ rfl; have c2 := cell_at hz92 F.kept 2 _ rfl; exact sv rfl), (fun aF wF F => by have s3 : aF.tmps.getD 3 undef = (.pointer (some ⟨bp, 0, none⟩)) := F.o 3; exact sw (by have cq := cell_kept (K.out.trans F.kept) CP.out; go_simp) rfl), (fun aF wF F => by have s0 : aF.tmps.getD 0 undef = .bool up := F.o 0; exact sv rfl), (fun aF wF F => by have s32 := F.v 1 32; have s33 := F.v 2 33; have s34 := F.v 3 34; have s35 := F.v 4 35; have hC : True := trivial; exact step_good (by simp [Region.wanted]) (by go_simp) (C2.out _ (K.out.trans F.kept)) (fun _ _ h => RetE.good h) (fun _ _ h => ⟨h, hC⟩)), (fun aF wF F => by have s36 := F.p 5 36; obtain ⟨⟨dd, ee, hh⟩, hC⟩ := s36; exact step_val (by simp [Region.wanted]) (by go_simp) ⟨hh, hC⟩), (fun aF wF F => by have s36 := F.p 5 36; exact sw (by obtain ⟨⟨dd, ee, hh⟩, -⟩ := s36; go_simp) rfl), (fun aF wF F => by have s37 := F.p 6 37; have s38 := F.v 7 38; have hC := s37.2; exact sG (sure_c (d := o2.v) (k := o2.raw.k) s37.1) (fun _ _ _ h0 h => ⟨⟨h0, hC⟩, h⟩) (fun w2 k2 h0 => ⟨F.defers, BAD.out _ _ (K.out.trans (F.kept.trans k2)) h0 ((ST.out.2 Z1.out).1 h0)⟩)), (fun aF wF F => by have s39 := F.p 8 39; obtain ⟨A9, l9, c9, e9, hd9⟩ := rawR_split s39.2; simp only [Array.getD_eq_getD_getElem?] at e9; exact step_new (by simp [Region.wanted]) (by first | (go_simp; done) | (go_simp; rfl)) (kept_alloc _ _) (one_new rfl hd9)),
   trivial⟩) ?_
 intro u w1 k1 hu
 have p36 := hp hu 5
 have p37 := hp hu 6
 have p39 := hp hu 8
 have p40 := hp hu 9
 simp only [puts, slotOf, if_true, Act.put, z1, z2, z3, z4, z5, z6, z7, hv hu 0, hv hu 1, hv hu 2, hv hu 3, hv hu 4, hv hu 7]
 clear hu
 generalize u 5 = v36 at *
 generalize u 6 = v37 at *
 generalize u 8 = v39 at *
 generalize u 9 = v40 at *
 obtain ⟨A8, l8, c8, b8, u9, hb9, hd9⟩ := p40
 obtain ⟨⟨z2, -⟩, -⟩ := p39
 subst u9
 have O2 := (OW1.out.kept kZ2).kept k1
 have lT : T.heap.size ≤ w1.heap.size := Nat.le_trans KS.out.size (Nat.le_trans kZ2.size k1.size)
 refine wp_append_dy (.tmp 31) (.tmp 40) ?ho (v := v1) ?hs O2 (d := o2.v) hd9 hb9 ?hx (by simp) lT ?h
 case ho => rfl
 case hs => first | rfl | (go_simp; done)
 case hx => first | rfl | (go_simp; done)
 intro v2 S2 O2' hg2
 have KT := Lib.hid (show Kept T S2 from Below.grown ((KS.out.trans kZ2).trans k1) hg2 lT (fun k hk => (O2.row.lt k hk).1))
 have lw2 : w.heap.size ≤ w1.heap.size := Nat.le_trans lw1 lT
 replace K := Lib.hid (show Kept w S2 from Below.grown (K.out.trans k1) hg2 lw2 (fun k hk => Nat.le_trans lw1 (O2.row.lt k hk).1))
 have Z2' := Lib.hid z2
 have OW2 := Lib.hid O2'
 have d15 := (KT.out.block _ (Nat.lt_of_lt_of_le (Array.getElem?_eq_some_iff.1 B15'.out).1 (Nat.le_refl _))).trans B15'.out
 have D15 := Lib.hid d15
 clear z2 hd9 hb9 p36 p37 hg2 O2 O2' c7 b7 b25 hz92 k1 kZ2 hz7
 go_simp
 go_wp2_with fail
 rw [rounds_succ]
 go_wp2_with fail
 rw [rounds_succ]
 have x3 := cell_of_block d15 3 _ rfl
 have x4 := cell_of_block d15 4 _ rfl
 have x5 := cell_of_block d15 5 _ rfl
 obtain ⟨Y3, hY3, kY3, hb3, lY3⟩ := boxF S2 (.bool n2) (.slice A' l' c') (.int .i64 e2)
 have HY3 := Lib.hid hY3
 clear hY3
 go_upto_region 5 with fail
 rw [← HY3.out]
 clear x3 x4 x5 d15
 replace K := Lib.hid (K.out.trans kY3)
 obtain ⟨-, b0, b1, b2, b3, b4, b5⟩ := (HB.out.kept K.out).facts
 obtain ⟨U3, hU3, kU3, hu25, lU3⟩ := arr2 Y3 (.bool n3) (.slice B j e) (.int .i64 e3) (.bool n4) (.slice B' j' e') (.int .i64 e4)
 have HU3 := Lib.hid hU3
 clear hU3
 go_upto_region 6 with fail
 rw [← HU3.out]
 refine wp_loop_rounds 3 ?_
 rw [rounds_succ]
 have x0 := cell_of_block hu25 0 _ rfl
 have x1 := cell_of_block hu25 1 _ rfl
 have x2 := cell_of_block hu25 2 _ rfl
 replace K := Lib.hid (K.out.trans kU3)
 have HU3b := Lib.hid hu25
 clear b0 b1 b2 b3 b4 b5 hu25
 obtain ⟨Z3, hZ3, kZ3, hz9, lZ3⟩ := boxF U3 (.bool n3) (.slice B j e) (.int .i64 e3)
 have HZ3 := Lib.hid hZ3
 clear hZ3
 go_upto_region 8 with fail
 rw [← HZ3.out]
 replace K := Lib.hid (K.out.trans kZ3)
 have hz7 := (hb3.kept kU3).kept kZ3
 generalize w1 = T2 at *
 clear x0 x1 x2
 refine region_seq2 (m := 10) (V := VL [(vE v2), (vE (.agg #[.bool n2, .slice A' l' c', .int .i64 e2])), (vE (.agg #[.bool n3, .slice B j e, .int .i64 e3])), (vE (.int .i64 p)), (vE (.bool up)), (fun v wv => (∃ d, v = .tuple #[d, .int .i64 o3.raw.k] ∧ DyR wv d o3.raw.v) ∧ (True)), (fun v wv => DyR wv v o3.raw.v ∧ (True)), (vE (.int .i64 o3.raw.k)), (fun v wv => (o3.raw.k = 0 ∧ (True)) ∧ DyR wv v o3.raw.v), (fun v wv => One wv v o3.raw.v)])
  rfl rfl rfl rfl rfl (by kernel_rfl) (by kernel_rfl) (by kernel_rfl) (mono_of _ ⟨mE, mE, mE, mE, mE, fun v w w' k h => by obtain ⟨⟨d, h1, h2⟩, h3⟩ := h; exact ⟨⟨d, h1, h2.kept k⟩, h3⟩, fun v w w' k h => ⟨h.1.kept k, h.2⟩, mE, fun v w w' k h => by first | exact h | exact h.kept k | exact ⟨h.1, h.2.kept k⟩, fun v w w' k h => h.kept k, trivial⟩) (steps_of ⟨
   (fun aF wF F => by have s6 : aF.tmps.getD 6 undef = v2 := F.o 6; exact sv rfl), (fun aF wF F => by have s8 : aF.tmps.getD 8 undef = (.pointer (some ⟨S2.heap.size, 0, none⟩)) := F.o 8; have c0 := cell_at hz7 F.kept 0 _ rfl; have c1 := cell_at hz7 F.kept 1 _ rfl; have c2 := cell_at hz7 F.kept 2 _ rfl; exact sv rfl), (fun aF wF F => by have s10 : aF.tmps.getD 10 undef = (.pointer (some ⟨U3.heap.size, 0, none⟩)) := F.o 10; have c0 := cell_at hz9 F.kept 0 _ rfl; have c1 := cell_at hz9 F.kept 1 _ rfl; have c2 := cell_at hz9 F.kept 2 _ rfl; exact sv rfl), (fun aF wF F => by have s3 : aF.tmps.getD 3 undef = (.pointer (some ⟨bp, 0, none⟩)) := F.o 3; exact sw (by have cq := cell_kept (K.out.trans F.kept) CP.out; go_simp) rfl), (fun aF wF F => by have s0 : aF.tmps.getD 0 undef = .bool up := F.o 0; exact sv rfl), (fun aF wF F => by have s32 := F.v 1 32; have s33 := F.v 2 33; have s34 := F.v 3 34; have s35 := F.v 4 35; have hC : True := trivial; exact step_good (by simp [Region.wanted]) (by go_simp) (C3.out _ (K.out.trans F.kept)) (fun _ _ h => RetE.good h) (fun _ _ h => ⟨h, hC⟩)), (fun aF wF F => by have s36 := F.p 5 36; obtain ⟨⟨dd, ee, hh⟩, hC⟩ := s36; exact step_val (by simp [Region.wanted]) (by go_simp) ⟨hh, hC⟩), (fun aF wF F => by have s36 := F.p 5 36; exact sw (by obtain ⟨⟨dd, ee, hh⟩, -⟩ := s36; go_simp) rfl), (fun aF wF F => by have s37 := F.p 6 37; have s38 := F.v 7 38; have hC := s37.2; exact sG (sure_c (d := o3.v) (k := o3.raw.k) s37.1) (fun _ _ _ h0 h => ⟨⟨h0, hC⟩, h⟩) (fun w2 k2 h0 => ⟨F.defers, BAD.out _ _ (K.out.trans (F.kept.trans k2)) h0 (((ST.out.2 Z1.out).2 Z2'.out).1 h0)⟩)), (fun aF wF F => by have s39 := F.p 8 39; obtain ⟨A9, l9, c9, e9, hd9⟩ := rawR_split s39.2; simp only [Array.getD_eq_getD_getElem?] at e9; exact step_new (by simp [Region.wanted]) (by first | (go_simp; done) | (go_simp; rfl)) (kept_alloc _ _) (one_new rfl hd9)),
   trivial⟩) ?_
 intro u w1 k1 hu
 have p36 := hp hu 5
 have p37 := hp hu 6
 have p39 := hp hu 8
 have p40 := hp hu 9
 simp only [puts, slotOf, if_true, Act.put, z1, z2, z3, z4, z5, z6, z7, hv hu 0, hv hu 1, hv hu 2, hv hu 3, hv hu 4, hv hu 7]
 clear hu
 generalize u 5 = v36 at *
 generalize u 6 = v37 at *
 generalize u 8 = v39 at *
 generalize u 9 = v40 at *
 obtain ⟨A7, l7, c7, b7, u9, hb9, hd9⟩ := p40
 obtain ⟨⟨z3, -⟩, -⟩ := p39
 subst u9
 have O3 := (((OW2.out.kept kY3).kept kU3).kept kZ3).kept k1
 have lT3 : T.heap.size ≤ w1.heap.size := Nat.le_trans KT.out.size (Nat.le_trans kY3.size (Nat.le_trans kU3.size (Nat.le_trans kZ3.size k1.size)))
 refine wp_append_dy (.tmp 31) (.tmp 40) ?ho (v := v2) ?hs O3 (d := o3.v) hd9 hb9 ?hx (by simp) lT3 ?h
 case ho => rfl
 case hs => first | rfl | (go_simp; done)
 case hx => first | rfl | (go_simp; done)
 intro v3 S3 O3' hg3
 have l7 : S2.heap.size < w1.heap.size := Nat.lt_of_lt_of_le lY3 (Nat.le_trans kU3.size (Nat.le_trans kZ3.size k1.size))
 have l25 : Y3.heap.size < w1.heap.size := Nat.lt_of_lt_of_le lU3 (Nat.le_trans kZ3.size k1.size)
 have q7 : Blk S3 S2.heap.size (.bool n2) (.slice A' l' c') (.int .i64 e2) :=
  (hg3.block _ l7 (fun e => by have := (OW2.out.row.lt _ e.symm).2; omega)).trans (hz7.kept k1)
 have q25 := (hg3.block _ l25 (fun e => by have := (OW2.out.row.lt _ e.symm).2; have := kY3.size; omega)).trans (((kZ3.trans k1).block _ (Array.getElem?_eq_some_iff.1 HU3b.out).1).trans HU3b.out)
 replace KT := Lib.hid (show Kept T S3 from Below.grown (((((KT.out.trans kY3).trans kU3).trans kZ3).trans k1)) hg3 lT3 (fun k hk => (O3.row.lt k hk).1))
 replace K := Lib.hid (show Kept w S3 from Below.grown (K.out.trans k1) hg3 (Nat.le_trans lw1 lT3) (fun k hk => Nat.le_trans lw1 (O3.row.lt k hk).1))
 have Z3' := Lib.hid z3
 have OW3 := Lib.hid O3'
 clear z3 hd9 hb9 p36 p37 hg3 O3 O3' k1 kZ3 hz7 hz9 l7 l25 kY3 kU3 OW1
 go_simp
 go_wp2_with fail
 rw [rounds_succ]
 have x3 := cell_of_block q25 3 _ rfl
 have x4 := cell_of_block q25 4 _ rfl
 have x5 := cell_of_block q25 5 _ rfl
 obtain ⟨Z4, hZ4, kZ4, hz94, lZ4⟩ := boxF S3 (.bool n4) (.slice B' j' e') (.int .i64 e4)
 have HZ4 := Lib.hid hZ4
 clear hZ4
 go_upto_region 8 with fail
 rw [← HZ4.out]
 replace K := Lib.hid (K.out.trans kZ4)
 have hz7 := q7.kept kZ4
 generalize w1 = T3 at *
 clear x3 x4 x5
 refine region_seq2 (m := 10) (V := VL [(vE v3), (vE (.agg #[.bool n2, .slice A' l' c', .int .i64 e2])), (vE (.agg #[.bool n4, .slice B' j' e', .int .i64 e4])), (vE (.int .i64 p)), (vE (.bool up)), (fun v wv => (∃ d, v = .tuple #[d, .int .i64 o4.raw.k] ∧ DyR wv d o4.raw.v) ∧ (True)), (fun v wv => DyR wv v o4.raw.v ∧ (True)), (vE (.int .i64 o4.raw.k)), (fun v wv => (o4.raw.k = 0 ∧ (True)) ∧ DyR wv v o4.raw.v), (fun v wv => One wv v o4.raw.v)])
  rfl rfl rfl rfl rfl (by kernel_rfl) (by kernel_rfl) (by kernel_rfl) (mono_of _ ⟨mE, mE, mE, mE, mE, fun v w w' k h => by obtain ⟨⟨d, h1, h2⟩, h3⟩ := h; exact ⟨⟨d, h1, h2.kept k⟩, h3⟩, fun v w w' k h => ⟨h.1.kept k, h.2⟩, mE, fun v w w' k h => by first | exact h | exact h.kept k | exact ⟨h.1, h.2.kept k⟩, fun v w w' k h => h.kept k, trivial⟩) (steps_of ⟨
   (fun aF wF F => by have s6 : aF.tmps.getD 6 undef = v3 := F.o 6; exact sv rfl), (fun aF wF F => by have s8 : aF.tmps.getD 8 undef = (.pointer (some ⟨S2.heap.size, 0, none⟩)) := F.o 8; have c0 := cell_at hz7 F.kept 0 _ rfl; have c1 := cell_at hz7 F.kept 1 _ rfl; have c2 := cell_at hz7 F.kept 2 _ rfl; exact sv rfl), (fun aF wF F => by have s10 : aF.tmps.getD 10 undef = (.pointer (some ⟨S3.heap.size, 0, none⟩)) := F.o 10; have c0 := cell_at hz94 F.kept 0 _ rfl; have c1 := cell_at hz94 F.kept 1 _ rfl; have c2 := cell_at hz94 F.kept 2 _ rfl; exact sv rfl), (fun aF wF F => by have s3 : aF.tmps.getD 3 undef = (.pointer (some ⟨bp, 0, none⟩)) := F.o 3; exact sw (by have cq := cell_kept (K.out.trans F.kept) CP.out; go_simp) rfl), (fun aF wF F => by have s0 : aF.tmps.getD 0 undef = .bool up := F.o 0; exact sv rfl), (fun aF wF F => by have s32 := F.v 1 32; have s33 := F.v 2 33; have s34 := F.v 3 34; have s35 := F.v 4 35; have hC : True := trivial; exact step_good (by simp [Region.wanted]) (by go_simp) (C4.out _ (K.out.trans F.kept)) (fun _ _ h => RetE.good h) (fun _ _ h => ⟨h, hC⟩)), (fun aF wF F => by have s36 := F.p 5 36; obtain ⟨⟨dd, ee, hh⟩, hC⟩ := s36; exact step_val (by simp [Region.wanted]) (by go_simp) ⟨hh, hC⟩), (fun aF wF F => by have s36 := F.p 5 36; exact sw (by obtain ⟨⟨dd, ee, hh⟩, -⟩ := s36; go_simp) rfl), (fun aF wF F => by have s37 := F.p 6 37; have s38 := F.v 7 38; have hC := s37.2; exact sG (sure_c (d := o4.v) (k := o4.raw.k) s37.1) (fun _ _ _ h0 h => ⟨⟨h0, hC⟩, h⟩) (fun w2 k2 h0 => ⟨F.defers, BAD.out _ _ (K.out.trans (F.kept.trans k2)) h0 ((((ST.out.2 Z1.out).2 Z2'.out).2 Z3'.out).1 h0)⟩)), (fun aF wF F => by have s39 := F.p 8 39; obtain ⟨A9, l9, c9, e9, hd9⟩ := rawR_split s39.2; simp only [Array.getD_eq_getD_getElem?] at e9; exact step_new (by simp [Region.wanted]) (by first | (go_simp; done) | (go_simp; rfl)) (kept_alloc _ _) (one_new rfl hd9)),
   trivial⟩) ?_
 intro u w1 k1 hu
 have p36 := hp hu 5
 have p37 := hp hu 6
 have p39 := hp hu 8
 have p40 := hp hu 9
 simp only [puts, slotOf, if_true, Act.put, z1, z2, z3, z4, z5, z6, z7, hv hu 0, hv hu 1, hv hu 2, hv hu 3, hv hu 4, hv hu 7]
 clear hu
 generalize u 5 = v36 at *
 generalize u 6 = v37 at *
 generalize u 8 = v39 at *
 generalize u 9 = v40 at *
 obtain ⟨A6, l6, c6, b6, u9, hb9, hd9⟩ := p40
 obtain ⟨⟨z4, -⟩, -⟩ := p39
 subst u9
 have O4 := (OW3.out.kept kZ4).kept k1
 have lT4 : T.heap.size ≤ w1.heap.size := Nat.le_trans KT.out.size (Nat.le_trans kZ4.size k1.size)
 refine wp_append_dy (.tmp 31) (.tmp 40) ?ho (v := v3) ?hs O4 (d := o4.v) hd9 hb9 ?hx (by simp) lT4 ?h
 case ho => rfl
 case hs => first | rfl | (go_simp; done)
 case hx => first | rfl | (go_simp; done)
 intro v4 S4 O4' hg4
 replace KT := Lib.hid (show Kept T S4 from Below.grown ((KT.out.trans kZ4).trans k1) hg4 lT4 (fun k hk => (O4.row.lt k hk).1))
 replace K := Lib.hid (show Kept w S4 from Below.grown (K.out.trans k1) hg4 (Nat.le_trans lw1 lT4) (fun k hk => Nat.le_trans lw1 (O4.row.lt k hk).1))
 have Z4' := Lib.hid z4
 have OD := Lib.hid (show DyS S4 v4 [o1.v, o2.v, o3.v, o4.v] from O4'.dyS)
 clear z4 hd9 hb9 p36 p37 hg4 O4 O4' k1 kZ4 hz7 hz94 OW3 OW2 q7 q25
 go_simp
 go_wp2_with fail
 rw [rounds_succ]
 go_wp2_with fail
 rw [rounds_succ]
 have hz := (((ST.out.2 Z1.out).2 Z2'.out).2 Z3'.out).2 Z4'.out
 go_wp2_with fail
 go_ret
 exact ⟨K.out, .inl ⟨hz, _, rfl, OD.out⟩⟩
end Go.Proofs.YtgododcbmkpbjaaGreatDoor
