/- Contracts of package arith, twelfth part: the tops (Add, Sub, Mul, Div, Neg, Sqr, Sqrt). -/
import Derived.Test.YtgododcbmkpbjaaGreatDoorClaimJknop14
import Derived.Test.YtgododcbmkpbjaaGreatDoorClaimJknop33
set_option maxRecDepth 100000
set_option maxHeartbeats 16000000
namespace Go.Proofs.YtgododcbmkpbjaaGreatDoor
open Go.RowKit
theorem four_first (a b c d : Outc Dy) (f : Dy → Dy → Dy → Dy → Outc Iv) :
 four a b c d f = if firstK [a.k, b.k, c.k, d.k] ≠ 0 then ⟨iz, firstK [a.k, b.k, c.k, d.k]⟩ else f a.v b.v c.v d.v := by
 unfold four Outc.bind
 simp only [firstK]
 by_cases h1 : a.k = 0
 ·by_cases h2 : b.k = 0
  ·by_cases h3 : c.k = 0
   ·by_cases h4 : d.k = 0
    ·simp [h1, h2, h3, h4]
    ·simp [h1, h2, h3, h4]
   ·simp [h1, h2, h3]
  ·simp [h1, h2]
 ·simp [h1]
theorem divI_chain (a b : Iv) (p : Nat) (hz : hasZero b = false) :
 divI a b p = chainL ⟨leastD (quotD a.lo b.lo p false).v [(quotD a.lo b.lo p false).v, (quotD a.lo b.hi p false).v, (quotD a.hi b.lo p false).v, (quotD a.hi b.hi p false).v],
  greatestD (quotD a.lo b.lo p true).v [(quotD a.lo b.lo p true).v, (quotD a.lo b.hi p true).v, (quotD a.hi b.lo p true).v, (quotD a.hi b.hi p true).v]⟩
  [firstK [(quotD a.lo b.lo p false).k, (quotD a.lo b.hi p false).k, (quotD a.hi b.lo p false).k, (quotD a.hi b.hi p false).k],
   firstK [(quotD a.lo b.lo p true).k, (quotD a.lo b.hi p true).k, (quotD a.hi b.lo p true).k, (quotD a.hi b.hi p true).k]] := by
 unfold divI
 rw [hz, four_first]
 simp only [Bool.false_eq_true, if_false, chainL]
 by_cases h1 : firstK [(quotD a.lo b.lo p false).k, (quotD a.lo b.hi p false).k, (quotD a.hi b.lo p false).k, (quotD a.hi b.hi p false).k] = 0
 ·rw [four_first]
 ·simp [h1]
theorem quotZ_nz {x y : Dy} {p : Nat} {up : Bool} (h : ¬ y.m = 0) : quotZ x y p up = quotD x y p up := by
 unfold quotZ; rw [if_neg h]
theorem adiv1_zero {w : World} {a b : Iv} {p ba bb bp : Nat} (hb : b.Ok) (cb : BlkIv w bb b) (hz : hasZero b = true) :
 Calls Tryz.prog 130 #[.pointer (some ⟨bb, 0, none⟩), .pointer (some ⟨ba, 0, none⟩), .pointer (some ⟨bp, 0, none⟩)] w (Goes2 162 (rawO (divI a b p)) w) := by
 obtain ⟨B, j, e, B', j', e', hbb, y1, y2⟩ := cb
 have hres : rawO (divI a b p) = ⟨rzI, 4⟩ := by unfold divI; rw [if_pos hz]; unfold rawO; rw [iz_raw]
 rw [hres]
 have CH := Lib.hid (fun w1 (k : Kept w w1) => has_c (v := .agg #[.bool b.lo.neg, .slice B j e, .int .i64 b.lo.e, .bool b.hi.neg, .slice B' j' e', .int .i64 b.hi.e]) (u := .agg #[.bool false, .slice none 0 0, .int .i64 0]) (a := b) ⟨_, _, _, _, _, _, rfl, y1.kept k, y2.kept k⟩ (by rw [dz_raw]; exact dyR_zero _) hb dz_ok)
 have hhas : hasI b dz = true := by rw [← hz]; unfold hasI hasZero; rw [dz_q]
 rw [hhas] at CH
 obtain ⟨W, hW, kW, -, -⟩ := box2r w
 have HW := Lib.hid hW
 have K := Lib.hid kW
 obtain ⟨lb, c0, c1, c2, c3, c4, c5⟩ := hbb.facts
 clear hW kW hbb y1 y2 hres hz hhas
 go_enter Tryz.func130, Tryz.ntmps130
 go_wp2_with (first
  | (go_at_call 25; rw [← HW.out]; refine (CH.out _ K.out).mono ?_; rintro e w1 ⟨rfl, q⟩; replace K := Lib.hid (K.out.trans q))
  | (go_at_call 131; refine (must_cA _ _ _).mono ?_; rintro e w3 ⟨he, rfl⟩; obtain rfl : e = .panicked (failV 162 _) := he))
 exact ⟨rfl, K.out, .inr ⟨by decide, rfl⟩⟩
section
variable {P : Program} {ops : Array Oper} {Q : Exit → Act → World → Prop}
theorem step_goesS {V : Nat → Value → World → Prop} {i : Nat} {o : Oper} {a : Act} {w : World} {f : FuncId} {args : Array Value} {T : TypeId} {r : Int} {l : List Dy} (hw : Region.wanted o (yielded ops a.tmps) = true)
 (h : (execOp a.eval o).run P w = .ok (.enter f args) w) (hc : Calls P f args w (GoesS T r l w))
 (hp : ∀ v w', Kept w w' → r = 0 → DyS w' v l → V i v w') (hq : ∀ w', Kept w w' → r ≠ 0 → Q (.panic (failV T r)) a w') : StepOK P ops Q V i o a w :=
 step_call hw h hc fun e w' he => by
  obtain ⟨k, ⟨h0, v, he, hd⟩ | ⟨h0, he⟩⟩ := he
  ·exact .inl ⟨v, he, k, hp v w' k h0 hd⟩
  ·exact .inr ⟨_, he, hq w' k h0⟩
end
theorem adiv1_c {w : World} {a b : Iv} {p ba bb bp : Nat} (ha : a.Ok) (hb : b.Ok) (hT : Tab w) (p1 : 1 ≤ p) (p2 : p ≤ 2000) (ca : BlkIv w ba a) (cb : BlkIv w bb b) (cp : w.cell? ⟨bp, 0, none⟩ = some (.int .i64 p)) :
 Calls Tryz.prog 130 #[.pointer (some ⟨bb, 0, none⟩), .pointer (some ⟨ba, 0, none⟩), .pointer (some ⟨bp, 0, none⟩)] w (Goes2 162 (rawO (divI a b p)) w) := by
 by_cases hz : hasZero b = true
 ·exact adiv1_zero hb cb hz
 have hmf : ∀ (fn : Fn) (first cap : Array Value) (w : World), (Instr.makeFunc fn first cap).run Tryz.prog w = .ok (.func fn first cap) w := fun _ _ _ _ => rfl
 obtain ⟨n1, n2⟩ := hasZero_nz hb hz
 have hz : hasZero b = false := by simpa using hz
 obtain ⟨o1, ho1⟩ : ∃ o, o = quotD a.lo b.lo p false := ⟨_, rfl⟩
 obtain ⟨o2, ho2⟩ : ∃ o, o = quotD a.lo b.hi p false := ⟨_, rfl⟩
 obtain ⟨o3, ho3⟩ : ∃ o, o = quotD a.hi b.lo p false := ⟨_, rfl⟩
 obtain ⟨o4, ho4⟩ : ∃ o, o = quotD a.hi b.hi p false := ⟨_, rfl⟩
 obtain ⟨u1, hu1⟩ : ∃ o, o = quotD a.lo b.lo p true := ⟨_, rfl⟩
 obtain ⟨u2, hu2⟩ : ∃ o, o = quotD a.lo b.hi p true := ⟨_, rfl⟩
 obtain ⟨u3, hu3⟩ : ∃ o, o = quotD a.hi b.lo p true := ⟨_, rfl⟩
 obtain ⟨u4, hu4⟩ : ∃ o, o = quotD a.hi b.hi p true := ⟨_, rfl⟩
 obtain ⟨o5, ho5⟩ : ∃ o : Outc Dy, o = ⟨leastD o1.v [o1.v, o2.v, o3.v, o4.v], 0⟩ := ⟨_, rfl⟩
 obtain ⟨o6, ho6⟩ : ∃ o : Outc Dy, o = ⟨greatestD u1.v [u1.v, u2.v, u3.v, u4.v], 0⟩ := ⟨_, rfl⟩
 have hm : leastD o1.v [o1.v, o2.v, o3.v, o4.v] = o5.v := by rw [ho5]
 have hg : greatestD u1.v [u1.v, u2.v, u3.v, u4.v] = o6.v := by rw [ho6]
 have D1 := fun w1 (k : Kept w w1) => divq_c (up := false) ha hb (hT.kept k) p1 p2 (ca.kept k) (cb.kept k) (cell_kept k cp)
 have D2 := fun w1 (k : Kept w w1) => divq_c (up := true) ha hb (hT.kept k) p1 p2 (ca.kept k) (cb.kept k) (cell_kept k cp)
 simp only [quotZ_nz n1, quotZ_nz n2, ← ho1, ← ho2, ← ho3, ← ho4, ← hu1, ← hu2, ← hu3, ← hu4] at D1 D2
 have hres : divI a b p = chainL ⟨o5.v, o6.v⟩ [firstK [o1.k, o2.k, o3.k, o4.k], firstK [u1.k, u2.k, u3.k, u4.k]] := by
  rw [divI_chain a b p hz, ← ho1, ← ho2, ← ho3, ← ho4, ← hu1, ← hu2, ← hu3, ← hu4, hm, hg]
 rw [hres]
 generalize firstK [o1.k, o2.k, o3.k, o4.k] = r1 at *
 generalize firstK [u1.k, u2.k, u3.k, u4.k] = r2 at *
 have ok1 : o1.Ok := by rw [ho1]; exact quotD_ok _ _ _ _
 have ok2 : o2.Ok := by rw [ho2]; exact quotD_ok _ _ _ _
 have ok3 : o3.Ok := by rw [ho3]; exact quotD_ok _ _ _ _
 have ok4 : o4.Ok := by rw [ho4]; exact quotD_ok _ _ _ _
 have ok5 : u1.Ok := by rw [hu1]; exact quotD_ok _ _ _ _
 have ok6 : u2.Ok := by rw [hu2]; exact quotD_ok _ _ _ _
 have ok7 : u3.Ok := by rw [hu3]; exact quotD_ok _ _ _ _
 have ok8 : u4.Ok := by rw [hu4]; exact quotD_ok _ _ _ _
 have okL4 : okL [o1.v, o2.v, o3.v, o4.v] := by intro d hd; simp at hd; rcases hd with rfl | rfl | rfl | rfl; exact ok1.1; exact ok2.1; exact ok3.1; exact ok4.1
 have okU4 : okL [u1.v, u2.v, u3.v, u4.v] := by intro d hd; simp at hd; rcases hd with rfl | rfl | rfl | rfl; exact ok5.1; exact ok6.1; exact ok7.1; exact ok8.1
 have cl := fun w1 v (hv : DyS w1 v [o1.v, o2.v, o3.v, o4.v]) => least_c hv okL4 (by simp)
 have cg := fun w1 v (hv : DyS w1 v [u1.v, u2.v, u3.v, u4.v]) => greatest_c hv okU4 (by simp)
 rw [hm] at cl
 rw [hg] at cg
 generalize hl1 : [o1.v, o2.v, o3.v, o4.v] = ls at *
 generalize hl2 : [u1.v, u2.v, u3.v, u4.v] = us at *
 have C1 := Lib.hid D1
 have C2 := Lib.hid D2
 have CL := Lib.hid cl
 have CG := Lib.hid cg
 obtain ⟨B, j, e, B', j', e', hbb, y1, y2⟩ := cb
 have CH := Lib.hid (fun w1 (k : Kept w w1) => has_c (v := .agg #[.bool b.lo.neg, .slice B j e, .int .i64 b.lo.e, .bool b.hi.neg, .slice B' j' e', .int .i64 b.hi.e]) (u := .agg #[.bool false, .slice none 0 0, .int .i64 0]) (a := b) ⟨_, _, _, _, _, _, rfl, y1.kept k, y2.kept k⟩ (by rw [dz_raw]; exact dyR_zero _) hb dz_ok)
 have hhas : hasI b dz = false := by rw [← hz]; unfold hasI hasZero; rw [dz_q]
 rw [hhas] at CH
 obtain ⟨W, hW, kW, B3, B4⟩ := box2r w
 have HW := Lib.hid hW
 have K := Lib.hid kW
 have R3 := Lib.hid B3
 have R4 := Lib.hid B4
 obtain ⟨lb, c0, c1, c2, c3, c4, c5⟩ := hbb.facts
 have hst := steps_chain ⟨o5.v, o6.v⟩ [r1, r2]
 obtain ⟨res, hres'⟩ : ∃ r, r = rawO (chainL ⟨o5.v, o6.v⟩ [r1, r2]) := ⟨_, rfl⟩
 have ST := Lib.hid (show StepsR res ⟨o5.raw.v, o6.raw.v⟩ [r1, r2] by rw [hres']; exact hst)
 rw [← hres']
 have BAD : Hid (∀ (k : Int) (w1 : World), Kept w w1 → k ≠ 0 → res = ⟨rzI, k⟩ → Goes2 162 res w (.panicked (failV 162 k)) w1) := fun k w1 kk hk he => by subst he; exact ⟨kk, .inr ⟨hk, rfl⟩⟩
 obtain ⟨la, -⟩ := (show ∃ x, w.heap[ba]? = some x from ca.elim (fun _ h => by obtain ⟨_, _, _, _, _, h, _⟩ := h; exact ⟨_, h⟩))
 clear hW kW B3 B4 hbb cp ca y1 y2 ha hb hT p1 p2 ho1 ho2 ho3 ho4 ho5 ho6 hu1 hu2 hu3 hu4 hres hres' hst hm hg okL4 okU4 ok1 ok2 ok3 ok4 ok5 ok6 ok7 ok8 D1 D2 cl cg hz hhas n1 n2 hl1 hl2 la
 generalize b.lo.neg = n3 at *
 generalize b.lo.e = e3 at *
 generalize b.hi.neg = n4 at *
 generalize b.hi.e = e4 at *
 go_enter Tryz.func130, Tryz.ntmps130
 go_wp2_with fail
 rw [← HW.out]
 refine (CH.out _ K.out).mono ?_
 rintro e w5 ⟨rfl, q⟩
 simp only []
 go_wp2_with fail
 refine (must_trueA 4 _).mono ?_
 rintro e w6 ⟨rfl, q6⟩
 have kk := q.trans q6
 replace K := Lib.hid (K.out.trans kk)
 have hsW0 : w.heap.size + 1 < w6.heap.size := Nat.lt_of_lt_of_le (Array.getElem?_eq_some_iff.1 R4.out).1 kk.size
 replace R3 := Lib.hid (R3.out.kept kk)
 replace R4 := Lib.hid (R4.out.kept kk)
 clear kk q q6 c0 c1 c2 c3 c4 c5 HW
 simp only []
 go_upto_region 3 with fail
 refine region_seq1 (m := 4) (V := VL [(vE (.func (.func 132) #[] #[.pointer (some ⟨ba, 0, none⟩), .pointer (some ⟨bb, 0, none⟩), .pointer (some ⟨bp, 0, none⟩)])), (fun v wv => r1 = 0 ∧ DyS wv v ls), (fun v wv => (r1 = 0) ∧ DyR wv v o5.raw.v), (fun v wv => ∃ b, v = .pointer (some ⟨b, 0, none⟩) ∧ w6.heap.size ≤ b ∧ Blk wv b (.bool false) (.slice none 0 0) (.int .i64 0))])
  rfl rfl rfl (by kernel_rfl) (by kernel_rfl) (by kernel_rfl) (mono_of _ ⟨mE, fun v w w' k h => by first | exact h | exact h.kept k | exact ⟨h.1, h.2.kept k⟩, fun v w w' k h => by first | exact h | exact h.kept k | exact ⟨h.1, h.2.kept k⟩, fun v w w' k h => by obtain ⟨b, h1, h2, h3⟩ := h; exact ⟨b, h1, h2, h3.kept k⟩, trivial⟩) (steps_of ⟨
   (fun aF wF F => by have s5 : aF.tmps.getD 5 undef = (.func (.func 132) #[] #[.pointer (some ⟨ba, 0, none⟩), .pointer (some ⟨bb, 0, none⟩), .pointer (some ⟨bp, 0, none⟩)]) := F.o 5; exact sv rfl), (fun aF wF F => by have s13 := F.v 0 13; exact step_goesS (by simp [Region.wanted]) (by go_simp) (C1.out _ (K.out.trans F.kept)) (fun _ _ _ h0 h => ⟨h0, h⟩) (fun w2 k2 h0 => ⟨F.defers, BAD.out _ _ (K.out.trans (F.kept.trans k2)) h0 (ST.out.1 h0)⟩)), (fun aF wF F => by have s14 := F.p 1 14; have hC := s14.1; exact step_good (by simp [Region.wanted]) (by go_simp) (CL.out _ _ s14.2) (fun _ _ h => RetD.good h) (fun _ _ h => ⟨hC, h⟩)), (fun aF wF F => by exact step_new (by simp [Region.wanted]) (by go_simp) (kept_alloc _ _) ⟨_, rfl, F.kept.size, blk_new0 _⟩),
   trivial⟩) ?_
 intro u w1 k1 hu
 have p14 := hp hu 1
 have p15 := hp hu 2
 have p6 := hp hu 3
 simp only [puts, slotOf, if_true, Act.put, z1, z2, z3, z4, z5, z6, z7, hv hu 0]
 clear hu
 generalize u 1 = v14 at *
 generalize u 2 = v15 at *
 generalize u 3 = v6 at *
 obtain ⟨bl, rfl, hbl, hB5⟩ := p6
 obtain ⟨z1, hd2⟩ := p15
 obtain ⟨A5, l5, c5, rfl, hd2⟩ := rawR_split hd2
 obtain ⟨lb5, c0, c1, c2, f0, f1, f2⟩ := hB5.facts
 have hsW := (Array.getElem?_eq_some_iff.1 R4.out).1
 have Z := Lib.hid z1
 have KX := Lib.hid (dyW_kept (x := .bool o5.raw.v.neg) (y := .slice A5 l5 c5) (z := .int .i64 o5.raw.v.e) (K.out.trans k1) (show w.heap.size ≤ bl by omega))
 have R3X := Lib.hid ((R3.out.kept k1).laid_other (b' := bl) (by omega) (.bool o5.raw.v.neg) (.slice A5 l5 c5) (.int .i64 o5.raw.v.e))
 have R4X := Lib.hid ((R4.out.kept k1).laid_other (b' := bl) (by omega) (.bool o5.raw.v.neg) (.slice A5 l5 c5) (.int .i64 o5.raw.v.e))
 have B5X := Lib.hid (hB5.laid (.bool o5.raw.v.neg) (.slice A5 l5 c5) (.int .i64 o5.raw.v.e))
 have D5X := Lib.hid (hd2.dyW hB5 (noLimb_bool _) (noLimb_slice _ _ _) (noLimb_i64 _) (.bool o5.raw.v.neg) (.slice A5 l5 c5) (.int .i64 o5.raw.v.e))
 clear z1 hd2 hB5 hsW p14 k1
 go_simp
 go_wp2_with fail
 change Code.wp _ _ _ _ (dyW w1 bl _ _ _)
 generalize dyW w1 bl (.bool o5.raw.v.neg) (.slice A5 l5 c5) (.int .i64 o5.raw.v.e) = X at *
 clear c0 c1 c2 f0 f1 f2 lb5
 refine region_lin2 (m := 4) (V := VL [(vE (.agg #[.bool o5.raw.v.neg, .slice A5 l5 c5, .int .i64 o5.raw.v.e])), (vE (.func (.func 132) #[] #[.pointer (some ⟨ba, 0, none⟩), .pointer (some ⟨bb, 0, none⟩), .pointer (some ⟨bp, 0, none⟩)])), (fun v wv => r2 = 0 ∧ DyS wv v us), (fun v wv => ((r2 = 0) ∧ True) ∧ DyR wv v o6.raw.v)])
  (by kernel_rfl) rfl rfl rfl rfl rfl (by kernel_rfl) (by kernel_rfl) (by kernel_rfl) (by kernel_rfl) (mono_of _ ⟨mE, mE, fun v w w' k h => by first | exact h | exact h.kept k | exact ⟨h.1, h.2.kept k⟩, fun v w w' k h => by first | exact h | exact h.kept k | exact ⟨h.1, h.2.kept k⟩, trivial⟩) (steps_of ⟨
    (fun aF wF F => by have s6 : aF.tmps.getD 6 undef = (.pointer (some ⟨bl, 0, none⟩)) := F.o 6; have c0 := cell_at B5X.out F.kept 0 _ rfl; have c1 := cell_at B5X.out F.kept 1 _ rfl; have c2 := cell_at B5X.out F.kept 2 _ rfl; exact sv rfl), (fun aF wF F => by have s5 : aF.tmps.getD 5 undef = (.func (.func 132) #[] #[.pointer (some ⟨ba, 0, none⟩), .pointer (some ⟨bb, 0, none⟩), .pointer (some ⟨bp, 0, none⟩)]) := F.o 5; exact sv rfl), (fun aF wF F => by have s17 := F.v 1 17; exact step_goesS (by simp [Region.wanted]) (by go_simp) (C2.out _ (KX.out.trans F.kept)) (fun _ _ _ h0 h => ⟨h0, h⟩) (fun w2 k2 h0 => ⟨F.defers, BAD.out _ _ (KX.out.trans (F.kept.trans k2)) h0 ((ST.out.2 Z.out).1 h0)⟩)), (fun aF wF F => by have s18 := F.p 2 18; have hC := s18.1; exact step_good (by simp [Region.wanted]) (by go_simp) (CG.out _ _ s18.2) (fun _ _ h => RetD.good h) (fun _ _ h => ⟨⟨hC, trivial⟩, h⟩)),
    trivial⟩) ?_
 intro u w1 k1 hu
 have p18 := hp hu 2
 have p19 := hp hu 3
 simp only [puts, slotOf, if_true, Act.put, z1, z2, z3, z4, z5, z6, z7, hv hu 0, hv hu 1]
 clear hu
 generalize u 2 = v18 at *
 generalize u 3 = v19 at *
 obtain ⟨⟨z4, -⟩, hd4⟩ := p19
 obtain ⟨A6, l6, c6, rfl, hd4⟩ := rawR_split hd4
 have hres := (ST.out.2 Z.out).2 z4
 have r3 := R3X.out.kept k1
 have r4 := R4X.out.kept k1
 have hk := KX.out.trans k1
 have hd5 := D5X.out.kept k1
 obtain ⟨-, c0, c1, c2, f0, f1, f2⟩ := r3.facts
 obtain ⟨-, d0, d1, d2, g0, g1, g2⟩ := r4.facts
 obtain ⟨t1, t2, t3⟩ := two_laid (T := 162) hk (Nat.le_refl _) (Nat.le_succ _) (by omega) r3 r4 hd5 hd4 hres
 have T1 := Lib.hid t1
 have T2 := Lib.hid t2
 have T3 := Lib.hid t3
 clear t1 t2 t3 r3 r4 hk hd5 hd4 hres z4 p18 k1
 refine ⟨?_, ?_⟩
 ·go_simp
  go_wp2_with fail
  exact ret_dydy T1.out T2.out rfl rfl rfl rfl T3.out
 ·first
   | exact .inl (by kernel_rfl)
   | (right
      rw [dyW_swap _ (by omega)] at T1 T2 T3
      go_simp
      go_wp2_with fail
      exact ret_dydy T1.out T2.out rfl rfl rfl rfl T3.out)
/-- The clean one of a raw interval that may be. -/
def RawI.iv (a : RawI) : Iv := ⟨a.lo.dy, a.hi.dy⟩
theorem iv_clean {a : RawI} (h1 : Small a.lo.m) (h2 : Small a.hi.m) (h : mayI a = true) : a.iv.Ok ∧ a.iv.raw = a := by
 unfold mayI at h
 simp only [Bool.and_eq_true, decide_eq_true_eq] at h
 obtain ⟨⟨m1, m2⟩, m3⟩ := h
 obtain ⟨c1, d1⟩ := mayD_clean h1 m1
 obtain ⟨c2, d2⟩ := mayD_clean h2 m2
 exact ⟨⟨d1, d2, cmpQ_le.1 m3⟩, by unfold RawI.iv Iv.raw; simp only [c1, c2]⟩
theorem Iv.raw_iv (a : Iv) : a.raw.iv = a := by unfold Iv.raw RawI.iv; simp only [Dy.raw_dy]
theorem ends_iz {lo hi : Outc Dy} (h : (ends lo hi).k ≠ 0) : (ends lo hi).v = iz := by
 unfold ends Outc.bind at *
 by_cases h1 : lo.k = 0
 ·simp only [if_pos h1] at h ⊢
  by_cases h2 : hi.k = 0
  ·simp only [if_pos h2] at h; exact absurd rfl h
  ·simp only [if_neg h2]
 ·simp only [if_neg h1]
theorem bind_iz {α : Type} {o : Outc α} {f : α → Outc Iv} (hf : ∀ x, (f x).k ≠ 0 → (f x).v = iz) (h : (o.bind iz f).k ≠ 0) : (o.bind iz f).v = iz := by
 unfold Outc.bind at *
 by_cases h1 : o.k = 0
 ·rw [if_pos h1] at h ⊢; exact hf _ h
 ·rw [if_neg h1]
theorem four_iz {a b c d : Outc Dy} {f : Dy → Dy → Dy → Dy → Outc Iv} (hf : ∀ x y z u, (f x y z u).k ≠ 0 → (f x y z u).v = iz) (h : (four a b c d f).k ≠ 0) : (four a b c d f).v = iz := by
 unfold four at *
 exact bind_iz (fun x => bind_iz fun y => bind_iz fun z => bind_iz fun u => hf x y z u) h
theorem addI_iz {a b : Iv} {p : Nat} (h : (addI a b p).k ≠ 0) : (addI a b p).v = iz := ends_iz h
theorem mulI_iz {a b : Iv} {p : Nat} (h : (mulI a b p).k ≠ 0) : (mulI a b p).v = iz := four_iz (fun _ _ _ _ h => ends_iz h) h
theorem divI_iz {a b : Iv} {p : Nat} (h : (divI a b p).k ≠ 0) : (divI a b p).v = iz := by
 unfold divI at *
 by_cases hs : hasZero b = true
 ·rw [if_pos hs]
 ·rw [if_neg hs] at h ⊢; exact four_iz (fun _ _ _ _ h => four_iz (fun _ _ _ _ h => absurd rfl h) h) h
theorem rawO_iz {o : Outc Iv} (h : o.k ≠ 0 → o.v = iz) : (rawO o).k ≠ 0 → (rawO o).v = rzI := fun hk => by
 show o.v.raw = rzI
 rw [h hk, iz_raw]
theorem new_at (w : World) (o : Obj) (n : Nat) (h : w.heap.size = n) : (w.alloc o).heap[n]? = some o := by subst h; exact heap_alloc_new _ _
theorem blkI_at (w : World) (n : Nat) (x y z x' y' z' : Value) (h : w.heap.size = n) : BlkI (w.alloc (.cells #[x, y, z, x', y', z'] 32)) n x y z x' y' z' := new_at w _ n h
/-- The boxes of an operation with two intervals, and the list of both. -/
theorem boxesA2 (w : World) (x0 x1 x2 x3 x4 x5 y0 y1 y2 y3 y4 y5 p : Value) : ∃ W, W = ((((w.alloc (.cells #[x0, x1, x2, x3, x4, x5] 32)).alloc (.cells #[y0, y1, y2, y3, y4, y5] 32)).alloc (.cells #[p] 3)).alloc (.cells #[.bool false, .slice none 0 0, .int .i64 0, .bool false, .slice none 0 0, .int .i64 0] 32)).alloc (.cells #[x0, x1, x2, x3, x4, x5, y0, y1, y2, y3, y4, y5] 32) ∧
 Kept w W ∧ BlkI W w.heap.size x0 x1 x2 x3 x4 x5 ∧ BlkI W (w.heap.size + 1) y0 y1 y2 y3 y4 y5 ∧ W.cell? ⟨w.heap.size + 1 + 1, 0, none⟩ = some p ∧ BlkI W (w.heap.size + 1 + 1 + 1) (.bool false) (.slice none 0 0) (.int .i64 0) (.bool false) (.slice none 0 0) (.int .i64 0) ∧
 W.heap[w.heap.size + 1 + 1 + 1 + 1]? = some (.cells #[x0, x1, x2, x3, x4, x5, y0, y1, y2, y3, y4, y5] 32 (0, 0)) := by
 refine ⟨_, rfl, ((((kept_alloc _ _).trans (kept_alloc _ _)).trans (kept_alloc _ _)).trans (kept_alloc _ _)).trans (kept_alloc _ _), ?_, ?_, ?_, ?_, new_at _ _ _ (by simp)⟩
 ·exact ((((blkI_at w _ _ _ _ _ _ _ rfl).kept (kept_alloc _ _)).kept (kept_alloc _ _)).kept (kept_alloc _ _)).kept (kept_alloc _ _)
 ·exact (((blkI_at _ _ _ _ _ _ _ _ (by simp)).kept (kept_alloc _ _)).kept (kept_alloc _ _)).kept (kept_alloc _ _)
 ·exact cell_kept (kept_alloc _ _) (cell_kept (kept_alloc _ _) (cell_of_block (new_at _ _ _ (by simp)) 0 _ rfl))
 ·exact (blkI_at _ _ _ _ _ _ _ _ (by simp)).kept (kept_alloc _ _)
theorem ivS2 {w : World} {b : Nat} {a a' : RawI} {T : TypeId} {x0 x1 x2 x3 x4 x5 y0 y1 y2 y3 y4 y5 : Value} (h : w.heap[b]? = some (.cells #[x0, x1, x2, x3, x4, x5, y0, y1, y2, y3, y4, y5] T (0, 0))) (h1 : IvR w (.agg #[x0, x1, x2, x3, x4, x5]) a) (h2 : IvR w (.agg #[y0, y1, y2, y3, y4, y5]) a') :
 IvS w (.slice (some ⟨b, 0, none⟩) 2 2) [a, a'] := by
 refine ⟨_, _, rfl, Nat.le_refl _, fun _ => ⟨b, 0, rfl, fun i d hi => ?_⟩⟩
 rcases i with _ | _ | i
 ·simp at hi; subst hi
  exact ⟨_, _, _, _, _, _, cell_of_block h 0 _ rfl, cell_of_block h 1 _ rfl, cell_of_block h 2 _ rfl, cell_of_block h 3 _ rfl, cell_of_block h 4 _ rfl, cell_of_block h 5 _ rfl, h1⟩
 ·simp at hi; subst hi
  exact ⟨_, _, _, _, _, _, cell_of_block h 6 _ rfl, cell_of_block h 7 _ rfl, cell_of_block h 8 _ rfl, cell_of_block h 9 _ rfl, cell_of_block h 10 _ rfl, cell_of_block h 11 _ rfl, h2⟩
 ·simp at hi
theorem blkIv_of {w : World} {b : Nat} {a : RawI} {A A' : Option Addr} {l c l' c' : Nat} (hr : a.iv.raw = a) (h : BlkI w b (.bool a.lo.neg) (.slice A l c) (.int .i64 a.lo.e) (.bool a.hi.neg) (.slice A' l' c') (.int .i64 a.hi.e))
 (h1 : DyR w (.agg #[.bool a.lo.neg, .slice A l c, .int .i64 a.lo.e]) a.lo) (h2 : DyR w (.agg #[.bool a.hi.neg, .slice A' l' c', .int .i64 a.hi.e]) a.hi) : BlkIv w b a.iv := by
 have e1 : a.iv.lo.raw = a.lo := congrArg RawI.lo hr
 have e2 : a.iv.hi.raw = a.hi := congrArg RawI.hi hr
 exact ⟨A, l, c, A', l', c', h, by rw [e1]; exact h1, by rw [e2]; exact h2⟩
theorem DyR.small {w : World} {v : Value} {r : Raw} (h : DyR w v r) : Small r.m := by
 obtain ⟨s, _, hs, _⟩ := h
 exact hs.1
theorem Add_i {w : World} {v u : Value} {a b : RawI} {p : Int} (hv : IvR w v a) (hu : IvR w u b) (la : a.lens 17592186044416) (lb : b.lens 17592186044416) (hT : Tab w) :
 Calls Tryz.prog 107 #[v, u, .int .i64 p] w (RetIE (faceO p [a, b] (rawO (addI a.iv b.iv p.toNat))) w) := by
 have hmf : ∀ (fn : Fn) (first cap : Array Value) (w : World), (Instr.makeFunc fn first cap).run Tryz.prog w = .ok (.func fn first cap) w := fun _ _ _ _ => rfl
 obtain ⟨A, l, c, A', l', c', rfl, h1, h2⟩ := ivR_split hv
 obtain ⟨B, j, e, B', j', e', rfl, g1, g2⟩ := ivR_split hu
 obtain ⟨W, hW, kW, BA, BB, cp, BR, BL⟩ := boxesA2 w (.bool a.lo.neg) (.slice A l c) (.int .i64 a.lo.e) (.bool a.hi.neg) (.slice A' l' c') (.int .i64 a.hi.e) (.bool b.lo.neg) (.slice B j e) (.int .i64 b.lo.e) (.bool b.hi.neg) (.slice B' j' e') (.int .i64 b.hi.e) (.int .i64 p)
 have hf := face_cA (w := W) (K := 137) (cap := #[.pointer (some ⟨w.heap.size, 0, none⟩), .pointer (some ⟨w.heap.size + 1, 0, none⟩), .pointer (some ⟨w.heap.size + 1 + 1, 0, none⟩)]) (p := p) (l := [a, b]) (o := rawO (addI a.iv b.iv p.toNat))
  (ivS2 BL ⟨_, _, _, _, _, _, rfl, h1.kept kW, h2.kept kW⟩ ⟨_, _, _, _, _, _, rfl, g1.kept kW, g2.kept kW⟩)
  (by intro x hx; simp only [List.mem_cons, List.not_mem_nil, or_false] at hx; rcases hx with rfl | rfl; exact la; exact lb) (by simp)
  (fun p1 p2 hall w1 k => by
    simp only [List.all_cons, List.all_nil, Bool.and_true, Bool.and_eq_true] at hall
    obtain ⟨oa, ra⟩ := iv_clean h1.small h2.small hall.1
    obtain ⟨ob, rb⟩ := iv_clean g1.small g2.small hall.2
    have hp : ((p.toNat : Nat) : Int) = p := Int.toNat_of_nonneg (by omega)
    exact add1_c (p := p.toNat) oa ob (hT.kept (kW.trans k)) (by omega) (by omega) (blkIv_of ra (BA.kept k) (h1.kept (kW.trans k)) (h2.kept (kW.trans k))) (blkIv_of rb (BB.kept k) (g1.kept (kW.trans k)) (g2.kept (kW.trans k))) (by rw [hp]; exact cell_kept k cp))
  (rawO_iz addI_iz) (fun _ => rfl)
 generalize faceO p [a, b] (rawO (addI a.iv b.iv p.toNat)) = o at *
 have HF := Lib.hid hf
 have HW := Lib.hid hW
 have HK := Lib.hid kW
 have HR := Lib.hid BR
 clear hf hW kW BA BB BR BL cp h1 h2 g1 g2 hv hu la lb hT
 generalize a.lo.neg = n1 at *
 generalize a.lo.e = e1 at *
 generalize a.hi.neg = n2 at *
 generalize a.hi.e = e2 at *
 generalize b.lo.neg = n3 at *
 generalize b.lo.e = e3 at *
 generalize b.hi.neg = n4 at *
 generalize b.hi.e = e4 at *
 go_enter Tryz.func107, Tryz.ntmps107
 go_wp2_with (go_at_call 129; rw [← HW.out]; refine HF.out.mono ?_; rintro e w1 ⟨q, u, rfl, hd⟩; obtain ⟨A1, j1, k1', A2, j2, k2', rfl, z1, z2⟩ := ivR_split hd; have Z1 := Lib.hid z1; have Z2 := Lib.hid z2; have hb2 := HR.out.kept q; obtain ⟨hsz, c0, c1, c2, c3, c4, c5⟩ := hb2.facts; obtain ⟨f0, f1, f2, f3, f4, f5⟩ := hb2.free; have HRR := Lib.hid hb2; clear hd hb2 z1 z2)
 exact ret_iv2 (HRR.out.laid _ _ _ _ _ _) rfl rfl rfl ⟨ivW_kept (HK.out.trans q) (by omega), _, rfl, _, _, _, _, _, _, rfl, Z1.out.ivW HRR.out _ _ _ _ _ _, Z2.out.ivW HRR.out _ _ _ _ _ _⟩
theorem Mul_i {w : World} {v u : Value} {a b : RawI} {p : Int} (hv : IvR w v a) (hu : IvR w u b) (la : a.lens 17592186044416) (lb : b.lens 17592186044416) (hT : Tab w) :
 Calls Tryz.prog 109 #[v, u, .int .i64 p] w (RetIE (faceO p [a, b] (rawO (mulI a.iv b.iv p.toNat))) w) := by
 have hmf : ∀ (fn : Fn) (first cap : Array Value) (w : World), (Instr.makeFunc fn first cap).run Tryz.prog w = .ok (.func fn first cap) w := fun _ _ _ _ => rfl
 obtain ⟨A, l, c, A', l', c', rfl, h1, h2⟩ := ivR_split hv
 obtain ⟨B, j, e, B', j', e', rfl, g1, g2⟩ := ivR_split hu
 obtain ⟨W, hW, kW, BA, BB, cp, BR, BL⟩ := boxesA2 w (.bool a.lo.neg) (.slice A l c) (.int .i64 a.lo.e) (.bool a.hi.neg) (.slice A' l' c') (.int .i64 a.hi.e) (.bool b.lo.neg) (.slice B j e) (.int .i64 b.lo.e) (.bool b.hi.neg) (.slice B' j' e') (.int .i64 b.hi.e) (.int .i64 p)
 have hf := face_cA (w := W) (K := 140) (cap := #[.pointer (some ⟨w.heap.size, 0, none⟩), .pointer (some ⟨w.heap.size + 1, 0, none⟩), .pointer (some ⟨w.heap.size + 1 + 1, 0, none⟩)]) (p := p) (l := [a, b]) (o := rawO (mulI a.iv b.iv p.toNat))
  (ivS2 BL ⟨_, _, _, _, _, _, rfl, h1.kept kW, h2.kept kW⟩ ⟨_, _, _, _, _, _, rfl, g1.kept kW, g2.kept kW⟩)
  (by intro x hx; simp only [List.mem_cons, List.not_mem_nil, or_false] at hx; rcases hx with rfl | rfl; exact la; exact lb) (by simp)
  (fun p1 p2 hall w1 k => by
    simp only [List.all_cons, List.all_nil, Bool.and_true, Bool.and_eq_true] at hall
    obtain ⟨oa, ra⟩ := iv_clean h1.small h2.small hall.1
    obtain ⟨ob, rb⟩ := iv_clean g1.small g2.small hall.2
    have hp : ((p.toNat : Nat) : Int) = p := Int.toNat_of_nonneg (by omega)
    exact amul1_c (p := p.toNat) oa ob (hT.kept (kW.trans k)) (by omega) (by omega) (blkIv_of ra (BA.kept k) (h1.kept (kW.trans k)) (h2.kept (kW.trans k))) (blkIv_of rb (BB.kept k) (g1.kept (kW.trans k)) (g2.kept (kW.trans k))) (by rw [hp]; exact cell_kept k cp))
  (rawO_iz mulI_iz) (fun _ => rfl)
 generalize faceO p [a, b] (rawO (mulI a.iv b.iv p.toNat)) = o at *
 have HF := Lib.hid hf
 have HW := Lib.hid hW
 have HK := Lib.hid kW
 have HR := Lib.hid BR
 clear hf hW kW BA BB BR BL cp h1 h2 g1 g2 hv hu la lb hT
 generalize a.lo.neg = n1 at *
 generalize a.lo.e = e1 at *
 generalize a.hi.neg = n2 at *
 generalize a.hi.e = e2 at *
 generalize b.lo.neg = n3 at *
 generalize b.lo.e = e3 at *
 generalize b.hi.neg = n4 at *
 generalize b.hi.e = e4 at *
 go_enter Tryz.func109, Tryz.ntmps109
 go_wp2_with (go_at_call 129; rw [← HW.out]; refine HF.out.mono ?_; rintro e w1 ⟨q, u, rfl, hd⟩; obtain ⟨A1, j1, k1', A2, j2, k2', rfl, z1, z2⟩ := ivR_split hd; have Z1 := Lib.hid z1; have Z2 := Lib.hid z2; have hb2 := HR.out.kept q; obtain ⟨hsz, c0, c1, c2, c3, c4, c5⟩ := hb2.facts; obtain ⟨f0, f1, f2, f3, f4, f5⟩ := hb2.free; have HRR := Lib.hid hb2; clear hd hb2 z1 z2)
 exact ret_iv2 (HRR.out.laid _ _ _ _ _ _) rfl rfl rfl ⟨ivW_kept (HK.out.trans q) (by omega), _, rfl, _, _, _, _, _, _, rfl, Z1.out.ivW HRR.out _ _ _ _ _ _, Z2.out.ivW HRR.out _ _ _ _ _ _⟩
theorem Div_i {w : World} {v u : Value} {a b : RawI} {p : Int} (hv : IvR w v a) (hu : IvR w u b) (la : a.lens 17592186044416) (lb : b.lens 17592186044416) (hT : Tab w) :
 Calls Tryz.prog 105 #[v, u, .int .i64 p] w (RetIE (faceO p [a, b] (rawO (divI a.iv b.iv p.toNat))) w) := by
 have hmf : ∀ (fn : Fn) (first cap : Array Value) (w : World), (Instr.makeFunc fn first cap).run Tryz.prog w = .ok (.func fn first cap) w := fun _ _ _ _ => rfl
 obtain ⟨A, l, c, A', l', c', rfl, h1, h2⟩ := ivR_split hv
 obtain ⟨B, j, e, B', j', e', rfl, g1, g2⟩ := ivR_split hu
 obtain ⟨W, hW, kW, BA, BB, cp, BR, BL⟩ := boxesA2 w (.bool a.lo.neg) (.slice A l c) (.int .i64 a.lo.e) (.bool a.hi.neg) (.slice A' l' c') (.int .i64 a.hi.e) (.bool b.lo.neg) (.slice B j e) (.int .i64 b.lo.e) (.bool b.hi.neg) (.slice B' j' e') (.int .i64 b.hi.e) (.int .i64 p)
 have hf := face_cA (w := W) (K := 130) (cap := #[.pointer (some ⟨w.heap.size + 1, 0, none⟩), .pointer (some ⟨w.heap.size, 0, none⟩), .pointer (some ⟨w.heap.size + 1 + 1, 0, none⟩)]) (p := p) (l := [a, b]) (o := rawO (divI a.iv b.iv p.toNat))
  (ivS2 BL ⟨_, _, _, _, _, _, rfl, h1.kept kW, h2.kept kW⟩ ⟨_, _, _, _, _, _, rfl, g1.kept kW, g2.kept kW⟩)
  (by intro x hx; simp only [List.mem_cons, List.not_mem_nil, or_false] at hx; rcases hx with rfl | rfl; exact la; exact lb) (by simp)
  (fun p1 p2 hall w1 k => by
    simp only [List.all_cons, List.all_nil, Bool.and_true, Bool.and_eq_true] at hall
    obtain ⟨oa, ra⟩ := iv_clean h1.small h2.small hall.1
    obtain ⟨ob, rb⟩ := iv_clean g1.small g2.small hall.2
    have hp : ((p.toNat : Nat) : Int) = p := Int.toNat_of_nonneg (by omega)
    exact adiv1_c (p := p.toNat) oa ob (hT.kept (kW.trans k)) (by omega) (by omega) (blkIv_of ra (BA.kept k) (h1.kept (kW.trans k)) (h2.kept (kW.trans k))) (blkIv_of rb (BB.kept k) (g1.kept (kW.trans k)) (g2.kept (kW.trans k))) (by rw [hp]; exact cell_kept k cp))
  (rawO_iz divI_iz) (fun _ => rfl)
 generalize faceO p [a, b] (rawO (divI a.iv b.iv p.toNat)) = o at *
 have HF := Lib.hid hf
 have HW := Lib.hid hW
 have HK := Lib.hid kW
 have HR := Lib.hid BR
 clear hf hW kW BA BB BR BL cp h1 h2 g1 g2 hv hu la lb hT
 generalize a.lo.neg = n1 at *
 generalize a.lo.e = e1 at *
 generalize a.hi.neg = n2 at *
 generalize a.hi.e = e2 at *
 generalize b.lo.neg = n3 at *
 generalize b.lo.e = e3 at *
 generalize b.hi.neg = n4 at *
 generalize b.hi.e = e4 at *
 go_enter Tryz.func105, Tryz.ntmps105
 go_wp2_with (go_at_call 129; rw [← HW.out]; refine HF.out.mono ?_; rintro e w1 ⟨q, u, rfl, hd⟩; obtain ⟨A1, j1, k1', A2, j2, k2', rfl, z1, z2⟩ := ivR_split hd; have Z1 := Lib.hid z1; have Z2 := Lib.hid z2; have hb2 := HR.out.kept q; obtain ⟨hsz, c0, c1, c2, c3, c4, c5⟩ := hb2.facts; obtain ⟨f0, f1, f2, f3, f4, f5⟩ := hb2.free; have HRR := Lib.hid hb2; clear hd hb2 z1 z2)
 exact ret_iv2 (HRR.out.laid _ _ _ _ _ _) rfl rfl rfl ⟨ivW_kept (HK.out.trans q) (by omega), _, rfl, _, _, _, _, _, _, rfl, Z1.out.ivW HRR.out _ _ _ _ _ _, Z2.out.ivW HRR.out _ _ _ _ _ _⟩
end Go.Proofs.YtgododcbmkpbjaaGreatDoor
