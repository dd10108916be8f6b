/- Plain mathematics, no program: the coefficients of solutions of x' = x and x' = x x hold what they should. -/
import Derived.Test.YtgododcbmkpbjaaGreatDoorClaimJexpp33
import Derived.Test.YtgododcbmkpbjaaGreatDoorClaimJexpp38
set_option maxRecDepth 100000
set_option maxHeartbeats 16000000
namespace Go.Proofs.YtgododcbmkpbjaaGreatDoor
open Go.RowKit
theorem coefG_snoc (p : Nat) (g c : List RawI) (j m : Nat) (h : 0 < m) : coefG p g c (List.range' j m) =
 if (roundI (gI g j) p).k = 0 then coefG p g (c ++ [(roundI (gI g j) p).v.raw]) (List.range' (j + 1) (m - 1)) else ⟨[], (roundI (gI g j) p).k⟩ := by
 obtain ⟨m, rfl⟩ : ∃ k, m = k + 1 := ⟨m - 1, by omega⟩
 rw [List.range'_succ]
 rfl
theorem lineX_c {w : World} {vl vall vt vx vq : Value} {l : Ln} {g : List RawI} {k p : Nat} (hop : l.op = 3) (hv : LnR w vl l) {rs : List (List RawI)} {i : Nat} (hrs : Rws w vx rs) (hi : i < rs.length) (hla : l.a = (i : Int)) (hge : rs.getD i [] = g) (gg : Gd g) (na : k < g.length) (la : g.length ≤ 1000) (hT : Tab w) (p1 : 1 ≤ p) (p2 : p ≤ 300) :
 Calls Tryz.prog 104 #[.agg #[.int .i64 p], vl, vall, vt, vx, vq, .int .i64 k] w (GoesL (coefG p g [] (List.range' 0 (k + 1))) w) := by
 obtain ⟨bX, oX, cX, sX, rfl, -, cellX, hg⟩ := hrs.row hi
 rw [hge] at hg
 obtain ⟨bG, oG, cG, rfl, -, hRG⟩ := hg.place gg (by omega)
 have RG := Lib.hid (fun w1 (q : Kept w w1) j (hj : j ≤ k) => hRG w1 q j (by omega))
 clear hRG hg hrs hge
 obtain ⟨x, y, z, x', y', z', rfl, hK⟩ := hv
 rw [hop]
 have CR := Lib.hid (fun w1 (q : Kept w w1) n v (hn : n ≤ k) (hv : IvR w1 v (gI g n).raw) => iround_c (p := p) hv (gd_at gg (by omega)).1 (hT.kept q) p1 (by omega))
 obtain ⟨W, hW, kW, bW, bL⟩ := boxwl w p (.int .i64 3) (.int .i64 l.a) (.int .i64 l.b) x y z x' y' z'
 have HW := Lib.hid hW
 have K := Lib.hid kW
 have HP := Lib.hid bW
 have HLN := Lib.hid bL
 have c0 := cell_of_block bL 0 _ rfl
 have c1 := cell_of_block bL 1 _ rfl
 have cX1 := (kW.cell (p := ⟨bX, oX + i, none⟩) (lt_of_cell cellX)).trans cellX
 rw [hla] at bL c0 c1 HLN HW ⊢
 clear cellX
 generalize rs.length = mX at *
 obtain ⟨r, er⟩ : ∃ r, r = coefG p g [] (List.range' 0 (k + 1)) := ⟨_, rfl⟩
 have ER := Lib.hid er
 rw [← er]
 generalize l.a = la' at *
 generalize l.b = lb' at *
 have hk9 : k < 1000 := by omega
 clear hW kW bW bL gg hT p1 p2 hK er hop
 go_enter Tryz.func104, Tryz.ntmps104
 go_wp2_with fail
 rw [← HW.out]
 clear HW
 go_step3
 go_upto_region 11 with fail
 go_step3
 go_wp2_with fail
 go_loopw [15, 17] (fun vc t wr => ∃ (j : Nat) (c : List RawI) (xs : List Value), t = .int .i64 (j : Int) ∧ j ≤ k + 1 ∧ c.length = j ∧ coefG p g c (List.range' j (k + 1 - j)) = r ∧ OwnI wr W.heap.size vc c xs ∧ Kept W wr) (fun _ t _ => (k + 1 - intOf t).toNat)
 case atStart => exact ⟨0, [], [], rfl, Nat.zero_le _, rfl, ER.out.symm, OwnI.nil _ _, Below.refl _ _⟩
 case round =>
  obtain ⟨j, c, xs, rfl, hj, hcl, hco, hown, hkr⟩ := hrel
  have HCL := Lib.hid hcl
  have HCO := Lib.hid hco
  have OWN := Lib.hid hown
  have KR := Lib.hid hkr
  clear hcl hco hown hkr
  by_cases hjk : j ≤ k
  ·obtain ⟨o, ho⟩ : ∃ o, o = roundI (gI g j) p := ⟨_, rfl⟩
   have hsn := coefG_snoc p g c j (k + 1 - j) (by omega)
   rw [HCO.out, ← ho] at hsn
   have hbad : o.k ≠ 0 → r = ⟨[], o.k⟩ := fun h => by rw [hsn, if_neg h]
   have hgo : o.k = 0 → coefG p g (c ++ [o.v.raw]) (List.range' (j + 1) (k + 1 - (j + 1))) = r := fun h => by rw [hsn, if_pos h, show k + 1 - (j + 1) = k + 1 - j - 1 by omega]
   have HNX := Lib.hid (fun w1 (q : Kept wr w1) v (hv : IvR w1 v (gI g j).raw) => ho ▸ CR.out w1 ((K.out.trans KR.out).trans q) j v hjk hv)
   have BAD := Lib.hid (fun (w1 : World) (q : Kept w w1) (h : o.k ≠ 0) => show GoesL r w (.panicked (failV 117 o.k)) w1 by rw [hbad h]; exact ⟨q, .inr ⟨h, rfl⟩⟩)
   have GO := Lib.hid hgo
   have HPw := Lib.hid ((KR.out.block _ (Array.getElem?_eq_some_iff.1 HP.out).1).trans HP.out)
   have enil := fun (w : World) => Go.run_neq_slice_nil_any (P := Tryz.prog) w 33 32 (some ⟨bG, oG, none⟩) g.length cG 0 0 Tryz.underlying33
   have hro : (rawO o).k = o.k := rfl
   have hjg : j < g.length := by omega
   clear ho hsn hbad hgo
   go_wp2_with fail
   clear enil
   refine region_lin2 (m := 12) (V := VL [(vE u15), (vE (.slice (some ⟨bG, oG, none⟩) g.length cG)), (vE (.int .i64 (j : Int))), (vE (.pointer (some ⟨bG, oG + j * 6, none⟩))), (fun v wv => IvR wv v ((gI g j).raw)), (vP w.heap.size 0), (vE (.int .i64 (p : Int))), (fun v wv => ∃ d, v = .tuple #[d, .int .i64 (rawO o).k] ∧ IvR wv d (rawO o).v), (fun v wv => IvR wv v (rawO o).v), (vE (.int .i64 (rawO o).k)), (fun v wv => o.k = 0 ∧ IvR wv v o.v.raw), (fun v wv => OneI wv v o.v.raw)])
    (by kernel_rfl) rfl rfl rfl rfl rfl (by kernel_rfl) (by kernel_rfl) (by kernel_rfl) (by kernel_rfl) (mono_of _ ⟨mE, mE, mE, mE, fun v w w' k h => by first | exact h | exact h.kept k | exact ⟨h.1, h.2.kept k⟩, mE, mE, fun v w w' k h => by obtain ⟨d, h1, h2⟩ := h; exact ⟨d, h1, h2.kept k⟩, fun v w w' k h => by first | exact h | exact h.kept k | exact ⟨h.1, h.2.kept k⟩, mE, fun v w w' k h => ⟨h.1, h.2.kept k⟩, fun v w w' k h => h.kept k, trivial⟩) (steps_of ⟨
      (fun aF wF F => by have s15 : aF.tmps.getD 15 undef = u15 := F.o 15; exact sv rfl), (fun aF wF F => by have s16 : aF.tmps.getD 16 undef = (.slice (some ⟨bG, oG, none⟩) g.length cG) := F.o 16; exact sv rfl), (fun aF wF F => by have s17 : aF.tmps.getD 17 undef = (.int .i64 (j : Int)) := F.o 17; exact sv rfl), (fun aF wF F => by have s52 := F.v 1 52; have s53 := F.v 2 53; exact sv rfl), (fun aF wF F => by have s54 := F.v 3 54; obtain ⟨xx, yy, zz, xx', yy', zz', h0, h1, h2, h3, h4, h5, hI⟩ := (RG.out _ ((K.out.trans KR.out).trans F.kept) j (by omega)); exact step_val (by simp [Region.wanted]) (by go_simp) hI), (fun aF wF F => by have s7 : aF.tmps.getD 7 undef = (.pointer (some ⟨w.heap.size, 0, none⟩)) := F.o 7; exact sv rfl), (fun aF wF F => by have s56 := F.v 5 56; have c0 := cell_at HPw.out F.kept 0 _ rfl; exact sv rfl), (fun aF wF F => by have s55 := F.p 4 55; have s57 := F.v 6 57; exact sP (HNX.out _ F.kept _ s55) fun _ _ h => h), (fun aF wF F => by have s58 := F.p 7 58; obtain ⟨dd, ee, hh⟩ := s58; exact step_val (by simp [Region.wanted]) (by go_simp) hh), (fun aF wF F => by have s58 := F.p 7 58; exact sw (by obtain ⟨dd, ee, hh⟩ := s58; go_simp) rfl), (fun aF wF F => by have s59 := F.p 8 59; have s60 := F.v 9 60; exact sJ (sure_cJ (o := o) s59) (fun _ _ _ h0 h => ⟨h0, h⟩) (fun w2 k2 h0 => ⟨F.defers, BAD.out _ ((K.out.trans KR.out).trans (F.kept.trans k2)) h0⟩)), (fun aF wF F => by have s61 := F.p 10 61; obtain ⟨A1, l1, d1, A2, l2, d2, e9, h9, g9⟩ := ivR_split s61.2; simp only [Array.getD_eq_getD_getElem?] at e9; exact step_new (by simp [Region.wanted]) (by first | (go_simp; done) | (go_simp; rfl)) (kept_alloc _ _) (oneI_new (r := o.v.raw) ⟨_, _, _, _, _, _, rfl, h9, g9⟩)),
      trivial⟩) ?_
   intro u w1 k1 hu
   have p55 := hp hu 4
   have p58 := hp hu 7
   have p59 := hp hu 8
   have p61 := hp hu 10
   have p62 := hp hu 11
   simp only [puts, slotOf, if_true, Act.put, z1, z2, z3, z4, z5, z6, z7, hv hu 0, hv hu 1, hv hu 2, hv hu 3, hv hu 5, hv hu 6, hv hu 9]
   clear hu
   generalize u 4 = v55 at *
   generalize u 7 = v58 at *
   generalize u 8 = v59 at *
   generalize u 10 = v61 at *
   generalize u 11 = v62 at *
   obtain ⟨h0, -⟩ := p61
   obtain ⟨b1, x0, x1, x2, x3, x4, x5, e81, hb1, hI⟩ := p62
   subst e81
   have own1 := OWN.out.kept k1
   have hcl9 : c.length ≤ 1000 := by have := HCL.out; omega
   have hW9 : W.heap.size ≤ w1.heap.size := (KR.out.trans k1).size
   refine ⟨?_, .inl (by kernel_rfl)⟩
   refine wp_append_iv (.tmp 51) (.tmp 62) ?ho (v := u15) ?hs own1 hI hb1 ?hx hcl9 hW9 ?h
   case ho => rfl
   case hs => first | rfl | (go_simp; done)
   case hx => first | rfl | (go_simp; done)
   intro v' X OX gX
   have KX := Lib.hid (OwnI.grown_kept own1 (KR.out.trans k1) gX)
   have OXX := Lib.hid OX
   have H0 := Lib.hid h0
   clear own1 hI hb1 OX gX k1 h0 hW9 p55 p58 p59
   go_simp
   go_wp2_with fail
   go_roundw
   case rel => exact ⟨j + 1, c ++ [o.v.raw], _, by go_num, by omega, by simp [HCL.out], GO.out H0.out, OXX.out, KX.out⟩
   case measure => simp [intOf]; omega
  ·obtain rfl : j = k + 1 := by omega
   have hr : r = ⟨c, 0⟩ := by
    have := HCO.out
    rw [show k + 1 - (k + 1) = 0 by omega] at this
    exact this.symm
   have FI := Lib.hid (show GoesL r w (.returned u15) wr by
    rw [hr]
    exact ⟨K.out.trans KR.out, .inl ⟨rfl, _, rfl, OWN.out.ivS, fun g hg => Nat.le_trans K.out.size (OWN.out.base g hg)⟩⟩)
   clear hr
   go_wp2_with fail
   go_ret
   exact FI.out
theorem gI_ok {l : List RawI} (g : Gd l) (i : Nat) : (gI l i).Ok := by
 by_cases h : i < l.length
 ·exact (gd_at g h).1
 ·unfold gI
  rw [List.getD_eq_getElem?_getD, List.getElem?_eq_none (by omega), Option.getD_none, ← iz_rawz, Iv.raw_iv]
  exact iz_ok
theorem gd_nil : Gd [] := fun a ha => by cases ha
theorem Gd.snoc {c : List RawI} (g : Gd c) {v : Iv} (h : v.Ok) : Gd (c ++ [v.raw]) := by
 intro y hy
 rcases List.mem_append.1 hy with hy | hy
 ·exact g y hy
 ·simp only [List.mem_singleton] at hy
  subst hy
  rw [Iv.raw_iv]
  exact ⟨h, rfl⟩
theorem coefG_gd {p : Nat} {g : List RawI} (p1 : 1 ≤ p) (gg : Gd g) : ∀ (js : List Nat) (c : List RawI), Gd c → (coefG p g c js).k = 0 → Gd (coefG p g c js).v ∧ (coefG p g c js).v.length = c.length + js.length
 | [], c, hc, _ => ⟨hc, rfl⟩
 | j :: js, c, hc, h => by
   rw [coefG] at h ⊢
   by_cases e : (roundI (gI g j) p).k = 0
   ·rw [if_pos e] at h ⊢
    obtain ⟨h1, h2⟩ := coefG_gd p1 gg js _ (hc.snoc (roundI_ok (gI_ok gg j) p1).1) h
    refine ⟨h1, ?_⟩
    rw [h2]; simp; omega
   ·rw [if_neg e] at h; exact absurd h e
/-- Rows that are clean, of so many coefficients. -/
def GdR (k : Nat) (rows : List (List RawI)) : Prop := ∀ r ∈ rows, Gd r ∧ r.length = k + 1
theorem GdR.at {k : Nat} {rows : List (List RawI)} (h : GdR k rows) {i : Nat} (hi : i < rows.length) : Gd (rows.getD i []) ∧ (rows.getD i []).length = k + 1 := by
 rw [List.getD_eq_getElem?_getD, List.getElem?_eq_getElem hi]
 exact h _ (List.getElem_mem hi)
theorem GdR.snoc {k : Nat} {rows : List (List RawI)} (h : GdR k rows) {r : List RawI} (g : Gd r) (l : r.length = k + 1) : GdR k (rows ++ [r]) := by
 intro y hy
 rcases List.mem_append.1 hy with hy | hy
 ·exact h y hy
 ·simp only [List.mem_singleton] at hy
  subst hy
  exact ⟨g, l⟩
theorem GdR.nil (k : Nat) : GdR k [] := fun a ha => by cases ha
/-- The worker's line for a line at a place: what it makes. -/
def LinC (tm : Bool) (ov : Iv → Nat → Outc Iv) (p k : Nat) (t : List RawI) (x q : List (List RawI)) (i : Nat) (l : Ln) : Prop :=
 (∀ all : List (List RawI), all.length = i → GdR k all → (lineJ ov p l all t x q k).k = 0 → Gd (lineJ ov p l all t x q k).v ∧ (lineJ ov p l all t x q k).v.length = k + 1) ∧
 ∀ {w : World} {vl vall vt vx vq : Value} {all : List (List RawI)}, LnR w vl l → Rws w vall all → all.length = i → GdR k all → (tm = true → IvS w vt t) → Rws w vx x → Rws w vq q → Tab w →
   Calls Tryz.prog 104 #[.agg #[.int .i64 p], vl, vall, vt, vx, vq, .int .i64 k] w (GoesL (lineJ ov p l all t x q k) w)
theorem lineJ3 (ov : Iv → Nat → Outc Iv) (p : Nat) (l : Ln) (all : List (List RawI)) (t : List RawI) (x q : List (List RawI)) (k : Nat) (h : l.op = 3) : lineJ ov p l all t x q k = coefG p (rowJ x l.a) [] (List.range' 0 (k + 1)) := by
 unfold lineJ; rw [h, ← List.range_eq_range']; rfl
theorem linC3 {tm : Bool} {ov : Iv → Nat → Outc Iv} {p k i j : Nat} {t : List RawI} {x q : List (List RawI)} {l : Ln} (h : l.op = 3) (ha : l.a = (j : Int)) (hj : j < x.length) (gx : GdR k x) (hk : k ≤ 900) (p1 : 1 ≤ p) (p2 : p ≤ 300) : LinC tm ov p k t x q i l := by
 obtain ⟨g1, g2⟩ := gx.at hj
 refine ⟨fun all hi gall e => ?_, ?_⟩
 ·rw [lineJ3 _ _ _ _ _ _ _ _ h, rowJ, ha, Int.toNat_natCast] at e ⊢
  obtain ⟨q1, q2⟩ := coefG_gd p1 g1 _ _ gd_nil e
  exact ⟨q1, by rw [q2]; simp⟩
 ·intro w vl vall vt vx vq all hl hall hi gall ht hx hq hT
  rw [lineJ3 _ _ _ _ _ _ _ _ h, rowJ, ha, Int.toNat_natCast]
  exact lineX_c h hl hx hj ha rfl g1 (by omega) (by omega) hT p1 p2
/-- What series makes is clean. -/
theorem linesJ_gd {ov : Iv → Nat → Outc Iv} {p k : Nat} {t : List RawI} {x q : List (List RawI)} : ∀ (ls : List Ln) (all : List (List RawI)),
 (∀ all' (i : Nat) l, ls[i]? = some l → all'.length = all.length + i → GdR k all' → (lineJ ov p l all' t x q k).k = 0 → Gd (lineJ ov p l all' t x q k).v ∧ (lineJ ov p l all' t x q k).v.length = k + 1) → GdR k all → (linesJ ov p t x q k all ls).k = 0 →
   GdR k (linesJ ov p t x q k all ls).v ∧ (linesJ ov p t x q k all ls).v.length = all.length + ls.length
 | [], all, _, ga, _ => ⟨ga, rfl⟩
 | l :: ls, all, h, ga, hk => by
   rw [linesJ] at hk ⊢
   by_cases e : (lineJ ov p l all t x q k).k = 0
   ·rw [if_pos e] at hk ⊢
    obtain ⟨q1, q2⟩ := h all 0 l rfl rfl ga e
    obtain ⟨h1, h2⟩ := linesJ_gd ls _ (fun all' i l hl hn => h all' (i + 1) l (by simpa using hl) (by rw [hn]; simp; omega)) (ga.snoc q1 q2) hk
    exact ⟨h1, by rw [h2]; simp; omega⟩
   ·rw [if_neg e] at hk; exact absurd hk e
theorem seriesJ_gd {tm : Bool} {ov : Iv → Nat → Outc Iv} {p k : Nat} {t : List RawI} {x q : List (List RawI)} {ls : List Ln} {outs : List Int} (h : ∀ i l, ls[i]? = some l → LinC tm ov p k t x q i l) (ho : ∀ n ∈ outs, 0 ≤ n ∧ n < (ls.length : Int))
 (hk : (seriesJ ov p ls outs t x q k).k = 0) : GdR k (seriesJ ov p ls outs t x q k).v := by
 unfold seriesJ at hk ⊢
 by_cases e : (linesJ ov p t x q k [] ls).k = 0
 ·rw [if_pos e]
  obtain ⟨g1, g2⟩ := linesJ_gd ls [] (fun all' i l hl hn => (h i l hl).1 all' (by simpa using hn)) (GdR.nil k) e
  intro r hr
  obtain ⟨n, hn, rfl⟩ := List.mem_map.1 hr
  obtain ⟨n0, n1⟩ := ho n hn
  simp only [List.length_nil, Nat.zero_add] at g2
  exact g1.at (i := n.toNat) (by omega)
 ·rw [if_neg e] at hk; exact absurd hk e
/-- One step, where one state is. -/
theorem stepsJ_one {ov : Iv → Nat → Outc Iv} {p n m : Nat} {ls : List Ln} {outs : List Int} {time c : List RawI} {R : List (List RawI)} (ho : outs.length = 1) (h : stepsJ ov p ls outs time [] [c] (List.range' n (m + 1)) = ⟨R, 0⟩) :
 ∃ r, seriesJ ov p ls outs (time.take (n + 1)) [c] [] n = ⟨[r], 0⟩ ∧ (divI (gI r n) (ptN (n + 1)) p).k = 0 ∧ stepsJ ov p ls outs time [] [c ++ [(divI (gI r n) (ptN (n + 1)) p).v.raw]] (List.range' (n + 1) m) = ⟨R, 0⟩ := by
 rw [List.range'_succ, stepsJ, List.map_nil] at h
 by_cases h1 : (seriesJ ov p ls outs (time.take (n + 1)) [c] [] n).k = 0
 ·rw [if_neg (by simpa using h1)] at h
  obtain ⟨o1, rfl⟩ : ∃ o1, outs = [o1] := by
   rcases outs with _ | ⟨o1, _ | ⟨o2, os⟩⟩
   ·simp at ho
   ·exact ⟨o1, rfl⟩
   ·simp at ho
  obtain ⟨r, hr⟩ : ∃ r, seriesJ ov p ls [o1] (time.take (n + 1)) [c] [] n = ⟨[r], 0⟩ := by
   unfold seriesJ at h1 ⊢
   by_cases e : (linesJ ov p (time.take (n + 1)) [c] [] n [] ls).k = 0
   ·rw [if_pos e]; exact ⟨_, rfl⟩
   ·rw [if_neg e] at h1; exact absurd h1 e
  refine ⟨r, hr, ?_⟩
  rw [hr] at h
  by_cases h2 : (divI (gI r n) (ptN (n + 1)) p).k = 0
  ·have hg : growJ p n [c] [r] = ⟨[c ++ [(divI (gI r n) (ptN (n + 1)) p).v.raw]], 0⟩ := by
    simp only [growJ, h2, if_true]
   rw [hg, if_neg (by simp)] at h
   exact ⟨h2, h⟩
  ·have hg : (growJ p n [c] [r]).k = (divI (gI r n) (ptN (n + 1)) p).k := by
    simp only [growJ]
    rw [if_neg h2]
   rw [if_pos (by rw [hg]; exact h2)] at h
   injection h with h3 h4
   rw [hg] at h4
   exact absurd h4 h2
 ·rw [if_pos h1] at h
  injection h with h3 h4
  exact absurd h4 h1
/-- Coefficients: clean, of a grain and a height, and they hold numbers. -/
def Cf (f : Nat → Rat) (A B : Nat → Int) (l : List RawI) : Prop := ∀ i, i < l.length → ((gI l i).Ok ∧ l[i]? = some (gI l i).raw) ∧ RgI (gI l i) (A i) (B i) ∧ In (f i) (gI l i)
theorem Cf.gd {f : Nat → Rat} {A B : Nat → Int} {l : List RawI} (h : Cf f A B l) : Gd l := by
 intro a ha
 obtain ⟨i, hi, rfl⟩ := List.getElem_of_mem ha
 obtain ⟨⟨h1, h2⟩, -⟩ := h i hi
 rw [List.getElem?_eq_getElem hi] at h2
 injection h2 with h2
 rw [h2, Iv.raw_iv]
 exact ⟨h1, rfl⟩
theorem Cf.nil (f : Nat → Rat) (A B : Nat → Int) : Cf f A B [] := fun i h => absurd h (by simp)
theorem gI_snoc_lt {l : List RawI} {v : Iv} {i : Nat} (e : i < l.length) : gI (l ++ [v.raw]) i = gI l i := by
 unfold gI
 rw [List.getD_eq_getElem?_getD, List.getD_eq_getElem?_getD, List.getElem?_append_left e]
theorem gI_snoc_at (l : List RawI) (v : Iv) : gI (l ++ [v.raw]) l.length = v := by
 unfold gI
 rw [List.getD_eq_getElem?_getD, List.getElem?_append_right (Nat.le_refl _), Nat.sub_self]
 exact Iv.raw_iv v
theorem Cf.snoc {f : Nat → Rat} {A B : Nat → Int} {l : List RawI} (h : Cf f A B l) {v : Iv} (ok : v.Ok) (r : RgI v (A l.length) (B l.length)) (m : In (f l.length) v) : Cf f A B (l ++ [v.raw]) := by
 intro i hi
 by_cases e : i < l.length
 ·rw [gI_snoc_lt e, List.getElem?_append_left e]
  exact h i e
 ·have e2 : i = l.length := by simp at hi; omega
  subst e2
  rw [gI_snoc_at]
  refine ⟨⟨ok, ?_⟩, r, m⟩
  rw [List.getElem?_append_right (Nat.le_refl _), Nat.sub_self]; rfl
theorem coefG_cf {f : Nat → Rat} {A B : Nat → Int} {p : Nat} {g : List RawI} (p1 : 1 ≤ p) (p2 : p ≤ 300) (h : Cf f A B g) (hA : ∀ i, i < g.length → A i ≤ 100000 ∧ B i ≤ 99990) : ∀ (m : Nat) (c : List RawI), c.length + m ≤ g.length → Cf f A (fun i => B i + 1) c →
 (coefG p g c (List.range' c.length m)).k = 0 ∧ Cf f A (fun i => B i + 1) (coefG p g c (List.range' c.length m)).v ∧ (coefG p g c (List.range' c.length m)).v.length = c.length + m
 | 0, c, _, hc => ⟨rfl, hc, rfl⟩
 | m + 1, c, hl, hc => by
   have hj : c.length < g.length := by omega
   obtain ⟨⟨ok, -⟩, rg, i0⟩ := h c.length hj
   have gr := roundI_rg (p := p) rg (by omega) (hA _ hj).1 (hA _ hj).2
   have ho := roundI_ok ok p1
   rw [coefG_snoc _ _ _ _ _ (Nat.succ_pos m), if_pos gr.1]
   have s := hc.snoc ho.1 gr.2 (roundI_in p1 gr.1 i0)
   have ih := coefG_cf p1 p2 h hA m _ (by simp; omega) s
   simp only [List.length_append, List.length_cons, List.length_nil, Nat.zero_add] at ih ⊢
   rw [show m.succ - 1 = m from rfl]
   exact ⟨ih.1, ih.2.1, by rw [ih.2.2]; omega⟩
/-- A whole number's interval. -/
theorem ptN_dyz (n : Nat) : ptN n = pt (dyz n 0) := by
 unfold ptN dyz
 rw [decide_eq_false (by omega), Int.natAbs_natCast]
theorem ptN_ok (n : Nat) : (ptN n).Ok := by rw [ptN_dyz]; exact pt_ok (dyz_ok _ _)
theorem zN {n : Nat} (h : n < 2 ^ 30) : SmZ (n : Int) 0 := ⟨Nat.lt_of_lt_of_le h (Nat.pow_le_pow_right (by decide) (by decide)), by decide, by decide⟩
theorem ptN_in {n : Nat} (h : n < 2 ^ 30) : In ((n : Int) : Rat) (ptN n) := by
 rw [ptN_dyz]
 have := in_pt (dyz n 0)
 rw [dyz_q (zN h), pw_zero, Rat.mul_one] at this
 exact this
theorem ptN_rg {n : Nat} {k : Nat} (h : n < 2 ^ k) (hk : k ≤ 30) : RgI (ptN n) 0 k := by
 rw [ptN_dyz]
 have h2 := bl_le n k h
 have h3 : n < 2 ^ 30 := Nat.lt_of_lt_of_le h (Nat.pow_le_pow_right (by decide) hk)
 have : n < 1073741824 := h3
 exact RgI.pt (fitD_rg (fun _ => by omega) (fun _ => by rw [Int.natAbs_natCast]; omega) (by rw [Int.natAbs_natCast]; omega) (by decide) (by omega)).2
theorem ptN_nz {n : Nat} (h0 : n ≠ 0) (h : n < 2 ^ 30) : ¬ hasZero (ptN n) = true := by
 rw [hasZero_iff]
 have q := ptN_in h
 rintro ⟨a, b⟩
 have e : (ptN n).lo = (ptN n).hi := by rw [ptN_dyz]; rfl
 rw [e] at a
 have e2 : (ptN n).hi.q = ((n : Int) : Rat) := by
  rw [ptN_dyz]
  show (dyz n 0).q = _
  rw [dyz_q (zN h), pw_zero, Rat.mul_one]
 rw [e2] at a b
 have : ((n : Int) : Rat) = ((0 : Int) : Rat) := Rat.le_antisymm a b
 rw [Rat.intCast_inj] at this
 omega
/-- One further. -/
theorem div_step {a : Iv} {x : Rat} {A B : Int} {p n : Nat} (p1 : 1 ≤ p) (p2 : p ≤ 300) (hn : n + 1 < 16) (r : RgI a A B) (i : In x a) (hA : A ≤ 90000) (hB : B ≤ 90000) :
 (divI a (ptN (n + 1)) p).v.Ok ∧ GoodI (divI a (ptN (n + 1)) p) (A + p + 5) (B + 2) ∧ In (x / (((n + 1 : Nat) : Int) : Rat)) (divI a (ptN (n + 1)) p).v := by
 have hb : n + 1 < 2 ^ 30 := by omega
 have g := divI_rg (p := p) r (ptN_rg (n := n + 1) (k := 4) (by omega) (by decide)) (ptN_ok _) (ptN_nz (by omega) hb) (by omega) (by omega) (by omega)
 exact ⟨(divI_ok (ptN_ok _) p1).1, g.mono (by omega) (by omega), div_in (ptN_ok _) p1 g.1 i (ptN_in hb)⟩
/-- The steps for one state. -/
theorem steps_one {ov : Iv → Nat → Outc Iv} {p : Nat} {ls : List Ln} {outs : List Int} {time : List RawI} {f : Nat → Rat} {A B : Nat → Int} {K : Nat}
 (hs : ∀ n c, n < K → Cf f A B c → c.length = n + 1 → ∃ r, seriesJ ov p ls outs (time.take (n + 1)) [c] [] n = ⟨[r], 0⟩ ∧ (divI (gI r n) (ptN (n + 1)) p).v.Ok ∧ GoodI (divI (gI r n) (ptN (n + 1)) p) (A (n + 1)) (B (n + 1)) ∧ In (f (n + 1)) (divI (gI r n) (ptN (n + 1)) p).v) :
 ∀ (m n : Nat) (c : List RawI), n + m = K → Cf f A B c → c.length = n + 1 → ∃ c', stepsJ ov p ls outs time [] [c] (List.range' n m) = ⟨[c'], 0⟩ ∧ Cf f A B c' ∧ c'.length = K + 1
 | 0, n, c, e, hc, hl => ⟨c, rfl, hc, by omega⟩
 | m + 1, n, c, e, hc, hl => by
   obtain ⟨r, h1, h2, h3, h4⟩ := hs n c (by omega) hc hl
   have hg : growJ p n [c] [r] = ⟨[c ++ [(divI (gI r n) (ptN (n + 1)) p).v.raw]], 0⟩ := by
    simp only [growJ, h3.1, if_true]
   obtain ⟨c', q1, q2⟩ := steps_one hs m (n + 1) (c ++ [(divI (gI r n) (ptN (n + 1)) p).v.raw]) (by omega) (hc.snoc h2 (by rw [hl]; exact h3.2) (by rw [hl]; exact h4)) (by simp [hl])
   refine ⟨c', ?_, q2⟩
   rw [List.range'_succ, stepsJ, List.map_nil, h1]
   simp only [hg, ne_eq, not_true_eq_false, if_false]
   exact q1
theorem cf_one {f : Nat → Rat} {A B : Nat → Int} {v : Iv} (ok : v.Ok) (r : RgI v (A 0) (B 0)) (m : In (f 0) v) : Cf f A B [v.raw] := (Cf.nil f A B).snoc ok r m
/-- What is begun with: of eighths. -/
structure E8 (m : Int) (p : Nat) : Prop where
 m8 : m.natAbs ≤ 15
 p1 : 8 ≤ p
 p2 : p ≤ 80
theorem e8_rg {m : Int} {p : Nat} (h : E8 m p) : RgI (pt (dyz m (-3))) 3 1 := by
 have := h.m8
 have hb := bl_le m.natAbs 4 (by omega)
 exact RgI.pt (fitD_rg (fun _ => by omega) (fun _ => by omega) (by omega) (by decide) (by decide)).2
theorem e8_first {m : Int} {p : Nat} (h : E8 m p) : (roundI (pt (dyz m (-3))) p).v.Ok ∧ GoodI (roundI (pt (dyz m (-3))) p) 3 2 ∧ In (dyz m (-3)).q (roundI (pt (dyz m (-3))) p).v := by
 have h1 := h.p1
 have h2 := h.p2
 have g := roundI_rg (p := p) (e8_rg h) (by omega) (by decide) (by decide)
 exact ⟨(roundI_ok (pt_ok (dyz_ok _ _)) (by omega)).1, g, roundI_in (by omega) g.1 (in_pt _)⟩
/-- x' = x. -/
def eF (x : Rat) : Nat → Rat
 | 0 => x
 | n + 1 => eF x n / (((n + 1 : Nat) : Int) : Rat)
def tE : List Ln := [⟨3, 0, 0, rzI⟩]
theorem seriesE (ov : Iv → Nat → Outc Iv) (p : Nat) (t c r : List RawI) (n : Nat) (h : coefG p c [] (List.range' 0 (n + 1)) = ⟨r, 0⟩) : seriesJ ov p tE [0] t [c] [] n = ⟨[r], 0⟩ := by
 have e : lineJ ov p ⟨3, 0, 0, rzI⟩ [] t [c] [] n = ⟨r, 0⟩ := by
  rw [lineJ3 _ _ _ _ _ _ _ _ rfl, ← h]; rfl
 simp only [seriesJ, linesJ, tE, e, if_true, List.nil_append, List.map_cons, List.map_nil]
 rfl
theorem stepE {ov : Iv → Nat → Outc Iv} {m : Int} {p : Nat} (h : E8 m p) {K : Nat} (hK : K ≤ 8) (time : List RawI) :
 ∃ c', stepsJ ov p tE [0] time [] [[(roundI (pt (dyz m (-3))) p).v.raw]] (List.range' 0 K) = ⟨[c'], 0⟩ ∧ Cf (eF (dyz m (-3)).q) (fun n => 3 + 85 * n) (fun n => 2 + 3 * n) c' ∧ c'.length = K + 1 := by
 have h1 := h.p1
 have h2 := h.p2
 obtain ⟨ok, g, i⟩ := e8_first h
 refine steps_one (fun n c hn hc hl => ?_) K 0 _ (by omega) (cf_one ok (g.2.mono (by omega) (by omega)) i) rfl
 obtain ⟨k0, q, ql⟩ := coefG_cf (p := p) (by omega) (by omega) hc (fun i hi => ⟨by omega, by omega⟩) (n + 1) [] (by simp; omega) (Cf.nil _ _ _)
 obtain ⟨r, hr⟩ : ∃ r, r = (coefG p c [] (List.range' 0 (n + 1))).v := ⟨_, rfl⟩
 have hk : coefG p c [] (List.range' 0 (n + 1)) = ⟨r, 0⟩ := by
  rw [hr]
  generalize coefG p c [] (List.range' 0 (n + 1)) = o at *
  cases o with | mk v k => exact congrArg (Outc.mk v) k0
 change (Cf _ _ _ (coefG p c [] (List.range' 0 (n + 1))).v) at q
 change ((coefG p c [] (List.range' 0 (n + 1))).v.length = _) at ql
 rw [← hr] at q ql
 obtain ⟨-, rg, i0⟩ := q n (by simp at ql; omega)
 have rg' : RgI (gI r n) (3 + 85 * (n : Int)) (2 + 3 * (n : Int) + 1) := rg
 obtain ⟨d1, d2, d3⟩ := div_step (p := p) (n := n) (by omega) (by omega) (by omega) rg' i0 (by omega) (by omega)
 exact ⟨r, seriesE ov p _ c r n hk, d1, d2.mono (by show _ ≤ 3 + 85 * ((n + 1 : Nat) : Int); omega) (by show _ ≤ 2 + 3 * ((n + 1 : Nat) : Int); omega), d3⟩
theorem k0_eq {α : Type} {o : Outc α} {r : α} (h : o.k = 0) (e : r = o.v) : o = ⟨r, 0⟩ := by
 cases o with | mk v k => simp only at h e; subst h; rw [e]
theorem nat_ne (n : Nat) : (((n + 1 : Nat) : Int) : Rat) ≠ 0 := by
 intro h
 have : (((n + 1 : Nat) : Int) : Rat) = ((0 : Int) : Rat) := h
 rw [Rat.intCast_inj] at this
 omega
end Go.Proofs.YtgododcbmkpbjaaGreatDoor
