/- Contracts of package jet, third part: sum, less. -/
import Derived.Test.YtgododcbmkpbjaaGreatDoorClaimJknop20
import Derived.Test.YtgododcbmkpbjaaGreatDoorClaimJknop25
import Derived.Test.YtgododcbmkpbjaaGreatDoorClaimJknop35
import Derived.Test.YtgododcbmkpbjaaGreatDoorClaimJknop36
import Derived.Test.YtgododcbmkpbjaaGreatDoorClaimJknop38
set_option maxRecDepth 100000
set_option maxHeartbeats 16000000
namespace Go.Proofs.YtgododcbmkpbjaaGreatDoor
open Go.RowKit
theorem sure_cJ {w : World} {v : Value} {o : Outc Iv} (hv : IvR w v o.v.raw) : Calls Tryz.prog 60 #[v, .int .i64 o.k] w (GoesI o w) := by
 obtain ⟨A, l, c, A', l', c', rfl, h1, h2⟩ := ivC_split hv
 obtain ⟨W, hW, kW, BI, BR⟩ := boxir w (.bool o.v.lo.neg) (.slice A l c) (.int .i64 o.v.lo.e) (.bool o.v.hi.neg) (.slice A' l' c') (.int .i64 o.v.hi.e)
 have Z1 := Lib.hid (h1.kept kW)
 have Z2 := Lib.hid (h2.kept kW)
 have HW := Lib.hid hW
 have K := Lib.hid kW
 have HB := Lib.hid BI
 have HR := Lib.hid BR
 clear hW kW BI BR h1 h2 hv
 obtain ⟨k, hk⟩ : ∃ k, k = o.k := ⟨_, rfl⟩
 rw [← hk]
 have HK := Lib.hid hk
 clear hk
 by_cases k0 : k = 0
 ·have K0 := Lib.hid (HK.out.symm.trans k0)
  subst k0
  generalize ho : o = o' at *
  clear ho o
  obtain ⟨⟨⟨n1, m1, e1⟩, ⟨n2, m2, e2⟩⟩, k⟩ := o'
  simp only [] at *
  go_enter Tryz.func60, Tryz.ntmps60
  go_wp2_with fail
  rw [← HW.out]
  refine (must_trueJ 0 _).mono ?_
  rintro e w1 ⟨rfl, q⟩
  replace K := Lib.hid (K.out.trans q)
  replace HB := Lib.hid (HB.out.kept q)
  replace HR := Lib.hid (HR.out.kept q)
  replace Z1 := Lib.hid (Z1.out.kept q)
  replace Z2 := Lib.hid (Z2.out.kept q)
  clear q HW
  obtain ⟨-, c0, c1, c2, c3, c4, c5⟩ := HB.out.facts
  obtain ⟨-, r0, r1, r2, r3, r4, r5⟩ := HR.out.facts
  obtain ⟨f0, f1, f2, f3, f4, f5⟩ := HR.out.free
  simp only []
  go_wp2_with fail
  exact ret_iv (HR.out.laid _ _ _ _ _ _) rfl rfl rfl ⟨ivW_kept K.out (by omega), .inl ⟨K0.out, _, rfl, _, _, _, _, _, _, rfl, Z1.out.ivW HR.out _ _ _ _ _ _, Z2.out.ivW HR.out _ _ _ _ _ _⟩⟩
 ·have hkb : (k == 0) = false := by rw [beq_eq_false_iff_ne]; exact k0
  have K0 := Lib.hid k0
  clear k0
  generalize o.v.lo.neg = n1 at *
  generalize o.v.lo.e = e1 at *
  generalize o.v.hi.neg = n2 at *
  generalize o.v.hi.e = e2 at *
  go_enter Tryz.func60, Tryz.ntmps60
  go_wp2_with fail
  rw [← HW.out]
  refine (must_cJ false k _).mono ?_
  rintro e w3 ⟨he, rfl⟩
  obtain rfl : e = .panicked (failV 117 k) := he
  exact ⟨rfl, K.out, .inr ⟨by rw [← HK.out]; exact K0.out, by rw [← HK.out]⟩⟩
theorem boxwiir (w : World) (p : Int) (x y z x' y' z' u v r u' v' r' : Value) : ∃ W, W = (((w.alloc (.cells #[.int .i64 p] 86)).alloc (.cells #[x, y, z, x', y', z'] 32)).alloc (.cells #[u, v, r, u', v', r'] 32)).alloc (.cells #[.bool false, .slice none 0 0, .int .i64 0, .bool false, .slice none 0 0, .int .i64 0] 32) ∧
 Kept w W ∧ W.cell? ⟨w.heap.size, 0, none⟩ = some (.int .i64 p) ∧ BlkI W (w.heap.size + 1) x y z x' y' z' ∧ BlkI W (w.heap.size + 1 + 1) u v r u' v' r' ∧ BlkI W (w.heap.size + 1 + 1 + 1) (.bool false) (.slice none 0 0) (.int .i64 0) (.bool false) (.slice none 0 0) (.int .i64 0) := by
 obtain ⟨W, hW, k, b1, b2, b3⟩ := boxiir (w.alloc (.cells #[.int .i64 p] 86)) x y z x' y' z' u v r u' v' r'
 simp only [World.size_alloc] at b1 b2 b3
 refine ⟨W, hW, (kept_alloc _ _).trans k, cell_kept k (cell_of_block (heap_alloc_new _ _) 0 _ rfl), b1, b2, b3⟩
theorem jpoint_c {w : World} {n : Nat} (hn : n < 9223372036854775808) (hT : Tab w) :
 Calls Tryz.prog 59 #[.int .i64 n] w (RetI (pt (fitD false n 0).v).raw w) := by
 have c1 := fun w1 (k : Kept w w1) => Of_pos (w := w1) (k := n) (e := 0) hn (by decide) (by decide) (hT.kept k)
 have hp : (pt (fitD false n 0).v).raw = ⟨(fitD false n 0).v.raw, (fitD false n 0).v.raw⟩ := rfl
 rw [hp]
 obtain ⟨W, hW, kW, BR, lW⟩ : ∃ W, W = w.alloc (.cells #[.bool false, .slice none 0 0, .int .i64 0, .bool false, .slice none 0 0, .int .i64 0] 32) ∧ Kept w W ∧ BlkI W w.heap.size (.bool false) (.slice none 0 0) (.int .i64 0) (.bool false) (.slice none 0 0) (.int .i64 0) ∧ w.heap.size < W.heap.size :=
  ⟨_, rfl, kept_alloc _ _, blkI_zero _, by simp⟩
 have C1 := Lib.hid c1
 have HW := Lib.hid hW
 have K := Lib.hid kW
 have HR := Lib.hid BR
 clear c1 hW kW BR hT hn hp
 generalize fitD false n 0 = o1 at *
 go_enter Tryz.func59, Tryz.ntmps59
 go_wp2_with fail
 rw [← HW.out]
 refine (C1.out _ K.out).mono ?_
 rintro e w2 ⟨q, u, rfl, hd⟩
 obtain ⟨PX, pX, qX, rfl, z1⟩ := dyR_split hd
 simp only []
 obtain ⟨VX, hV, kV, hb, lV⟩ := boxD w2 (.bool o1.v.neg) (.slice PX pX qX) (.int .i64 o1.v.e)
 have HV := Lib.hid hV
 have kk := q.trans kV
 have lt1 : w.heap.size < w2.heap.size := Nat.lt_of_lt_of_le HR.out.facts.1 q.size
 replace K := Lib.hid (K.out.trans kk)
 replace HR := Lib.hid (HR.out.kept kk)
 have HX := Lib.hid hb
 have ZX := Lib.hid (z1.kept kV)
 clear hV kV hb lV kk q hd z1 C1 HW
 go_upto_region 2 with fail
 rw [← HV.out]
 clear HV
 generalize w2.heap.size = bX at *
 obtain ⟨-, c0, c1, c2, -⟩ := HX.out.facts
 go_wp2_with fail
 refine (iof_c ZX.out).mono ?_
 rintro e w2 ⟨q, u, rfl, hd⟩
 obtain ⟨P, p', q', R, r, s, rfl, z1, z2⟩ := ivR_split hd
 have hr := HR.out.kept q
 obtain ⟨-, r0, r1, r2, r3, r4, r5⟩ := hr.facts
 obtain ⟨f0, f1, f2, f3, f4, f5⟩ := hr.free
 have HRR := Lib.hid hr
 have Z1 := Lib.hid z1
 have Z2 := Lib.hid z2
 clear hr z1 z2 hd c0 c1 c2
 simp only []
 go_wp2_with fail
 exact ret_iv (HRR.out.laid _ _ _ _ _ _) rfl rfl rfl ⟨ivW_kept (K.out.trans q) (by omega), _, rfl, _, _, _, _, _, _, rfl, Z1.out.ivW HRR.out _ _ _ _ _ _, Z2.out.ivW HRR.out _ _ _ _ _ _⟩
theorem wadd_c {S : Int → Prop} {w : World} {va vb : Value} {a b : Iv} {p : Nat} (O : OpsC S) (hS : S 6) (ha : IvC w va a) (hb : IvC w vb b) (oa : a.Ok) (ob : b.Ok) (hT : Tab w) (p1 : 1 ≤ p) (p2 : p ≤ 2000) :
 Calls Tryz.prog 164 #[.agg #[.int .i64 p], va, vb] w (GoesI (addI a b p) w) := by
 have c1 := fun w1 (k : Kept w w1) => O.add hS (ha.kept k) (hb.kept k) oa ob (hT.kept k) p1 p2
 obtain ⟨A, l, c, A', l', c', rfl, h1, h2⟩ := ivC_split ha
 obtain ⟨B, m, d, B', m', d', rfl, g1, g2⟩ := ivC_split hb
 obtain ⟨W, hW, kW, cW, BI, BJ, BR⟩ := boxwiir w p (.bool a.lo.neg) (.slice A l c) (.int .i64 a.lo.e) (.bool a.hi.neg) (.slice A' l' c') (.int .i64 a.hi.e) (.bool b.lo.neg) (.slice B m d) (.int .i64 b.lo.e) (.bool b.hi.neg) (.slice B' m' d') (.int .i64 b.hi.e)
 have C1 := Lib.hid c1
 have HW := Lib.hid hW
 have K := Lib.hid kW
 have HR := Lib.hid BR
 obtain ⟨-, a0, a1, a2, a3, a4, a5⟩ := BI.facts
 obtain ⟨-, b0, b1, b2, b3, b4, b5⟩ := BJ.facts
 clear c1 hW kW BI BJ BR h1 h2 g1 g2 ha hb hT oa ob p1 p2
 generalize addI a b p = o at *
 generalize a.lo.neg = n1 at *
 generalize a.lo.e = e1 at *
 generalize a.hi.neg = n2 at *
 generalize a.hi.e = e2 at *
 generalize b.lo.neg = n3 at *
 generalize b.lo.e = e3 at *
 generalize b.hi.neg = n4 at *
 generalize b.hi.e = e4 at *
 go_enter Tryz.func164, Tryz.ntmps164
 go_wp2_with fail
 rw [← HW.out]
 refine (C1.out _ K.out).mono ?_
 rintro e w1 ⟨q, u, rfl, hd⟩
 replace K := Lib.hid (K.out.trans q)
 replace HR := Lib.hid (HR.out.kept q)
 have HD := Lib.hid hd
 clear q hd C1 HW cW a0 a1 a2 a3 a4 a5 b0 b1 b2 b3 b4 b5
 simp only [rawO]
 go_wp2_with fail
 refine (sure_cJ (o := o) HD.out).mono ?_
 rintro e w2 ⟨q, ⟨k0, u2, rfl, hd⟩ | ⟨k0, rfl⟩⟩
 ·obtain ⟨P, p', q', R, r, s, rfl, z1, z2⟩ := ivR_split hd
  have hr := HR.out.kept q
  obtain ⟨-, r0, r1, r2, r3, r4, r5⟩ := hr.facts
  obtain ⟨f0, f1, f2, f3, f4, f5⟩ := hr.free
  have HRR := Lib.hid hr
  have Z1 := Lib.hid z1
  have Z2 := Lib.hid z2
  have K0 := Lib.hid k0
  clear hr z1 z2 hd k0
  simp only []
  go_wp2_with fail
  exact ret_iv (HRR.out.laid _ _ _ _ _ _) rfl rfl rfl ⟨ivW_kept (K.out.trans q) (by omega), .inl ⟨K0.out, _, rfl, _, _, _, _, _, _, rfl, Z1.out.ivW HRR.out _ _ _ _ _ _, Z2.out.ivW HRR.out _ _ _ _ _ _⟩⟩
 ·exact ⟨rfl, K.out.trans q, .inr ⟨k0, rfl⟩⟩
theorem wmul_c {S : Int → Prop} {w : World} {va vb : Value} {a b : Iv} {p : Nat} (O : OpsC S) (hS : S 8) (ha : IvC w va a) (hb : IvC w vb b) (oa : a.Ok) (ob : b.Ok) (hT : Tab w) (p1 : 1 ≤ p) (p2 : p ≤ 2000) :
 Calls Tryz.prog 168 #[.agg #[.int .i64 p], va, vb] w (GoesI (mulI a b p) w) := by
 have c1 := fun w1 (k : Kept w w1) => O.mul hS (ha.kept k) (hb.kept k) oa ob (hT.kept k) p1 p2
 obtain ⟨A, l, c, A', l', c', rfl, h1, h2⟩ := ivC_split ha
 obtain ⟨B, m, d, B', m', d', rfl, g1, g2⟩ := ivC_split hb
 obtain ⟨W, hW, kW, cW, BI, BJ, BR⟩ := boxwiir w p (.bool a.lo.neg) (.slice A l c) (.int .i64 a.lo.e) (.bool a.hi.neg) (.slice A' l' c') (.int .i64 a.hi.e) (.bool b.lo.neg) (.slice B m d) (.int .i64 b.lo.e) (.bool b.hi.neg) (.slice B' m' d') (.int .i64 b.hi.e)
 have C1 := Lib.hid c1
 have HW := Lib.hid hW
 have K := Lib.hid kW
 have HR := Lib.hid BR
 obtain ⟨-, a0, a1, a2, a3, a4, a5⟩ := BI.facts
 obtain ⟨-, b0, b1, b2, b3, b4, b5⟩ := BJ.facts
 clear c1 hW kW BI BJ BR h1 h2 g1 g2 ha hb hT oa ob p1 p2
 generalize mulI a b p = o at *
 generalize a.lo.neg = n1 at *
 generalize a.lo.e = e1 at *
 generalize a.hi.neg = n2 at *
 generalize a.hi.e = e2 at *
 generalize b.lo.neg = n3 at *
 generalize b.lo.e = e3 at *
 generalize b.hi.neg = n4 at *
 generalize b.hi.e = e4 at *
 go_enter Tryz.func168, Tryz.ntmps168
 go_wp2_with fail
 rw [← HW.out]
 refine (C1.out _ K.out).mono ?_
 rintro e w1 ⟨q, u, rfl, hd⟩
 replace K := Lib.hid (K.out.trans q)
 replace HR := Lib.hid (HR.out.kept q)
 have HD := Lib.hid hd
 clear q hd C1 HW cW a0 a1 a2 a3 a4 a5 b0 b1 b2 b3 b4 b5
 simp only [rawO]
 go_wp2_with fail
 refine (sure_cJ (o := o) HD.out).mono ?_
 rintro e w2 ⟨q, ⟨k0, u2, rfl, hd⟩ | ⟨k0, rfl⟩⟩
 ·obtain ⟨P, p', q', R, r, s, rfl, z1, z2⟩ := ivR_split hd
  have hr := HR.out.kept q
  obtain ⟨-, r0, r1, r2, r3, r4, r5⟩ := hr.facts
  obtain ⟨f0, f1, f2, f3, f4, f5⟩ := hr.free
  have HRR := Lib.hid hr
  have Z1 := Lib.hid z1
  have Z2 := Lib.hid z2
  have K0 := Lib.hid k0
  clear hr z1 z2 hd k0
  simp only []
  go_wp2_with fail
  exact ret_iv (HRR.out.laid _ _ _ _ _ _) rfl rfl rfl ⟨ivW_kept (K.out.trans q) (by omega), .inl ⟨K0.out, _, rfl, _, _, _, _, _, _, rfl, Z1.out.ivW HRR.out _ _ _ _ _ _, Z2.out.ivW HRR.out _ _ _ _ _ _⟩⟩
 ·exact ⟨rfl, K.out.trans q, .inr ⟨k0, rfl⟩⟩
theorem wdiv_c {S : Int → Prop} {w : World} {va vb : Value} {a b : Iv} {p : Nat} (O : OpsC S) (hS : S 9) (ha : IvC w va a) (hb : IvC w vb b) (oa : a.Ok) (ob : b.Ok) (hT : Tab w) (p1 : 1 ≤ p) (p2 : p ≤ 2000) :
 Calls Tryz.prog 63 #[.agg #[.int .i64 p], va, vb] w (GoesI (divI a b p) w) := by
 have c1 := fun w1 (k : Kept w w1) => O.div hS (ha.kept k) (hb.kept k) oa ob (hT.kept k) p1 p2
 obtain ⟨A, l, c, A', l', c', rfl, h1, h2⟩ := ivC_split ha
 obtain ⟨B, m, d, B', m', d', rfl, g1, g2⟩ := ivC_split hb
 obtain ⟨W, hW, kW, cW, BI, BJ, BR⟩ := boxwiir w p (.bool a.lo.neg) (.slice A l c) (.int .i64 a.lo.e) (.bool a.hi.neg) (.slice A' l' c') (.int .i64 a.hi.e) (.bool b.lo.neg) (.slice B m d) (.int .i64 b.lo.e) (.bool b.hi.neg) (.slice B' m' d') (.int .i64 b.hi.e)
 have C1 := Lib.hid c1
 have HW := Lib.hid hW
 have K := Lib.hid kW
 have HR := Lib.hid BR
 obtain ⟨-, a0, a1, a2, a3, a4, a5⟩ := BI.facts
 obtain ⟨-, b0, b1, b2, b3, b4, b5⟩ := BJ.facts
 clear c1 hW kW BI BJ BR h1 h2 g1 g2 ha hb hT oa ob p1 p2
 generalize divI a b p = o at *
 generalize a.lo.neg = n1 at *
 generalize a.lo.e = e1 at *
 generalize a.hi.neg = n2 at *
 generalize a.hi.e = e2 at *
 generalize b.lo.neg = n3 at *
 generalize b.lo.e = e3 at *
 generalize b.hi.neg = n4 at *
 generalize b.hi.e = e4 at *
 go_enter Tryz.func63, Tryz.ntmps63
 go_wp2_with fail
 rw [← HW.out]
 refine (C1.out _ K.out).mono ?_
 rintro e w1 ⟨q, u, rfl, hd⟩
 replace K := Lib.hid (K.out.trans q)
 replace HR := Lib.hid (HR.out.kept q)
 have HD := Lib.hid hd
 clear q hd C1 HW cW a0 a1 a2 a3 a4 a5 b0 b1 b2 b3 b4 b5
 simp only [rawO]
 go_wp2_with fail
 refine (sure_cJ (o := o) HD.out).mono ?_
 rintro e w2 ⟨q, ⟨k0, u2, rfl, hd⟩ | ⟨k0, rfl⟩⟩
 ·obtain ⟨P, p', q', R, r, s, rfl, z1, z2⟩ := ivR_split hd
  have hr := HR.out.kept q
  obtain ⟨-, r0, r1, r2, r3, r4, r5⟩ := hr.facts
  obtain ⟨f0, f1, f2, f3, f4, f5⟩ := hr.free
  have HRR := Lib.hid hr
  have Z1 := Lib.hid z1
  have Z2 := Lib.hid z2
  have K0 := Lib.hid k0
  clear hr z1 z2 hd k0
  simp only []
  go_wp2_with fail
  exact ret_iv (HRR.out.laid _ _ _ _ _ _) rfl rfl rfl ⟨ivW_kept (K.out.trans q) (by omega), .inl ⟨K0.out, _, rfl, _, _, _, _, _, _, rfl, Z1.out.ivW HRR.out _ _ _ _ _ _, Z2.out.ivW HRR.out _ _ _ _ _ _⟩⟩
 ·exact ⟨rfl, K.out.trans q, .inr ⟨k0, rfl⟩⟩
section
variable {ops : Array Oper} {Q : Exit → Act → World → Prop} {i : Nat} {a : Act} {w : World} {V : Nat → Value → World → Prop} {o : Oper} {f : FuncId} {args : Array Value}
theorem sJ {t : Outc Iv} (hc : Calls Tryz.prog f args w (GoesI t w)) (hp : ∀ v w', Kept w w' → t.k = 0 → IvR w' v t.v.raw → V i v w') (hq : ∀ w', Kept w w' → t.k ≠ 0 → Q (.panic (failV 117 t.k)) a w') (hw : Region.wanted o (yielded ops a.tmps) = true := by simp [Region.wanted]) (h : (execOp a.eval o).run Tryz.prog w = .ok (.enter f args) w := by go_simp) : StepOK Tryz.prog ops Q V i o a w :=
 step_call hw h hc fun e w' he => by
  obtain ⟨k, ⟨h0, v, he, hd⟩ | ⟨h0, he⟩⟩ := he
  ·exact .inl ⟨v, he, k, hp v w' k h0 hd⟩
  ·exact .inr ⟨_, he, hq w' k h0⟩
end
theorem gd_at {l : List RawI} (g : Gd l) {i : Nat} (hi : i < l.length) : (gI l i).Ok ∧ ∃ a, l[i]? = some a ∧ (gI l i).raw = a := by
 have h := List.getElem?_eq_getElem hi
 have hm := g _ (List.getElem_mem hi)
 unfold gI
 rw [List.getD_eq_getElem?_getD, h]
 exact ⟨hm.1, _, rfl, hm.2⟩
/-- A row of clean intervals, read by place. -/
theorem IvS.place {w : World} {v : Value} {l : List RawI} (h : IvS w v l) (g : Gd l) (h0 : 0 < l.length) : ∃ b off c, v = .slice (some ⟨b, off, none⟩) l.length c ∧ l.length ≤ c ∧ ∀ w1, Kept w w1 → ∀ j, j < l.length → IvAt w1 b (off + j * 6) (gI l j).raw := by
 obtain ⟨A, c, rfl, hc, hA⟩ := h
 obtain ⟨b, off, rfl, hD⟩ := hA h0
 refine ⟨b, off, c, rfl, hc, fun w1 k j hj => ?_⟩
 obtain ⟨-, a, ha, he⟩ := gd_at g hj
 rw [he]
 exact (hD j a ha).kept k
/-- A worker's box and a result's. -/
theorem boxwr (w : World) (p : Int) : ∃ W, W = (w.alloc (.cells #[.int .i64 p] 86)).alloc (.cells #[.bool false, .slice none 0 0, .int .i64 0, .bool false, .slice none 0 0, .int .i64 0] 32) ∧
 Kept w W ∧ W.heap[w.heap.size]? = some (.cells #[.int .i64 p] 86 (0, 0)) ∧ BlkI W (w.heap.size + 1) (.bool false) (.slice none 0 0) (.int .i64 0) (.bool false) (.slice none 0 0) (.int .i64 0) := by
 refine ⟨_, rfl, (kept_alloc _ _).trans (kept_alloc _ _), ?_, ?_⟩
 ·rw [Below.heap_alloc _ _ _ (by simp)]; exact heap_alloc_new _ _
 ·have := blkI_zero (w.alloc (.cells #[.int .i64 p] 86))
  simp only [World.size_alloc] at this
  exact this
theorem BlkIv.store {w : World} {b : Nat} {n n' : Bool} {A A' : Option Addr} {l c l' c' : Nat} {e e' : Int} (h : BlkI w b (.bool n) (.slice A l c) (.int .i64 e) (.bool n') (.slice A' l' c') (.int .i64 e')) {s : Iv} {P P' : Option Addr} {a d a' d' : Nat}
 (h1 : DyR w (.agg #[.bool s.lo.neg, .slice P a d, .int .i64 s.lo.e]) s.lo.raw) (h2 : DyR w (.agg #[.bool s.hi.neg, .slice P' a' d', .int .i64 s.hi.e]) s.hi.raw) : BlkIv (ivW w b (.bool s.lo.neg) (.slice P a d) (.int .i64 s.lo.e) (.bool s.hi.neg) (.slice P' a' d') (.int .i64 s.hi.e)) b s :=
 ⟨P, a, d, P', a', d', h.laid _ _ _ _ _ _, h1.ivW h _ _ _ _ _ _, h2.ivW h _ _ _ _ _ _⟩
theorem blkI_ivJ {w : World} {b c : Nat} {x y z x' y' z' : Value} (h : BlkI w b x y z x' y' z') (hne : b ≠ c) (p q r p' q' r' : Value) : BlkI (ivW w c p q r p' q' r') b x y z x' y' z' := (ivW_other _ _ _ _ _ _ _ _ _ hne).trans h
theorem sumL_snoc (p : Nat) (a b : List RawI) (n : Nat) (s : Iv) (j m : Nat) (h : 0 < m) :
 sumL p a b n s (List.range' j m) = (mulI (gI a j) (gI b (n - j)) p).th fun q => (addI s q p).th fun s' => sumL p a b n s' (List.range' (j + 1) (m - 1)) := by
 obtain ⟨m, rfl⟩ : ∃ k, m = k + 1 := ⟨m - 1, by omega⟩
 rw [List.range'_succ]
 rfl
theorem jsum_c {S : Int → Prop} {w : World} {va vb : Value} {a b : List RawI} {n p fr : Nat} (O : OpsC S) (h6 : S 6) (h8 : S 8) (ha : IvS w va a) (hb : IvS w vb b) (ga : Gd a) (gb : Gd b) (na : n < a.length) (nb : n < b.length)
 (la : a.length ≤ 1000) (lb : b.length ≤ 1000) (hfr : fr = 0) (hT : Tab w) (p1 : 1 ≤ p) (p2 : p ≤ 2000) :
 Calls Tryz.prog 166 #[.agg #[.int .i64 p], va, vb, .int .i64 fr, .int .i64 n, .int .i64 n] w (GoesI (sumJ p a b n) w) := by
 obtain ⟨bA, oA, cA, rfl, hcA, RA⟩ := ha.place ga (by omega)
 obtain ⟨bB, oB, cB, rfl, hcB, RB⟩ := hb.place gb (by omega)
 have CM := Lib.hid (fun w1 (k : Kept w w1) j (hj : j ≤ n) v u (hv : IvR w1 v (gI a j).raw) (hu : IvR w1 u (gI b (n - j)).raw) => wmul_c (p := p) O h8 hv hu (gd_at ga (by omega)).1 (gd_at gb (by omega)).1 (hT.kept k) p1 p2)
 have CA := Lib.hid (fun w1 (k : Kept w w1) (s q : Iv) v u (os : s.Ok) (oq : q.Ok) (hv : IvR w1 v s.raw) (hu : IvR w1 u q.raw) => wadd_c (p := p) O h6 hv hu os oq (hT.kept k) p1 p2)
 have OM := Lib.hid (fun j => (mulI_ok (a := gI a j) (b := gI b (n - j)) p1).1)
 have OA := Lib.hid (fun (s q : Iv) (os : s.Ok) (oq : q.Ok) => (addI_ok os oq p1).1)
 have FIN := Lib.hid (fun (w1 : World) (k : Kept w w1) (v : Value) (h0 : (sumJ p a b n).k = 0) (hv : IvR w1 v (sumJ p a b n).v.raw) => show GoesI (sumJ p a b n) w (.returned v) w1 from ⟨k, .inl ⟨h0, v, rfl, hv⟩⟩)
 have BAD := Lib.hid (fun (w1 : World) (k : Kept w w1) (z : Int) (h0 : z ≠ 0) (h : (sumJ p a b n).k = z) => show GoesI (sumJ p a b n) w (.panicked (failV 117 z)) w1 from ⟨k, .inr ⟨by rw [h]; exact h0, by rw [h]⟩⟩)
 obtain ⟨m, hm⟩ : ∃ m, m = n - fr := ⟨_, rfl⟩
 have hmz : (n : Int) - (fr : Int) = (m : Int) := by omega
 obtain ⟨W, hW, kW, bW, BR⟩ := boxwr w p
 have HA := Lib.hid RA
 have HB := Lib.hid RB
 have HW := Lib.hid hW
 have K := Lib.hid kW
 have HP := Lib.hid bW
 have HR := Lib.hid BR
 have HFR := Lib.hid hfr
 have HM := Lib.hid hm
 have hfa : fr < a.length := by omega
 have hmb : m < b.length := by omega
 have hmn : m ≤ n := by omega
 have hfn : fr ≤ n := by omega
 have hwm : IntKind.i64.wrap (m : Int) = (m : Int) := by simp [IntKind.wrap_i64]; omega
 clear RA RB hW kW bW BR ha hb ga gb hT p1 p2 O h6 h8 hcA hcB hm hfr
 obtain ⟨o0, ho0⟩ : ∃ o, o = mulI (gI a fr) (gI b m) p := ⟨_, rfl⟩
 have HO0 := Lib.hid ho0
 have hc0 := fun w1 (k : Kept w w1) v u (hv : IvR w1 v (gI a fr).raw) (hu : IvR w1 u (gI b m).raw) => CM.out w1 k fr (by omega) v u hv (by rw [← HM.out]; exact hu)
 rw [← HM.out, ← ho0] at hc0
 have C0 := Lib.hid hc0
 clear ho0 hc0
 have SB := Lib.hid (fun (h : o0.k ≠ 0) => show (sumJ p a b n).k = o0.k by
  unfold sumJ
  have e1 := HO0.out
  rw [HM.out, HFR.out, Nat.sub_zero] at e1
  rw [← e1, Outc.th_bad h])
 generalize hR : GoesI (sumJ p a b n) w = R
 have HRR := Lib.hid hR
 clear hR
 go_enter Tryz.func166, Tryz.ntmps166
 go_wp2_with fail
 rw [← HW.out]
 refine region_lin1 (m := 13) (V := VL [(vE (.agg #[.int .i64 (p : Int)])), (vE (.slice (some ⟨bA, oA, none⟩) a.length cA)), (vE (.int .i64 (fr : Int))), (vE (.pointer (some ⟨bA, oA + fr * 6, none⟩))), (fun v wv => IvR wv v ((gI a fr).raw)), (vE (.slice (some ⟨bB, oB, none⟩) b.length cB)), (vE (.int .i64 (n : Int))), (vE (.int .i64 (fr : Int))), (vE (.int .i64 (m : Int))), (vE (.pointer (some ⟨bB, oB + m * 6, none⟩))), (fun v wv => IvR wv v ((gI b m).raw)), (fun v wv => o0.k = 0 ∧ IvR wv v o0.v.raw), (fun v wv => ∃ b, v = .pointer (some ⟨b, 0, none⟩) ∧ W.heap.size ≤ b ∧ BlkI wv b (.bool false) (.slice none 0 0) (.int .i64 0) (.bool false) (.slice none 0 0) (.int .i64 0))])
  (by kernel_rfl) rfl rfl rfl (by kernel_rfl) (by kernel_rfl) (by kernel_rfl) (by kernel_rfl) (mono_of _ ⟨mE, mE, mE, mE, fun v w w' k h => by first | exact h | exact h.kept k | exact ⟨h.1, h.2.kept k⟩, mE, mE, mE, mE, mE, fun v w w' k h => by first | exact h | exact h.kept k | exact ⟨h.1, h.2.kept k⟩, fun v w w' k h => ⟨h.1, h.2.kept k⟩, fun v w w' k h => by obtain ⟨b, h1, h2, h3⟩ := h; exact ⟨b, h1, h2, h3.kept k⟩, trivial⟩) (steps_of ⟨
    (fun aF wF F => by have s6 : aF.tmps.getD 6 undef = (.pointer (some ⟨w.heap.size, 0, none⟩)) := F.o 6; have c0 := cell_at HP.out F.kept 0 _ rfl; exact sv rfl), (fun aF wF F => by have s1 : aF.tmps.getD 1 undef = (.slice (some ⟨bA, oA, none⟩) a.length cA) := F.o 1; exact sv rfl), (fun aF wF F => by have s3 : aF.tmps.getD 3 undef = (.int .i64 (fr : Int)) := F.o 3; exact sv rfl), (fun aF wF F => by have s16 := F.v 1 16; have s17 := F.v 2 17; exact sv rfl), (fun aF wF F => by have s18 := F.v 3 18; obtain ⟨xx, yy, zz, xx', yy', zz', h0, h1, h2, h3, h4, h5, hI⟩ := (HA.out _ (K.out.trans F.kept) fr (by omega)); exact step_val (by simp [Region.wanted]) (by go_simp) hI), (fun aF wF F => by have s2 : aF.tmps.getD 2 undef = (.slice (some ⟨bB, oB, none⟩) b.length cB) := F.o 2; exact sv rfl), (fun aF wF F => by have s5 : aF.tmps.getD 5 undef = (.int .i64 (n : Int)) := F.o 5; exact sv rfl), (fun aF wF F => by have s3 : aF.tmps.getD 3 undef = (.int .i64 (fr : Int)) := F.o 3; exact sv rfl), (fun aF wF F => by have s21 := F.v 6 21; have s22 := F.v 7 22; exact sv rfl), (fun aF wF F => by have s20 := F.v 5 20; have s23 := F.v 8 23; exact sv rfl), (fun aF wF F => by have s24 := F.v 9 24; obtain ⟨xx, yy, zz, xx', yy', zz', h0, h1, h2, h3, h4, h5, hI⟩ := (HB.out _ (K.out.trans F.kept) m (by omega)); exact step_val (by simp [Region.wanted]) (by go_simp) hI), (fun aF wF F => by have s15 := F.v 0 15; have s19 := F.p 4 19; have s25 := F.p 10 25; exact sJ (C0.out _ (K.out.trans F.kept) _ _ s19 s25) (fun _ _ _ h0 h => ⟨h0, h⟩) (fun w2 k2 h0 => ⟨F.defers, (by rw [← HRR.out]; exact BAD.out _ (K.out.trans (F.kept.trans k2)) _ h0 (SB.out h0))⟩)), (fun aF wF F => by exact step_new (by simp [Region.wanted]) (by go_simp) (kept_alloc _ _) ⟨_, rfl, F.kept.size, blkI_zero _⟩),
    trivial⟩) ?_
 intro u w1 k1 hu
 have p19 := hp hu 4
 have p25 := hp hu 10
 have p26 := hp hu 11
 have p13 := hp hu 12
 simp only [puts, slotOf, if_true, Act.put, z1, z2, z3, z4, z5, z6, z7, hv hu 0, hv hu 1, hv hu 2, hv hu 3, hv hu 5, hv hu 6, hv hu 7, hv hu 8, hv hu 9]
 clear hu
 generalize u 4 = v19 at *
 generalize u 10 = v25 at *
 generalize u 11 = v26 at *
 generalize u 12 = v13 at *
 obtain ⟨b13, rfl, hb13, hB13⟩ := p13
 obtain ⟨h0, hv⟩ := p26
 obtain ⟨P, pl, pc, P', pl', pc', rfl, z1, z2⟩ := ivC_split hv
 obtain ⟨-, r0, r1, r2, r3, r4, r5⟩ := hB13.facts
 obtain ⟨f0, f1, f2, f3, f4, f5⟩ := hB13.free
 have HN := Lib.hid (show b13 ≠ w.heap.size ∧ b13 ≠ w.heap.size + 1 ∧ w.heap.size + 1 < W.heap.size by have := HR.out.facts.1; omega)
 have H0 := Lib.hid h0
 have HLB := Lib.hid (show w.heap.size ≤ b13 by have := K.out.size; omega)
 clear p19 p25 hv h0
 go_simp
 go_upto_region 2 with fail
 change Code.wp _ _ _ _ (ivW w1 b13 _ _ _ _ _ _)
 have KX := Lib.hid (ivW_kept (x := .bool o0.v.lo.neg) (y := .slice P pl pc) (z := .int .i64 o0.v.lo.e) (x' := .bool o0.v.hi.neg) (y' := .slice P' pl' pc') (z' := .int .i64 o0.v.hi.e) (K.out.trans k1) (show w.heap.size ≤ b13 by have := K.out.size; omega))
 have XS := Lib.hid (BlkIv.store hB13 z1 z2)
 have XP := Lib.hid ((ivW_other w1 b13 w.heap.size (.bool o0.v.lo.neg) (.slice P pl pc) (.int .i64 o0.v.lo.e) (.bool o0.v.hi.neg) (.slice P' pl' pc') (.int .i64 o0.v.hi.e) HN.out.1.symm).trans ((k1.block _ (by have := HN.out.2.2; omega)).trans HP.out))
 have XR := Lib.hid (blkI_ivJ (HR.out.kept k1) HN.out.2.1.symm (.bool o0.v.lo.neg) (.slice P pl pc) (.int .i64 o0.v.lo.e) (.bool o0.v.hi.neg) (.slice P' pl' pc') (.int .i64 o0.v.hi.e))
 have HS := Lib.hid (show sumL p a b n o0.v (List.range' 1 n) = sumJ p a b n by
  unfold sumJ
  have e1 := HO0.out
  rw [HM.out, HFR.out] at e1
  rw [Nat.sub_zero] at e1
  rw [← e1, Outc.th_ok H0.out])
 have OS := Lib.hid (show o0.v.Ok by rw [HO0.out, HM.out]; exact OM.out fr)
 have F1 := Lib.hid (show fr + 1 = 1 by rw [HFR.out])
 clear C0 hmz hwm hmb hfa hmn HO0 H0 HM r0 r1 r2 r3 r4 r5 f0 f1 f2 f3 f4 f5 z1 z2 hB13 hb13 k1 HP HR K HW
 generalize ivW w1 b13 _ _ _ _ _ _ = X at *
 generalize o0.v = s0 at *
 clear hfn
 go_wp2_with fail
 go_loopw [14] (fun t wr => ∃ (j : Nat) (s : Iv), t = .int .i64 (j : Int) ∧ 1 ≤ j ∧ j ≤ n + 1 ∧ s.Ok ∧ sumL p a b n s (List.range' j (n + 1 - j)) = sumJ p a b n ∧ Kept w wr ∧ wr.heap[w.heap.size]? = some (.cells #[.int .i64 p] 86 (0, 0)) ∧ BlkI wr (w.heap.size + 1) (.bool false) (.slice none 0 0) (.int .i64 0) (.bool false) (.slice none 0 0) (.int .i64 0) ∧ BlkIv wr b13 s) (fun t _ => (n + 1 - intOf t).toNat)
 case atStart => exact ⟨1, s0, by have h := HFR.out; simp [h, wrap64], Nat.le_refl _, by omega, OS.out, by simpa using HS.out, KX.out, XP.out, XR.out, XS.out⟩
 case round =>
  obtain ⟨j, s, rfl, hj1, hjn, os, hs, hK, hP, hR, hS⟩ := hrel
  have J1 := Lib.hid hj1
  have OS := Lib.hid os
  have HSS := Lib.hid hs
  have K := Lib.hid hK
  have HP := Lib.hid hP
  have HR := Lib.hid hR
  obtain ⟨As, ls, cs, As', ls', cs', hb, d1, d2⟩ := hS
  have HB13 := Lib.hid hb
  have D1 := Lib.hid d1
  have D2 := Lib.hid d2
  clear hj1 os hs hK hP hR hb d1 d2
  by_cases hj : j ≤ n
  ·obtain ⟨m, hm⟩ : ∃ m, m = n - j := ⟨_, rfl⟩
   have hmz : (n : Int) - (j : Int) = (m : Int) := by omega
   have hja : j < a.length := by omega
   have hmb : m < b.length := by omega
   have hwm : IntKind.i64.wrap (m : Int) = (m : Int) := by simp [IntKind.wrap_i64]; omega
   obtain ⟨o1, ho1⟩ : ∃ o, o = mulI (gI a j) (gI b m) p := ⟨_, rfl⟩
   obtain ⟨o2, ho2⟩ : ∃ o, o = addI s o1.v p := ⟨_, rfl⟩
   have ok1 : o1.v.Ok := by rw [ho1, hm]; exact OM.out j
   have ok2 : o2.v.Ok := by rw [ho2]; exact OA.out s o1.v OS.out ok1
   have hc1 := fun w1 (k : Kept w w1) v u (hv : IvR w1 v (gI a j).raw) (hu : IvR w1 u (gI b m).raw) => CM.out w1 k j hj v u hv (by rw [← hm]; exact hu)
   rw [← hm, ← ho1] at hc1
   have hc2 := fun w1 (k : Kept w w1) v u (hv : IvR w1 v s.raw) (hu : IvR w1 u o1.v.raw) => CA.out w1 k s o1.v v u OS.out ok1 hv hu
   rw [← ho2] at hc2
   have hst : sumJ p a b n = o1.th fun q => (addI s q p).th fun s' => sumL p a b n s' (List.range' (j + 1) (n - j)) := by
    rw [← HSS.out, sumL_snoc p a b n s j (n + 1 - j) (by omega), ← hm, ← ho1, show n + 1 - j - 1 = m by omega]
   have hb1 : o1.k ≠ 0 → (sumJ p a b n).k = o1.k := fun h => by rw [hst, Outc.th_bad h]
   have hb2 : o1.k = 0 → o2.k ≠ 0 → (sumJ p a b n).k = o2.k := fun h h' => by rw [hst, Outc.th_ok h, ← ho2, Outc.th_bad h']
   have hgo : o1.k = 0 → o2.k = 0 → sumL p a b n o2.v (List.range' (j + 1) (n + 1 - (j + 1))) = sumJ p a b n := fun h h' => by rw [hst, Outc.th_ok h, ← ho2, Outc.th_ok h', show n + 1 - (j + 1) = n - j by omega]
   have C1 := Lib.hid hc1
   have C2 := Lib.hid hc2
   have B1 := Lib.hid hb1
   have B2 := Lib.hid hb2
   have GO := Lib.hid hgo
   have OK2 := Lib.hid ok2
   have HN2 := Lib.hid HN.out
   clear hc1 hc2 hst hb1 hb2 hgo ok1 ok2 ho1 ho2 hm
   generalize hsn : s.lo.neg = n1 at *
   generalize hse : s.lo.e = e1 at *
   generalize hsn2 : s.hi.neg = n2 at *
   generalize hse2 : s.hi.e = e2 at *
   have HSr := Lib.hid (show IvR wr (.agg #[.bool n1, .slice As ls cs, .int .i64 e1, .bool n2, .slice As' ls' cs', .int .i64 e2]) s.raw from ⟨_, _, _, _, _, _, rfl, D1.out, D2.out⟩)
   go_wp2_with fail
   refine region_lin1 (m := 15) (V := VL [(vE (.agg #[.int .i64 (p : Int)])), (vE (.agg #[.bool n1, .slice As ls cs, .int .i64 e1, .bool n2, .slice As' ls' cs', .int .i64 e2])), (vE (.agg #[.int .i64 (p : Int)])), (vE (.slice (some ⟨bA, oA, none⟩) a.length cA)), (vE (.int .i64 (j : Int))), (vE (.pointer (some ⟨bA, oA + j * 6, none⟩))), (fun v wv => IvR wv v ((gI a j).raw)), (vE (.slice (some ⟨bB, oB, none⟩) b.length cB)), (vE (.int .i64 (n : Int))), (vE (.int .i64 (j : Int))), (vE (.int .i64 (m : Int))), (vE (.pointer (some ⟨bB, oB + m * 6, none⟩))), (fun v wv => IvR wv v ((gI b m).raw)), (fun v wv => o1.k = 0 ∧ IvR wv v o1.v.raw), (fun v wv => o2.k = 0 ∧ IvR wv v o2.v.raw)])
    (by kernel_rfl) rfl rfl rfl (by kernel_rfl) (by kernel_rfl) (by kernel_rfl) (by kernel_rfl) (mono_of _ ⟨mE, mE, mE, mE, mE, mE, fun v w w' k h => by first | exact h | exact h.kept k | exact ⟨h.1, h.2.kept k⟩, mE, mE, mE, mE, mE, fun v w w' k h => by first | exact h | exact h.kept k | exact ⟨h.1, h.2.kept k⟩, fun v w w' k h => ⟨h.1, h.2.kept k⟩, fun v w w' k h => ⟨h.1, h.2.kept k⟩, trivial⟩) (steps_of ⟨
      (fun aF wF F => by have s6 : aF.tmps.getD 6 undef = (.pointer (some ⟨w.heap.size, 0, none⟩)) := F.o 6; have c0 := cell_at HP.out F.kept 0 _ rfl; exact sv rfl), (fun aF wF F => by have s13 : aF.tmps.getD 13 undef = (.pointer (some ⟨b13, 0, none⟩)) := F.o 13; have c0 := cell_at HB13.out F.kept 0 _ rfl; have c1 := cell_at HB13.out F.kept 1 _ rfl; have c2 := cell_at HB13.out F.kept 2 _ rfl; have c3 := cell_at HB13.out F.kept 3 _ rfl; have c4 := cell_at HB13.out F.kept 4 _ rfl; have c5 := cell_at HB13.out F.kept 5 _ rfl; exact sv rfl), (fun aF wF F => by have s6 : aF.tmps.getD 6 undef = (.pointer (some ⟨w.heap.size, 0, none⟩)) := F.o 6; have c0 := cell_at HP.out F.kept 0 _ rfl; exact sv rfl), (fun aF wF F => by have s1 : aF.tmps.getD 1 undef = (.slice (some ⟨bA, oA, none⟩) a.length cA) := F.o 1; exact sv rfl), (fun aF wF F => by have s14 : aF.tmps.getD 14 undef = (.int .i64 (j : Int)) := F.o 14; exact sv rfl), (fun aF wF F => by have s37 := F.v 3 37; have s38 := F.v 4 38; exact sv rfl), (fun aF wF F => by have s39 := F.v 5 39; obtain ⟨xx, yy, zz, xx', yy', zz', h0, h1, h2, h3, h4, h5, hI⟩ := (HA.out _ (K.out.trans F.kept) j (by omega)); exact step_val (by simp [Region.wanted]) (by go_simp) hI), (fun aF wF F => by have s2 : aF.tmps.getD 2 undef = (.slice (some ⟨bB, oB, none⟩) b.length cB) := F.o 2; exact sv rfl), (fun aF wF F => by have s5 : aF.tmps.getD 5 undef = (.int .i64 (n : Int)) := F.o 5; exact sv rfl), (fun aF wF F => by have s14 : aF.tmps.getD 14 undef = (.int .i64 (j : Int)) := F.o 14; exact sv rfl), (fun aF wF F => by have s42 := F.v 8 42; have s43 := F.v 9 43; exact sv rfl), (fun aF wF F => by have s41 := F.v 7 41; have s44 := F.v 10 44; exact sv rfl), (fun aF wF F => by have s45 := F.v 11 45; obtain ⟨xx, yy, zz, xx', yy', zz', h0, h1, h2, h3, h4, h5, hI⟩ := (HB.out _ (K.out.trans F.kept) m (by omega)); exact step_val (by simp [Region.wanted]) (by go_simp) hI), (fun aF wF F => by have s36 := F.v 2 36; have s40 := F.p 6 40; have s46 := F.p 12 46; exact sJ (C1.out _ (K.out.trans F.kept) _ _ s40 s46) (fun _ _ _ h0 h => ⟨h0, h⟩) (fun w2 k2 h0 => ⟨F.defers, (by rw [← HRR.out]; exact BAD.out _ (K.out.trans (F.kept.trans k2)) _ h0 (B1.out h0))⟩)), (fun aF wF F => by have s34 := F.v 0 34; have s35 := F.v 1 35; have s47 := F.p 13 47; exact sJ (C2.out _ (K.out.trans F.kept) _ _ (HSr.out.kept F.kept) s47.2) (fun _ _ _ h0 h => ⟨h0, h⟩) (fun w2 k2 h0 => ⟨F.defers, (by rw [← HRR.out]; exact BAD.out _ (K.out.trans (F.kept.trans k2)) _ h0 (B2.out s47.1 h0))⟩)),
      trivial⟩) ?_
   intro u w1 k1 hu
   have p40 := hp hu 6
   have p46 := hp hu 12
   have p47 := hp hu 13
   have p48 := hp hu 14
   simp only [puts, slotOf, if_true, Act.put, z1, z2, z3, z4, z5, z6, z7, hv hu 0, hv hu 1, hv hu 2, hv hu 3, hv hu 4, hv hu 5, hv hu 7, hv hu 8, hv hu 9, hv hu 10, hv hu 11]
   clear hu
   generalize u 6 = v40 at *
   generalize u 12 = v46 at *
   generalize u 13 = v47 at *
   generalize u 14 = v48 at *
   obtain ⟨h2, hv⟩ := p48
   have h1 := p47.1
   obtain ⟨Q, ql, qc, Q', ql', qc', rfl, z1, z2⟩ := ivC_split hv
   have hB := HB13.out.kept k1
   obtain ⟨-, r0, r1, r2, r3, r4, r5⟩ := hB.facts
   obtain ⟨f0, f1, f2, f3, f4, f5⟩ := hB.free
   have H12 := Lib.hid (And.intro h1 h2)
   clear p40 p46 p47 hv h1 h2
   go_simp
   go_upto_region 4 with fail
   change Code.wp _ _ _ _ (ivW w1 b13 _ _ _ _ _ _)
   have lw : w.heap.size < wr.heap.size := by have := HR.out.facts.1; omega
   have KX := Lib.hid (ivW_kept (x := .bool o2.v.lo.neg) (y := .slice Q ql qc) (z := .int .i64 o2.v.lo.e) (x' := .bool o2.v.hi.neg) (y' := .slice Q' ql' qc') (z' := .int .i64 o2.v.hi.e) (K.out.trans k1) (show w.heap.size ≤ b13 by have := HN2.out.1; have := HLB.out; omega))
   have XS := Lib.hid (BlkIv.store hB z1 z2)
   have XP := Lib.hid ((ivW_other w1 b13 w.heap.size (.bool o2.v.lo.neg) (.slice Q ql qc) (.int .i64 o2.v.lo.e) (.bool o2.v.hi.neg) (.slice Q' ql' qc') (.int .i64 o2.v.hi.e) HN2.out.1.symm).trans ((k1.block _ lw).trans HP.out))
   have XR := Lib.hid (blkI_ivJ (HR.out.kept k1) HN2.out.2.1.symm (.bool o2.v.lo.neg) (.slice Q ql qc) (.int .i64 o2.v.lo.e) (.bool o2.v.hi.neg) (.slice Q' ql' qc') (.int .i64 o2.v.hi.e))
   clear r0 r1 r2 r3 r4 r5 f0 f1 f2 f3 f4 f5 z1 z2 hB k1 lw
   generalize ivW w1 b13 _ _ _ _ _ _ = X at *
   go_wp2_with fail
   go_roundw
   case rel => exact ⟨j + 1, o2.v, by go_num, by omega, by omega, OK2.out, GO.out H12.out.1 H12.out.2, KX.out, XP.out, XR.out, XS.out⟩
   case measure => simp [intOf]; omega
  ·obtain rfl : j = n + 1 := by omega
   have hs : s = (sumJ p a b n).v ∧ (sumJ p a b n).k = 0 := by
    have := HSS.out
    rw [show n + 1 - (n + 1) = 0 by omega] at this
    rw [← this]
    exact ⟨rfl, rfl⟩
   obtain ⟨-, a0, a1, a2, a3, a4, a5⟩ := HB13.out.facts
   obtain ⟨-, r0, r1, r2, r3, r4, r5⟩ := HR.out.facts
   obtain ⟨f0, f1, f2, f3, f4, f5⟩ := HR.out.free
   have HS2 := Lib.hid hs
   clear hs
   go_wp2_with fail
   have hg := FIN.out (ivW wr (w.heap.size + 1) (.bool s.lo.neg) (.slice As ls cs) (.int .i64 s.lo.e) (.bool s.hi.neg) (.slice As' ls' cs') (.int .i64 s.hi.e)) (ivW_kept K.out (by omega)) (.agg #[.bool s.lo.neg, .slice As ls cs, .int .i64 s.lo.e, .bool s.hi.neg, .slice As' ls' cs', .int .i64 s.hi.e]) HS2.out.2 (by rw [← HS2.out.1]; exact ⟨_, _, _, _, _, _, rfl, D1.out.ivW HR.out _ _ _ _ _ _, D2.out.ivW HR.out _ _ _ _ _ _⟩)
   rw [HRR.out] at hg
   exact ret_iv (HR.out.laid _ _ _ _ _ _) rfl rfl rfl hg
end Go.Proofs.YtgododcbmkpbjaaGreatDoor
