/- Contracts of package jet, ninth part: the worker's line, where an operation makes it. -/
import Derived.Test.YtgododcbmkpbjaaGreatDoorClaimJexpp09
import Derived.Test.YtgododcbmkpbjaaGreatDoorClaimJexpp20
import Derived.Test.YtgododcbmkpbjaaGreatDoorClaimJexpp24
import Derived.Test.YtgododcbmkpbjaaGreatDoorClaimJexpp33
import Derived.Test.YtgododcbmkpbjaaGreatDoorClaimJexpp34
import Derived.Test.YtgododcbmkpbjaaGreatDoorClaimJexpp37
import Derived.WalkSpells
set_option maxRecDepth 100000
set_option maxHeartbeats 16000000
namespace Go.Proofs.YtgododcbmkpbjaaGreatDoor
open Go.RowKit
theorem sure_cJ {w : World} {v : Value} {o : Outc Iv} (hv : IvR w v o.v.raw) : Calls Tryz.prog 60 #[v, .int .i64 o.k] w (GoesI o w) := by
 obtain ⟨A, l, c, A', l', c', rfl, h1, h2⟩ := ivC_split hv
 obtain ⟨W, hW, kW, BI, BR⟩ := boxir w (.bool o.v.lo.neg) (.slice A l c) (.int .i64 o.v.lo.e) (.bool o.v.hi.neg) (.slice A' l' c') (.int .i64 o.v.hi.e)
 have Z1 := Lib.hid (h1.kept kW)
 have Z2 := Lib.hid (h2.kept kW)
 have HW := Lib.hid hW
 have K := Lib.hid kW
 have HB := Lib.hid BI
 have HR := Lib.hid BR
 clear hW kW BI BR h1 h2 hv
 obtain ⟨k, hk⟩ : ∃ k, k = o.k := ⟨_, rfl⟩
 rw [← hk]
 have HK := Lib.hid hk
 clear hk
 by_cases k0 : k = 0
 ·have K0 := Lib.hid (HK.out.symm.trans k0)
  subst k0
  generalize ho : o = o' at *
  clear ho o
  obtain ⟨⟨⟨n1, m1, e1⟩, ⟨n2, m2, e2⟩⟩, k⟩ := o'
  simp only [] at *
  go_enter Tryz.func60, Tryz.ntmps60
  go_wp2_with fail
  rw [← HW.out]
  refine (must_trueJ 0 _).mono ?_
  rintro e w1 ⟨rfl, q⟩
  replace K := Lib.hid (K.out.trans q)
  replace HB := Lib.hid (HB.out.kept q)
  replace HR := Lib.hid (HR.out.kept q)
  replace Z1 := Lib.hid (Z1.out.kept q)
  replace Z2 := Lib.hid (Z2.out.kept q)
  clear q HW
  obtain ⟨-, c0, c1, c2, c3, c4, c5⟩ := HB.out.facts
  obtain ⟨-, r0, r1, r2, r3, r4, r5⟩ := HR.out.facts
  obtain ⟨f0, f1, f2, f3, f4, f5⟩ := HR.out.free
  simp only []
  go_wp2_with fail
  exact ret_iv (HR.out.laid _ _ _ _ _ _) rfl rfl rfl ⟨ivW_kept K.out (by omega), .inl ⟨K0.out, _, rfl, _, _, _, _, _, _, rfl, Z1.out.ivW HR.out _ _ _ _ _ _, Z2.out.ivW HR.out _ _ _ _ _ _⟩⟩
 ·have hkb : (k == 0) = false := by rw [beq_eq_false_iff_ne]; exact k0
  have K0 := Lib.hid k0
  clear k0
  generalize o.v.lo.neg = n1 at *
  generalize o.v.lo.e = e1 at *
  generalize o.v.hi.neg = n2 at *
  generalize o.v.hi.e = e2 at *
  go_enter Tryz.func60, Tryz.ntmps60
  go_wp2_with fail
  rw [← HW.out]
  refine (must_cJ false k _).mono ?_
  rintro e w3 ⟨he, rfl⟩
  obtain rfl : e = .panicked (failV 117 k) := he
  exact ⟨rfl, K.out, .inr ⟨by rw [← HK.out]; exact K0.out, by rw [← HK.out]⟩⟩
theorem boxwiir (w : World) (p : Int) (x y z x' y' z' u v r u' v' r' : Value) : ∃ W, W = (((w.alloc (.cells #[.int .i64 p] 86)).alloc (.cells #[x, y, z, x', y', z'] 32)).alloc (.cells #[u, v, r, u', v', r'] 32)).alloc (.cells #[.bool false, .slice none 0 0, .int .i64 0, .bool false, .slice none 0 0, .int .i64 0] 32) ∧
 Kept w W ∧ W.cell? ⟨w.heap.size, 0, none⟩ = some (.int .i64 p) ∧ BlkI W (w.heap.size + 1) x y z x' y' z' ∧ BlkI W (w.heap.size + 1 + 1) u v r u' v' r' ∧ BlkI W (w.heap.size + 1 + 1 + 1) (.bool false) (.slice none 0 0) (.int .i64 0) (.bool false) (.slice none 0 0) (.int .i64 0) := by
 obtain ⟨W, hW, k, b1, b2, b3⟩ := boxiir (w.alloc (.cells #[.int .i64 p] 86)) x y z x' y' z' u v r u' v' r'
 simp only [World.size_alloc] at b1 b2 b3
 refine ⟨W, hW, (kept_alloc _ _).trans k, cell_kept k (cell_of_block (heap_alloc_new _ _) 0 _ rfl), b1, b2, b3⟩
theorem jpoint_c {w : World} {n : Nat} (hn : n < 9223372036854775808) (hT : Tab w) :
 Calls Tryz.prog 59 #[.int .i64 n] w (RetI (pt (fitD false n 0).v).raw w) := by
 have c1 := fun w1 (k : Kept w w1) => Of_pos (w := w1) (k := n) (e := 0) hn (by decide) (by decide) (hT.kept k)
 have hp : (pt (fitD false n 0).v).raw = ⟨(fitD false n 0).v.raw, (fitD false n 0).v.raw⟩ := rfl
 rw [hp]
 obtain ⟨W, hW, kW, BR, lW⟩ : ∃ W, W = w.alloc (.cells #[.bool false, .slice none 0 0, .int .i64 0, .bool false, .slice none 0 0, .int .i64 0] 32) ∧ Kept w W ∧ BlkI W w.heap.size (.bool false) (.slice none 0 0) (.int .i64 0) (.bool false) (.slice none 0 0) (.int .i64 0) ∧ w.heap.size < W.heap.size :=
  ⟨_, rfl, kept_alloc _ _, blkI_zero _, by simp⟩
 have C1 := Lib.hid c1
 have HW := Lib.hid hW
 have K := Lib.hid kW
 have HR := Lib.hid BR
 clear c1 hW kW BR hT hn hp
 generalize fitD false n 0 = o1 at *
 go_enter Tryz.func59, Tryz.ntmps59
 go_wp2_with fail
 rw [← HW.out]
 refine (C1.out _ K.out).mono ?_
 rintro e w2 ⟨q, u, rfl, hd⟩
 obtain ⟨PX, pX, qX, rfl, z1⟩ := dyR_split hd
 simp only []
 obtain ⟨VX, hV, kV, hb, lV⟩ := boxD w2 (.bool o1.v.neg) (.slice PX pX qX) (.int .i64 o1.v.e)
 have HV := Lib.hid hV
 have kk := q.trans kV
 have lt1 : w.heap.size < w2.heap.size := Nat.lt_of_lt_of_le HR.out.facts.1 q.size
 replace K := Lib.hid (K.out.trans kk)
 replace HR := Lib.hid (HR.out.kept kk)
 have HX := Lib.hid hb
 have ZX := Lib.hid (z1.kept kV)
 clear hV kV hb lV kk q hd z1 C1 HW
 go_upto_region 2 with fail
 rw [← HV.out]
 clear HV
 generalize w2.heap.size = bX at *
 obtain ⟨-, c0, c1, c2, -⟩ := HX.out.facts
 go_wp2_with fail
 refine (iof_c ZX.out).mono ?_
 rintro e w2 ⟨q, u, rfl, hd⟩
 obtain ⟨P, p', q', R, r, s, rfl, z1, z2⟩ := ivR_split hd
 have hr := HR.out.kept q
 obtain ⟨-, r0, r1, r2, r3, r4, r5⟩ := hr.facts
 obtain ⟨f0, f1, f2, f3, f4, f5⟩ := hr.free
 have HRR := Lib.hid hr
 have Z1 := Lib.hid z1
 have Z2 := Lib.hid z2
 clear hr z1 z2 hd c0 c1 c2
 simp only []
 go_wp2_with fail
 exact ret_iv (HRR.out.laid _ _ _ _ _ _) rfl rfl rfl ⟨ivW_kept (K.out.trans q) (by omega), _, rfl, _, _, _, _, _, _, rfl, Z1.out.ivW HRR.out _ _ _ _ _ _, Z2.out.ivW HRR.out _ _ _ _ _ _⟩
theorem wdiv_c {S : Int → Prop} {w : World} {va vb : Value} {a b : Iv} {p : Nat} (O : OpsC S) (hS : S 9) (ha : IvC w va a) (hb : IvC w vb b) (oa : a.Ok) (ob : b.Ok) (hT : Tab w) (p1 : 1 ≤ p) (p2 : p ≤ 2000) :
 Calls Tryz.prog 63 #[.agg #[.int .i64 p], va, vb] w (GoesI (divI a b p) w) := by
 have c1 := fun w1 (k : Kept w w1) => O.div hS (ha.kept k) (hb.kept k) oa ob (hT.kept k) p1 p2
 obtain ⟨A, l, c, A', l', c', rfl, h1, h2⟩ := ivC_split ha
 obtain ⟨B, m, d, B', m', d', rfl, g1, g2⟩ := ivC_split hb
 obtain ⟨W, hW, kW, cW, BI, BJ, BR⟩ := boxwiir w p (.bool a.lo.neg) (.slice A l c) (.int .i64 a.lo.e) (.bool a.hi.neg) (.slice A' l' c') (.int .i64 a.hi.e) (.bool b.lo.neg) (.slice B m d) (.int .i64 b.lo.e) (.bool b.hi.neg) (.slice B' m' d') (.int .i64 b.hi.e)
 have C1 := Lib.hid c1
 have HW := Lib.hid hW
 have K := Lib.hid kW
 have HR := Lib.hid BR
 obtain ⟨-, a0, a1, a2, a3, a4, a5⟩ := BI.facts
 obtain ⟨-, b0, b1, b2, b3, b4, b5⟩ := BJ.facts
 clear c1 hW kW BI BJ BR h1 h2 g1 g2 ha hb hT oa ob p1 p2
 generalize divI a b p = o at *
 generalize a.lo.neg = n1 at *
 generalize a.lo.e = e1 at *
 generalize a.hi.neg = n2 at *
 generalize a.hi.e = e2 at *
 generalize b.lo.neg = n3 at *
 generalize b.lo.e = e3 at *
 generalize b.hi.neg = n4 at *
 generalize b.hi.e = e4 at *
 go_enter Tryz.func63, Tryz.ntmps63
 go_wp2_with fail
 rw [← HW.out]
 refine (C1.out _ K.out).mono ?_
 rintro e w1 ⟨q, u, rfl, hd⟩
 replace K := Lib.hid (K.out.trans q)
 replace HR := Lib.hid (HR.out.kept q)
 have HD := Lib.hid hd
 clear q hd C1 HW cW a0 a1 a2 a3 a4 a5 b0 b1 b2 b3 b4 b5
 simp only [rawO]
 go_wp2_with fail
 refine (sure_cJ (o := o) HD.out).mono ?_
 rintro e w2 ⟨q, ⟨k0, u2, rfl, hd⟩ | ⟨k0, rfl⟩⟩
 ·obtain ⟨P, p', q', R, r, s, rfl, z1, z2⟩ := ivR_split hd
  have hr := HR.out.kept q
  obtain ⟨-, r0, r1, r2, r3, r4, r5⟩ := hr.facts
  obtain ⟨f0, f1, f2, f3, f4, f5⟩ := hr.free
  have HRR := Lib.hid hr
  have Z1 := Lib.hid z1
  have Z2 := Lib.hid z2
  have K0 := Lib.hid k0
  clear hr z1 z2 hd k0
  simp only []
  go_wp2_with fail
  exact ret_iv (HRR.out.laid _ _ _ _ _ _) rfl rfl rfl ⟨ivW_kept (K.out.trans q) (by omega), .inl ⟨K0.out, _, rfl, _, _, _, _, _, _, rfl, Z1.out.ivW HRR.out _ _ _ _ _ _, Z2.out.ivW HRR.out _ _ _ _ _ _⟩⟩
 ·exact ⟨rfl, K.out.trans q, .inr ⟨k0, rfl⟩⟩
section
variable {ops : Array Oper} {Q : Exit → Act → World → Prop} {i : Nat} {a : Act} {w : World} {V : Nat → Value → World → Prop} {o : Oper} {f : FuncId} {args : Array Value}
theorem sJ {t : Outc Iv} (hc : Calls Tryz.prog f args w (GoesI t w)) (hp : ∀ v w', Kept w w' → t.k = 0 → IvR w' v t.v.raw → V i v w') (hq : ∀ w', Kept w w' → t.k ≠ 0 → Q (.panic (failV 117 t.k)) a w') (hw : Region.wanted o (yielded ops a.tmps) = true := by simp [Region.wanted]) (h : (execOp a.eval o).run Tryz.prog w = .ok (.enter f args) w := by go_simp) : StepOK Tryz.prog ops Q V i o a w :=
 step_call hw h hc fun e w' he => by
  obtain ⟨k, ⟨h0, v, he, hd⟩ | ⟨h0, he⟩⟩ := he
  ·exact .inl ⟨v, he, k, hp v w' k h0 hd⟩
  ·exact .inr ⟨_, he, hq w' k h0⟩
end
theorem gd_at {l : List RawI} (g : Gd l) {i : Nat} (hi : i < l.length) : (gI l i).Ok ∧ ∃ a, l[i]? = some a ∧ (gI l i).raw = a := by
 have h := List.getElem?_eq_getElem hi
 have hm := g _ (List.getElem_mem hi)
 unfold gI
 rw [List.getD_eq_getElem?_getD, h]
 exact ⟨hm.1, _, rfl, hm.2⟩
/-- A row of clean intervals, read by place. -/
theorem IvS.place {w : World} {v : Value} {l : List RawI} (h : IvS w v l) (g : Gd l) (h0 : 0 < l.length) : ∃ b off c, v = .slice (some ⟨b, off, none⟩) l.length c ∧ l.length ≤ c ∧ ∀ w1, Kept w w1 → ∀ j, j < l.length → IvAt w1 b (off + j * 6) (gI l j).raw := by
 obtain ⟨A, c, rfl, hc, hA⟩ := h
 obtain ⟨b, off, rfl, hD⟩ := hA h0
 refine ⟨b, off, c, rfl, hc, fun w1 k j hj => ?_⟩
 obtain ⟨-, a, ha, he⟩ := gd_at g hj
 rw [he]
 exact (hD j a ha).kept k
theorem BlkIv.store {w : World} {b : Nat} {n n' : Bool} {A A' : Option Addr} {l c l' c' : Nat} {e e' : Int} (h : BlkI w b (.bool n) (.slice A l c) (.int .i64 e) (.bool n') (.slice A' l' c') (.int .i64 e')) {s : Iv} {P P' : Option Addr} {a d a' d' : Nat}
 (h1 : DyR w (.agg #[.bool s.lo.neg, .slice P a d, .int .i64 s.lo.e]) s.lo.raw) (h2 : DyR w (.agg #[.bool s.hi.neg, .slice P' a' d', .int .i64 s.hi.e]) s.hi.raw) : BlkIv (ivW w b (.bool s.lo.neg) (.slice P a d) (.int .i64 s.lo.e) (.bool s.hi.neg) (.slice P' a' d') (.int .i64 s.hi.e)) b s :=
 ⟨P, a, d, P', a', d', h.laid _ _ _ _ _ _, h1.ivW h _ _ _ _ _ _, h2.ivW h _ _ _ _ _ _⟩
end Go.Proofs.YtgododcbmkpbjaaGreatDoor
namespace Go.Proofs.YtgododcbmkpbjaaGreatDoor
open Go.RowKit
def zc6 : Array Value := (Value.agg #[.bool false, .slice none 0 0, .int .i64 0, .bool false, .slice none 0 0, .int .i64 0]).cells
theorem zc6_at {m i t : Nat} (ht : t < 6) (hi : i < m) : (Builtin.zeroCells zc6 m).toList[i * 6 + t]? = some (zc6[t]!) := by
 have hb : i * 6 + t < m * 6 := by omega
 have hm : (i * 6 + t) % 6 = t := by omega
 rw [Array.getElem?_toList]
 unfold Builtin.zeroCells
 have hs : zc6.size = 6 := rfl
 rw [hs, Array.getElem?_map, Array.getElem?_range, if_pos hb, Option.map_some, hm]
/-- Noughts appended onto an owned row of intervals. -/
theorem wpList_append_z {w : World} {ops : Array Oper} {rest : List Oper} {o : Oper} {a : Act} {Q : Exit → Act → World → Prop} (hgd : o.guard = none) (s x : Operand)
 (ho : o.op = .call { callee := .builtin .append, args := #[s, x], argTypes := #[33, 3] })
 {base n m : Nat} {v : Value} {xs : List Value} (hv : a.eval s = v) (hown : w.ownsRow base 32 6 v n xs) (hx : a.eval x = .int .i64 (m : Int)) (hn : n + m ≤ 1000) (hbase : base ≤ w.heap.size)
 (h : ∀ v' w', w'.ownsRow base 32 6 v' (n + m) (xs ++ (Builtin.zeroCells zc6 m).toList) → w.grownBy w' v.ownBlock → wpList Tryz.prog ops Q rest (a.put o.dst v') w') : wpList Tryz.prog ops Q (o :: rest) a w := by
 obtain ⟨i0, hi, hz0, hz1, hz2⟩ := info_parts iinfo
 refine wpList_append_own_zeros w hgd s x 33 3 ho base 32 i0 _ .i64 .i64 Tryz.underlying33 Tryz.underlying3 hi hz0 (by rw [hz1]; decide) (by rw [hz1]; rfl) v n xs hv (by rw [hz1]; exact hown) m _ hx rfl ?_ (by unfold maxLen; omega) (by rw [hz2]; omega) hbase ?_
 ·intro u hu
  have := mem_zeroCells hu
  simp [Value.cells] at this
  rcases this with rfl | rfl | rfl | rfl | rfl | rfl <;> rfl
 ·intro v' w' h1 h2
  rw [hz1] at h1
  exact h v' w' h1 h2
theorem const_ivS {w' : World} {base k : Nat} {v' x y z x' y' z' : Value} {a : RawI} (OW : w'.ownsRow base 32 6 v' (1 + k) ([x, y, z, x', y', z'] ++ (Builtin.zeroCells zc6 k).toList)) (hI : IvR w' (.agg #[x, y, z, x', y', z']) a) : IvS w' v' (constJ a k) := by
 have hc := OW.2
 rcases hc with ⟨-, h0⟩ | ⟨g, cap, cur, rfl, hbg, hg, hncap, -⟩
 ·omega
 refine ⟨_, cap, by simp [constJ, Nat.add_comm], by simp [constJ]; omega, fun _ => ⟨g, 0, rfl, fun i d hi => ?_⟩⟩
 have cl := OW.cells (g := g) rfl
 have ad : ∀ j, (⟨g, 0, none⟩ : Addr).add j = ⟨g, j, none⟩ := by intro j; unfold Addr.add; split <;> simp_all
 have cl' : ∀ j u, ([x, y, z, x', y', z'] ++ (Builtin.zeroCells zc6 k).toList)[j]? = some u → w'.cell? ⟨g, j, none⟩ = some u := fun j u hj => by have := cl j u hj; rwa [ad] at this
 rcases i with _ | i
 ·have hd : a = d := by simpa [constJ] using hi
  subst hd
  exact ⟨_, _, _, _, _, _, cl' 0 _ rfl, cl' 1 _ rfl, cl' 2 _ rfl, cl' 3 _ rfl, cl' 4 _ rfl, cl' 5 _ rfl, hI⟩
 ·have hik : i < k := by
   have := (List.getElem?_eq_some_iff.1 hi).1
   simpa [constJ] using this
  obtain rfl : d = rzI := by
   unfold constJ at hi
   rw [List.getElem?_cons_succ, List.getElem?_replicate, if_pos hik] at hi
   exact (Option.some.inj hi).symm
  have hz : ∀ t, t < 6 → w'.cell? ⟨g, 0 + (i + 1) * 6 + t, none⟩ = some (zc6[t]!) := fun t ht => cl' _ _ (by
   rw [List.getElem?_append_right (by simp; omega), show 0 + (i + 1) * 6 + t - [x, y, z, x', y', z'].length = i * 6 + t by simp; omega]
   exact zc6_at ht hik)
  exact ⟨_, _, _, _, _, _, hz 0 (by decide), hz 1 (by decide), hz 2 (by decide), hz 3 (by decide), hz 4 (by decide), hz 5 (by decide), ivR_zero _⟩
/-- What constant makes: a row of its own. -/
def RetCo (a : RawI) (k : Nat) (w : World) (e : Ending) (w' : World) : Prop := Kept w w' ∧ ∃ v xs, e = .returned v ∧ IvS w' v (constJ a k) ∧ w'.ownsRow w.heap.size 32 6 v (k + 1) xs
theorem constant_c {w : World} {va : Value} {a : RawI} {k : Nat} (ha : IvR w va a) (hk : k ≤ 900) : Calls Tryz.prog 58 #[va, .int .i64 k] w (RetCo a k w) := by
 obtain ⟨A, l, c, A', l', c', rfl, h1, h2⟩ := ivR_split ha
 obtain ⟨W, hW, kW, BI, lW⟩ : ∃ W, W = w.alloc (.cells #[.bool a.lo.neg, .slice A l c, .int .i64 a.lo.e, .bool a.hi.neg, .slice A' l' c', .int .i64 a.hi.e] 32) ∧ Kept w W ∧ BlkI W w.heap.size (.bool a.lo.neg) (.slice A l c) (.int .i64 a.lo.e) (.bool a.hi.neg) (.slice A' l' c') (.int .i64 a.hi.e) ∧ W.heap.size = w.heap.size + 1 :=
  ⟨_, rfl, kept_alloc _ _, blkI_new _ _ _ _ _ _ _, by simp⟩
 have HW := Lib.hid hW
 have K := Lib.hid kW
 have HA := Lib.hid ha
 obtain ⟨-, c0, c1, c2, c3, c4, c5⟩ := BI.facts
 clear hW kW BI h1 h2 ha
 have LW := Lib.hid lW
 clear lW
 generalize hn1 : a.lo.neg = n1 at *
 generalize hn2 : a.lo.e = e1 at *
 generalize hn3 : a.hi.neg = n2 at *
 generalize hn4 : a.hi.e = e2 at *
 clear hn1 hn2 hn3 hn4
 go_enter Tryz.func58, Tryz.ntmps58
 go_upto_region 1 with fail
 rw [← HW.out]
 have own : (W.alloc (.cells #[.bool n1, .slice A l c, .int .i64 e1, .bool n2, .slice A' l' c', .int .i64 e2] 32)).ownsRow w.heap.size 32 6 (.slice (some ⟨W.heap.size, 0, none⟩) 1 1) 1 [.bool n1, .slice A l c, .int .i64 e1, .bool n2, .slice A' l' c', .int .i64 e2] :=
  ⟨rfl, .inr ⟨W.heap.size, 1, _, rfl, by rw [LW.out]; omega, heap_alloc_new _ _, Nat.le_refl _, by unfold maxLen; omega, rfl, rfl⟩⟩
 have OWN := Lib.hid own
 clear own
 go_wp2_with (at_builtin; refine wpList_append_z rfl (.tmp 6) (.tmp 7) rfl rfl OWN.out rfl (by omega) (by simp; rw [LW.out]; omega) ?_; intro v' w' OW gW)
 have hb : w.heap.size ≤ W.heap.size := by rw [LW.out]; omega
 have kk : Kept w w' := Below.grown (K.out.trans (kept_alloc _ _)) gW (by simp; rw [LW.out]; omega) (fun g hg => Nat.le_trans hb (Nat.le_of_eq (Option.some.inj hg)))
 have hIv : IvS w' v' (constJ a k) := const_ivS OW (HA.out.kept kk)
 have FI := Lib.hid (show RetCo a k w (.returned v') w' from ⟨kk, v', _, rfl, hIv, by rw [Nat.add_comm k 1]; exact OW⟩)
 clear hIv kk OW gW OWN
 go_ret
 exact FI.out
/-- The cells of a row of intervals. -/
theorem row_cells {w : World} {b : Nat} : ∀ (l : List RawI) (off : Nat), (∀ i a, l[i]? = some a → IvAt w b (off + i * 6) a) → ∃ cs : List Value, cs.length = l.length * 6 ∧
 (∀ (j : Nat) (u : Value), cs[j]? = some u → w.cell? ⟨b, off + j, none⟩ = some u ∧ NoLimb u ∧ u.oneCell' = true) ∧
 (∀ (i : Nat) (a : RawI), l[i]? = some a → ∃ x y z x' y' z', cs[i * 6]? = some x ∧ cs[i * 6 + 1]? = some y ∧ cs[i * 6 + 2]? = some z ∧ cs[i * 6 + 3]? = some x' ∧ cs[i * 6 + 4]? = some y' ∧ cs[i * 6 + 5]? = some z' ∧ IvR w (.agg #[x, y, z, x', y', z']) a)
 | [], off, _ => ⟨[], rfl, by simp, by simp⟩
 | a :: l, off, h => by
   obtain ⟨cs, h1, h2, h3⟩ := row_cells l (off + 6) (fun i d hi => by
    have := h (i + 1) d (by simpa using hi)
    rw [show off + (i + 1) * 6 = off + 6 + i * 6 by omega] at this
    exact this)
   obtain ⟨x, y, z, x', y', z', c0, c1, c2, c3, c4, c5, hI⟩ := h 0 a rfl
   have hcl := hI.cells
   rw [show off + 0 * 6 = off by omega] at c0 c1 c2 c3 c4 c5
   refine ⟨x :: y :: z :: x' :: y' :: z' :: cs, by simp only [List.length_cons]; omega, ?_, ?_⟩
   ·intro j u hj
    rcases j with _ | _ | _ | _ | _ | _ | j
    ·cases hj; exact ⟨c0, hcl _ (by simp)⟩
    ·cases hj; exact ⟨c1, hcl _ (by simp)⟩
    ·cases hj; exact ⟨c2, hcl _ (by simp)⟩
    ·cases hj; exact ⟨c3, hcl _ (by simp)⟩
    ·cases hj; exact ⟨c4, hcl _ (by simp)⟩
    ·cases hj; exact ⟨c5, hcl _ (by simp)⟩
    ·have := h2 j u (by simpa using hj)
     rw [show off + 6 + j = off + (j + 1 + 1 + 1 + 1 + 1 + 1) by omega] at this
     exact this
   ·intro i d hi
    rcases i with _ | i
    ·obtain rfl : a = d := by simpa using hi
     exact ⟨_, _, _, _, _, _, rfl, rfl, rfl, rfl, rfl, rfl, hI⟩
    ·obtain ⟨p, q, r, p', q', r', e0, e1, e2, e3, e4, e5, hJ⟩ := h3 i d (by simpa using hi)
     refine ⟨p, q, r, p', q', r', ?_, ?_, ?_, ?_, ?_, ?_, hJ⟩
     ·rw [show (i + 1) * 6 = i * 6 + 6 by omega]; exact e0
     ·rw [show (i + 1) * 6 + 1 = i * 6 + 1 + 6 by omega]; exact e1
     ·rw [show (i + 1) * 6 + 2 = i * 6 + 2 + 6 by omega]; exact e2
     ·rw [show (i + 1) * 6 + 3 = i * 6 + 3 + 6 by omega]; exact e3
     ·rw [show (i + 1) * 6 + 4 = i * 6 + 4 + 6 by omega]; exact e4
     ·rw [show (i + 1) * 6 + 5 = i * 6 + 5 + 6 by omega]; exact e5
theorem iclone_c {w : World} {v : Value} {l : List RawI} (hv : IvS w v l) (h0 : 0 < l.length) (hl : l.length ≤ 1000) :
 Calls Tryz.prog 57 #[v] w fun e w' => Kept w w' ∧ ∃ v' xs, e = .returned v' ∧ OwnI w' w.heap.size v' l xs := by
 obtain ⟨A, c, rfl, hc, hA⟩ := hv
 obtain ⟨b, off, rfl, hD⟩ := hA h0
 obtain ⟨i0, hi, hz0, hz1, hz2⟩ := info_parts iinfo
 have e1 := fun (w : World) => Lib.run_eql_slice_nil (P := Tryz.prog) w 33 32 (some ⟨b, off, none⟩) l.length c 0 0 Tryz.underlying33
 obtain ⟨W, hW⟩ : ∃ W, W = w.alloc (.cells #[] 32) := ⟨_, rfl⟩
 have kW : Kept w W := by rw [hW]; exact kept_alloc _ _
 have hown : W.ownsRow w.heap.size 32 6 (.slice (some ⟨w.heap.size, 0, none⟩) 0 0) 0 [] := by rw [hW]; exact World.ownsRow_made w #[] 0 (Nat.le_refl _) (by decide) rfl
 have hnol : ∀ g, (Value.slice (some ⟨w.heap.size, 0, none⟩) 0 0).ownBlock = some g → NoL W g := by
  intro g hg
  obtain rfl : w.heap.size = g := Option.some.inj hg
  exact ⟨_, _, by rw [hW]; exact heap_alloc_new _ _, by simp⟩
 obtain ⟨cs, q1, q2, q3⟩ := row_cells (w := W) (b := b) l off (fun i a hi => (hD i a hi).kept kW)
 have ad : ∀ j, (⟨b, off, none⟩ : Addr).add j = ⟨b, off + j, none⟩ := by intro j; unfold Addr.add; split <;> simp_all
 have hsz : w.heap.size ≤ W.heap.size := kW.size
 have Q2 := Lib.hid q2
 have Q3 := Lib.hid q3
 have HO := Lib.hid hown
 have HN := Lib.hid hnol
 have K := Lib.hid kW
 have HW := Lib.hid hW
 have AD := Lib.hid ad
 clear hA hD hown hnol q2 q3 kW hW ad
 go_enter Tryz.func57, Tryz.ntmps57
 go_upto_region 3 with fail
 go_wp2_with (at_builtin; rw [← HW.out]; refine wpList_append_nol rfl (.tmp 5) (.tmp 6) _ rfl w.heap.size 32 i0 _ 6 80 Tryz.underlying33 hi hz0 hz1 hz2 rfl (by decide) _ 0 [] rfl HO.out ⟨b, off, none⟩ l.length c cs rfl q1 (fun j u hj => by rw [AD.out]; exact (Q2.out j u hj).1) (fun u hu => by obtain ⟨j, hj⟩ := List.getElem?_of_mem hu; exact (Q2.out j u hj).2.2) (by unfold maxLen; omega) (by omega) hsz h0 (by simp) (fun u hu => by obtain ⟨j, hj⟩ := List.getElem?_of_mem hu; exact (Q2.out j u hj).2.1) zcells_nl HN.out ?_; intro v' w' g' o1 o2 o3 o4)
 have kk : Kept w w' := Below.grown K.out o2 hsz (fun g hg => Nat.le_of_eq (Option.some.inj hg))
 have own : OwnI w' w.heap.size v' l cs := by
  refine ⟨by simpa using o1, ?_, ?_, ?_, ?_⟩
  ·intro u hu; obtain ⟨j, hj⟩ := List.getElem?_of_mem hu; exact (Q2.out j u hj).2.1
  ·intro u hu; obtain ⟨j, hj⟩ := List.getElem?_of_mem hu; exact (Q2.out j u hj).2.2
  ·intro g hg
   rw [o3] at hg
   cases hg
   exact o4
  ·intro i a hi
   obtain ⟨x, y, z, x', y', z', a0, a1, a2, a3, a4, a5, hI⟩ := Q3.out i a hi
   exact ⟨x, y, z, x', y', z', a0, a1, a2, a3, a4, a5, hI.grown o2 HN.out⟩
 have FI := Lib.hid (And.intro kk own)
 clear kk own o1 o2 o3 o4
 go_wp2
 go_ret
 exact ⟨FI.out.1, _, _, rfl, FI.out.2⟩
theorem within_c (w : World) (k b : Int) : Calls Tryz.prog 54 #[.int .i64 k, .int .i64 b] w (RetQ (.bool (withinJ k b)) w) := by
 unfold withinJ
 by_cases h1 : 0 ≤ k
 ·by_cases h2 : k ≤ 12
  ·by_cases h3 : 1 ≤ b
   ·by_cases h4 : b ≤ 300
    ·simp only [h1, h2, h3, h4, decide_true, Bool.and_self]
     go_enter Tryz.func54, Tryz.ntmps54
     go_wp2_with fail
     go_ret
     exact ⟨rfl, 0, rfl⟩
    ·simp only [h1, h2, h3, h4, decide_true, decide_false, Bool.and_self, Bool.and_false]
     go_enter Tryz.func54, Tryz.ntmps54
     go_wp2_with fail
     go_ret
     exact ⟨rfl, 0, rfl⟩
   ·simp only [h1, h2, h3, decide_true, decide_false, Bool.and_false, Bool.false_and]
    go_enter Tryz.func54, Tryz.ntmps54
    go_wp2_with fail
    go_ret
    exact ⟨rfl, 0, rfl⟩
  ·simp only [h1, h2, decide_true, decide_false, Bool.and_false, Bool.false_and]
   go_enter Tryz.func54, Tryz.ntmps54
   go_wp2_with fail
   go_ret
   exact ⟨rfl, 0, rfl⟩
 ·simp only [h1, decide_false, Bool.false_and]
  go_enter Tryz.func54, Tryz.ntmps54
  go_wp2_with fail
  go_ret
  exact ⟨rfl, 0, rfl⟩
/-- A line of a tape as a value. -/
def LnR (w : World) (v : Value) (l : Ln) : Prop := ∃ x y z x' y' z', v = .agg #[.int .i64 l.op, .int .i64 l.a, .int .i64 l.b, x, y, z, x', y', z'] ∧ IvR w (.agg #[x, y, z, x', y', z']) l.k
theorem LnR.kept {w w' : World} {v : Value} {l : Ln} (h : LnR w v l) (k : Kept w w') : LnR w' v l := by
 obtain ⟨x, y, z, x', y', z', e, h⟩ := h
 exact ⟨x, y, z, x', y', z', e, h.kept k⟩
/-- A row out of rows. -/
theorem Rws.row {w : World} {v : Value} {l : List (List RawI)} (h : Rws w v l) {i : Nat} (hi : i < l.length) : ∃ b off c s, v = .slice (some ⟨b, off, none⟩) l.length c ∧ l.length ≤ c ∧ w.cell? ⟨b, off + i, none⟩ = some s ∧ IvS w s (l.getD i []) := by
 obtain ⟨A, c, rfl, hc, hA⟩ := h
 obtain ⟨b, off, rfl, hD⟩ := hA (by omega)
 obtain ⟨s, h1, h2⟩ := hD i _ (List.getElem?_eq_getElem hi)
 refine ⟨b, off, c, s, rfl, hc, h1, ?_⟩
 rw [List.getD_eq_getElem?_getD, List.getElem?_eq_getElem hi]
 exact h2
/-- What the worker's next makes, for the operations of S. -/
def NxC (ov : Iv → Nat → Outc Iv) (S : Int → Prop) : Prop := ∀ {w : World} {va vb vc : Value} {a b c : List RawI} {op : Int} {n p : Nat}, S op → IvS w va a → IvS w vb b → IvS w vc c → Gd a → Gd b → Gd c → n < a.length → n < b.length → c.length = n →
 a.length ≤ 1000 → b.length ≤ 1000 → Tab w → 1 ≤ p → p ≤ 300 → Calls Tryz.prog 128 #[.agg #[.int .i64 p], .int .i64 op, va, vb, vc, .int .i64 n] w (GoesI (nextJ ov p op a b c n) w)
theorem NxC.or {ov : Iv → Nat → Outc Iv} {S U : Int → Prop} (h : NxC ov S) (g : NxC ov U) : NxC ov (fun op => S op ∨ U op) := by
 intro w va vb vc a b c op n p hop
 rcases hop with hop | hop
 ·exact h hop
 ·exact g hop
/-- A slice of one interval. -/
def OneI (w : World) (v : Value) (r : RawI) : Prop := ∃ b x y z x' y' z', v = .slice (some ⟨b, 0, none⟩) 1 1 ∧ BlkI w b x y z x' y' z' ∧ IvR w (.agg #[x, y, z, x', y', z']) r
theorem OneI.kept {w w' : World} {v : Value} {r : RawI} (h : OneI w v r) (k : Kept w w') : OneI w' v r := by
 obtain ⟨b, x, y, z, x', y', z', e, h1, h2⟩ := h
 exact ⟨b, x, y, z, x', y', z', e, h1.kept k, h2.kept k⟩
theorem oneI_new {w : World} {r : RawI} {x y z x' y' z' : Value} (h : IvR w (.agg #[x, y, z, x', y', z']) r) : OneI (w.alloc (.cells #[x, y, z, x', y', z'] 32)) (.slice (some ⟨w.heap.size, 0, none⟩) 1 1) r :=
 ⟨_, _, _, _, _, _, _, rfl, blkI_new _ _ _ _ _ _ _, h.kept (kept_alloc _ _)⟩
/-- A worker's box, a line's. -/
theorem boxwl (w : World) (p : Int) (o a b x y z x' y' z' : Value) : ∃ W, W = (w.alloc (.cells #[.int .i64 p] 86)).alloc (.cells #[o, a, b, x, y, z, x', y', z'] 41) ∧
 Kept w W ∧ W.heap[w.heap.size]? = some (.cells #[.int .i64 p] 86 (0, 0)) ∧ W.heap[w.heap.size + 1]? = some (.cells #[o, a, b, x, y, z, x', y', z'] 41 (0, 0)) := by
 refine ⟨_, rfl, (kept_alloc _ _).trans (kept_alloc _ _), ?_, ?_⟩
 ·rw [Below.heap_alloc _ _ _ (by simp)]; exact heap_alloc_new _ _
 ·have := heap_alloc_new (w.alloc (.cells #[.int .i64 p] 86)) (.cells #[o, a, b, x, y, z, x', y', z'] 41)
  simpa using this
end Go.Proofs.YtgododcbmkpbjaaGreatDoor
