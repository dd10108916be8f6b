/- Contracts of package jet, eleventh part: what lines make is clean; the worker's line as one. -/
import Derived.Test.YtgododcbmkpbjaaGreatDoorClaimJknop09
import Derived.Test.YtgododcbmkpbjaaGreatDoorClaimJknop38
import Derived.Test.YtgododcbmkpbjaaGreatDoorClaimJknop39
import Derived.WalkSpells
set_option maxRecDepth 100000
set_option maxHeartbeats 16000000
namespace Go.Proofs.YtgododcbmkpbjaaGreatDoor
open Go.RowKit
theorem nmul_c {S : Int → Prop} {w : World} {va vb vc : Value} {a b : List RawI} {n p : Nat} (O : OpsC S) (h6 : S 6) (h8 : S 8) (ha : IvS w va a) (hb : IvS w vb b) (ga : Gd a) (gb : Gd b) (na : n < a.length) (nb : n < b.length)
 (la : a.length ≤ 1000) (lb : b.length ≤ 1000) (hT : Tab w) (p1 : 1 ≤ p) (p2 : p ≤ 2000) :
 Calls Tryz.prog 128 #[.agg #[.int .i64 p], .int .i64 8, va, vb, vc, .int .i64 n] w (GoesI (sumJ p a b n) w) := by
 have C1 := Lib.hid (fun w1 (k : Kept w w1) => show Calls Tryz.prog 166 #[.agg #[.int .i64 p], va, vb, .int .i64 0, .int .i64 n, .int .i64 n] w1 (GoesI (sumJ p a b n) w1) from jsum_c (fr := 0) O h6 h8 (ha.kept k) (hb.kept k) ga gb na nb la lb rfl (hT.kept k) p1 p2)
 obtain ⟨W, hW, kW, bW, BR⟩ := boxwr w p
 have HW := Lib.hid hW
 have K := Lib.hid kW
 have cW := cell_of_block bW 0 _ rfl
 have HR := Lib.hid BR
 clear hW kW bW BR ha hb ga gb na nb la lb hT p1 p2 O h6 h8
 generalize sumJ p a b n = o at *
 go_enter Tryz.func128, Tryz.ntmps128
 go_wp2_with fail
 rw [← HW.out]
 refine (C1.out _ K.out).mono ?_
 rintro e w1 ⟨q, ⟨h0, v, rfl, hv⟩ | ⟨h0, rfl⟩⟩
 ·obtain ⟨P, pl, pc, P', pl', pc', rfl, z1, z2⟩ := ivC_split hv
  have hr := HR.out.kept q
  obtain ⟨-, r0, r1, r2, r3, r4, r5⟩ := hr.facts
  obtain ⟨f0, f1, f2, f3, f4, f5⟩ := hr.free
  have HRR := Lib.hid hr
  have Z1 := Lib.hid z1
  have Z2 := Lib.hid z2
  have H0 := Lib.hid h0
  clear hr z1 z2 hv h0 cW
  simp only []
  go_wp2_with fail
  exact ret_iv (HRR.out.laid _ _ _ _ _ _) rfl rfl rfl ⟨ivW_kept (K.out.trans q) (by omega), .inl ⟨H0.out, _, rfl, _, _, _, _, _, _, rfl, Z1.out.ivW HRR.out _ _ _ _ _ _, Z2.out.ivW HRR.out _ _ _ _ _ _⟩⟩
 ·exact ⟨rfl, K.out.trans q, .inr ⟨h0, rfl⟩⟩
def zc6 : Array Value := (Value.agg #[.bool false, .slice none 0 0, .int .i64 0, .bool false, .slice none 0 0, .int .i64 0]).cells
theorem zc6_at {m i t : Nat} (ht : t < 6) (hi : i < m) : (Builtin.zeroCells zc6 m).toList[i * 6 + t]? = some (zc6[t]!) := by
 have hb : i * 6 + t < m * 6 := by omega
 have hm : (i * 6 + t) % 6 = t := by omega
 rw [Array.getElem?_toList]
 unfold Builtin.zeroCells
 have hs : zc6.size = 6 := rfl
 rw [hs, Array.getElem?_map, Array.getElem?_range, if_pos hb, Option.map_some, hm]
/-- Noughts appended onto an owned row of intervals. -/
theorem wpList_append_z {w : World} {ops : Array Oper} {rest : List Oper} {o : Oper} {a : Act} {Q : Exit → Act → World → Prop} (hgd : o.guard = none) (s x : Operand)
 (ho : o.op = .call { callee := .builtin .append, args := #[s, x], argTypes := #[33, 3] })
 {base n m : Nat} {v : Value} {xs : List Value} (hv : a.eval s = v) (hown : w.ownsRow base 32 6 v n xs) (hx : a.eval x = .int .i64 (m : Int)) (hn : n + m ≤ 1000) (hbase : base ≤ w.heap.size)
 (h : ∀ v' w', w'.ownsRow base 32 6 v' (n + m) (xs ++ (Builtin.zeroCells zc6 m).toList) → w.grownBy w' v.ownBlock → wpList Tryz.prog ops Q rest (a.put o.dst v') w') : wpList Tryz.prog ops Q (o :: rest) a w := by
 obtain ⟨i0, hi, hz0, hz1, hz2⟩ := info_parts iinfo
 refine wpList_append_own_zeros w hgd s x 33 3 ho base 32 i0 _ .i64 .i64 Tryz.underlying33 Tryz.underlying3 hi hz0 (by rw [hz1]; decide) (by rw [hz1]; rfl) v n xs hv (by rw [hz1]; exact hown) m _ hx rfl ?_ (by unfold maxLen; omega) (by rw [hz2]; omega) hbase ?_
 ·intro u hu
  have := mem_zeroCells hu
  simp [Value.cells] at this
  rcases this with rfl | rfl | rfl | rfl | rfl | rfl <;> rfl
 ·intro v' w' h1 h2
  rw [hz1] at h1
  exact h v' w' h1 h2
theorem const_ivS {w' : World} {base k : Nat} {v' x y z x' y' z' : Value} {a : RawI} (OW : w'.ownsRow base 32 6 v' (1 + k) ([x, y, z, x', y', z'] ++ (Builtin.zeroCells zc6 k).toList)) (hI : IvR w' (.agg #[x, y, z, x', y', z']) a) : IvS w' v' (constJ a k) := by
 have hc := OW.2
 rcases hc with ⟨-, h0⟩ | ⟨g, cap, cur, rfl, hbg, hg, hncap, -⟩
 ·omega
 refine ⟨_, cap, by simp [constJ, Nat.add_comm], by simp [constJ]; omega, fun _ => ⟨g, 0, rfl, fun i d hi => ?_⟩⟩
 have cl := OW.cells (g := g) rfl
 have ad : ∀ j, (⟨g, 0, none⟩ : Addr).add j = ⟨g, j, none⟩ := by intro j; unfold Addr.add; split <;> simp_all
 have cl' : ∀ j u, ([x, y, z, x', y', z'] ++ (Builtin.zeroCells zc6 k).toList)[j]? = some u → w'.cell? ⟨g, j, none⟩ = some u := fun j u hj => by have := cl j u hj; rwa [ad] at this
 rcases i with _ | i
 ·have hd : a = d := by simpa [constJ] using hi
  subst hd
  exact ⟨_, _, _, _, _, _, cl' 0 _ rfl, cl' 1 _ rfl, cl' 2 _ rfl, cl' 3 _ rfl, cl' 4 _ rfl, cl' 5 _ rfl, hI⟩
 ·have hik : i < k := by
   have := (List.getElem?_eq_some_iff.1 hi).1
   simpa [constJ] using this
  obtain rfl : d = rzI := by
   unfold constJ at hi
   rw [List.getElem?_cons_succ, List.getElem?_replicate, if_pos hik] at hi
   exact (Option.some.inj hi).symm
  have hz : ∀ t, t < 6 → w'.cell? ⟨g, 0 + (i + 1) * 6 + t, none⟩ = some (zc6[t]!) := fun t ht => cl' _ _ (by
   rw [List.getElem?_append_right (by simp; omega), show 0 + (i + 1) * 6 + t - [x, y, z, x', y', z'].length = i * 6 + t by simp; omega]
   exact zc6_at ht hik)
  exact ⟨_, _, _, _, _, _, hz 0 (by decide), hz 1 (by decide), hz 2 (by decide), hz 3 (by decide), hz 4 (by decide), hz 5 (by decide), ivR_zero _⟩
/-- What constant makes: a row of its own. -/
def RetCo (a : RawI) (k : Nat) (w : World) (e : Ending) (w' : World) : Prop := Kept w w' ∧ ∃ v xs, e = .returned v ∧ IvS w' v (constJ a k) ∧ w'.ownsRow w.heap.size 32 6 v (k + 1) xs
theorem constant_c {w : World} {va : Value} {a : RawI} {k : Nat} (ha : IvR w va a) (hk : k ≤ 900) : Calls Tryz.prog 58 #[va, .int .i64 k] w (RetCo a k w) := by
 obtain ⟨A, l, c, A', l', c', rfl, h1, h2⟩ := ivR_split ha
 obtain ⟨W, hW, kW, BI, lW⟩ : ∃ W, W = w.alloc (.cells #[.bool a.lo.neg, .slice A l c, .int .i64 a.lo.e, .bool a.hi.neg, .slice A' l' c', .int .i64 a.hi.e] 32) ∧ Kept w W ∧ BlkI W w.heap.size (.bool a.lo.neg) (.slice A l c) (.int .i64 a.lo.e) (.bool a.hi.neg) (.slice A' l' c') (.int .i64 a.hi.e) ∧ W.heap.size = w.heap.size + 1 :=
  ⟨_, rfl, kept_alloc _ _, blkI_new _ _ _ _ _ _ _, by simp⟩
 have HW := Lib.hid hW
 have K := Lib.hid kW
 have HA := Lib.hid ha
 obtain ⟨-, c0, c1, c2, c3, c4, c5⟩ := BI.facts
 clear hW kW BI h1 h2 ha
 have LW := Lib.hid lW
 clear lW
 generalize hn1 : a.lo.neg = n1 at *
 generalize hn2 : a.lo.e = e1 at *
 generalize hn3 : a.hi.neg = n2 at *
 generalize hn4 : a.hi.e = e2 at *
 clear hn1 hn2 hn3 hn4
 go_enter Tryz.func58, Tryz.ntmps58
 go_upto_region 1 with fail
 rw [← HW.out]
 have own : (W.alloc (.cells #[.bool n1, .slice A l c, .int .i64 e1, .bool n2, .slice A' l' c', .int .i64 e2] 32)).ownsRow w.heap.size 32 6 (.slice (some ⟨W.heap.size, 0, none⟩) 1 1) 1 [.bool n1, .slice A l c, .int .i64 e1, .bool n2, .slice A' l' c', .int .i64 e2] :=
  ⟨rfl, .inr ⟨W.heap.size, 1, _, rfl, by rw [LW.out]; omega, heap_alloc_new _ _, Nat.le_refl _, by unfold maxLen; omega, rfl, rfl⟩⟩
 have OWN := Lib.hid own
 clear own
 go_wp2_with (at_builtin; refine wpList_append_z rfl (.tmp 6) (.tmp 7) rfl rfl OWN.out rfl (by omega) (by simp; rw [LW.out]; omega) ?_; intro v' w' OW gW)
 have hb : w.heap.size ≤ W.heap.size := by rw [LW.out]; omega
 have kk : Kept w w' := Below.grown (K.out.trans (kept_alloc _ _)) gW (by simp; rw [LW.out]; omega) (fun g hg => Nat.le_trans hb (Nat.le_of_eq (Option.some.inj hg)))
 have hIv : IvS w' v' (constJ a k) := const_ivS OW (HA.out.kept kk)
 have FI := Lib.hid (show RetCo a k w (.returned v') w' from ⟨kk, v', _, rfl, hIv, by rw [Nat.add_comm k 1]; exact OW⟩)
 clear hIv kk OW gW OWN
 go_ret
 exact FI.out
/-- The cells of a row of intervals. -/
theorem row_cells {w : World} {b : Nat} : ∀ (l : List RawI) (off : Nat), (∀ i a, l[i]? = some a → IvAt w b (off + i * 6) a) → ∃ cs : List Value, cs.length = l.length * 6 ∧
 (∀ (j : Nat) (u : Value), cs[j]? = some u → w.cell? ⟨b, off + j, none⟩ = some u ∧ NoLimb u ∧ u.oneCell' = true) ∧
 (∀ (i : Nat) (a : RawI), l[i]? = some a → ∃ x y z x' y' z', cs[i * 6]? = some x ∧ cs[i * 6 + 1]? = some y ∧ cs[i * 6 + 2]? = some z ∧ cs[i * 6 + 3]? = some x' ∧ cs[i * 6 + 4]? = some y' ∧ cs[i * 6 + 5]? = some z' ∧ IvR w (.agg #[x, y, z, x', y', z']) a)
 | [], off, _ => ⟨[], rfl, by simp, by simp⟩
 | a :: l, off, h => by
   obtain ⟨cs, h1, h2, h3⟩ := row_cells l (off + 6) (fun i d hi => by
    have := h (i + 1) d (by simpa using hi)
    rw [show off + (i + 1) * 6 = off + 6 + i * 6 by omega] at this
    exact this)
   obtain ⟨x, y, z, x', y', z', c0, c1, c2, c3, c4, c5, hI⟩ := h 0 a rfl
   have hcl := hI.cells
   rw [show off + 0 * 6 = off by omega] at c0 c1 c2 c3 c4 c5
   refine ⟨x :: y :: z :: x' :: y' :: z' :: cs, by simp only [List.length_cons]; omega, ?_, ?_⟩
   ·intro j u hj
    rcases j with _ | _ | _ | _ | _ | _ | j
    ·cases hj; exact ⟨c0, hcl _ (by simp)⟩
    ·cases hj; exact ⟨c1, hcl _ (by simp)⟩
    ·cases hj; exact ⟨c2, hcl _ (by simp)⟩
    ·cases hj; exact ⟨c3, hcl _ (by simp)⟩
    ·cases hj; exact ⟨c4, hcl _ (by simp)⟩
    ·cases hj; exact ⟨c5, hcl _ (by simp)⟩
    ·have := h2 j u (by simpa using hj)
     rw [show off + 6 + j = off + (j + 1 + 1 + 1 + 1 + 1 + 1) by omega] at this
     exact this
   ·intro i d hi
    rcases i with _ | i
    ·obtain rfl : a = d := by simpa using hi
     exact ⟨_, _, _, _, _, _, rfl, rfl, rfl, rfl, rfl, rfl, hI⟩
    ·obtain ⟨p, q, r, p', q', r', e0, e1, e2, e3, e4, e5, hJ⟩ := h3 i d (by simpa using hi)
     refine ⟨p, q, r, p', q', r', ?_, ?_, ?_, ?_, ?_, ?_, hJ⟩
     ·rw [show (i + 1) * 6 = i * 6 + 6 by omega]; exact e0
     ·rw [show (i + 1) * 6 + 1 = i * 6 + 1 + 6 by omega]; exact e1
     ·rw [show (i + 1) * 6 + 2 = i * 6 + 2 + 6 by omega]; exact e2
     ·rw [show (i + 1) * 6 + 3 = i * 6 + 3 + 6 by omega]; exact e3
     ·rw [show (i + 1) * 6 + 4 = i * 6 + 4 + 6 by omega]; exact e4
     ·rw [show (i + 1) * 6 + 5 = i * 6 + 5 + 6 by omega]; exact e5
theorem iclone_c {w : World} {v : Value} {l : List RawI} (hv : IvS w v l) (h0 : 0 < l.length) (hl : l.length ≤ 1000) :
 Calls Tryz.prog 57 #[v] w fun e w' => Kept w w' ∧ ∃ v' xs, e = .returned v' ∧ OwnI w' w.heap.size v' l xs := by
 obtain ⟨A, c, rfl, hc, hA⟩ := hv
 obtain ⟨b, off, rfl, hD⟩ := hA h0
 obtain ⟨i0, hi, hz0, hz1, hz2⟩ := info_parts iinfo
 have e1 := fun (w : World) => Lib.run_eql_slice_nil (P := Tryz.prog) w 33 32 (some ⟨b, off, none⟩) l.length c 0 0 Tryz.underlying33
 obtain ⟨W, hW⟩ : ∃ W, W = w.alloc (.cells #[] 32) := ⟨_, rfl⟩
 have kW : Kept w W := by rw [hW]; exact kept_alloc _ _
 have hown : W.ownsRow w.heap.size 32 6 (.slice (some ⟨w.heap.size, 0, none⟩) 0 0) 0 [] := by rw [hW]; exact World.ownsRow_made w #[] 0 (Nat.le_refl _) (by decide) rfl
 have hnol : ∀ g, (Value.slice (some ⟨w.heap.size, 0, none⟩) 0 0).ownBlock = some g → NoL W g := by
  intro g hg
  obtain rfl : w.heap.size = g := Option.some.inj hg
  exact ⟨_, _, by rw [hW]; exact heap_alloc_new _ _, by simp⟩
 obtain ⟨cs, q1, q2, q3⟩ := row_cells (w := W) (b := b) l off (fun i a hi => (hD i a hi).kept kW)
 have ad : ∀ j, (⟨b, off, none⟩ : Addr).add j = ⟨b, off + j, none⟩ := by intro j; unfold Addr.add; split <;> simp_all
 have hsz : w.heap.size ≤ W.heap.size := kW.size
 have Q2 := Lib.hid q2
 have Q3 := Lib.hid q3
 have HO := Lib.hid hown
 have HN := Lib.hid hnol
 have K := Lib.hid kW
 have HW := Lib.hid hW
 have AD := Lib.hid ad
 clear hA hD hown hnol q2 q3 kW hW ad
 go_enter Tryz.func57, Tryz.ntmps57
 go_upto_region 3 with fail
 go_wp2_with (at_builtin; rw [← HW.out]; refine wpList_append_nol rfl (.tmp 5) (.tmp 6) _ rfl w.heap.size 32 i0 _ 6 80 Tryz.underlying33 hi hz0 hz1 hz2 rfl (by decide) _ 0 [] rfl HO.out ⟨b, off, none⟩ l.length c cs rfl q1 (fun j u hj => by rw [AD.out]; exact (Q2.out j u hj).1) (fun u hu => by obtain ⟨j, hj⟩ := List.getElem?_of_mem hu; exact (Q2.out j u hj).2.2) (by unfold maxLen; omega) (by omega) hsz h0 (by simp) (fun u hu => by obtain ⟨j, hj⟩ := List.getElem?_of_mem hu; exact (Q2.out j u hj).2.1) zcells_nl HN.out ?_; intro v' w' g' o1 o2 o3 o4)
 have kk : Kept w w' := Below.grown K.out o2 hsz (fun g hg => Nat.le_of_eq (Option.some.inj hg))
 have own : OwnI w' w.heap.size v' l cs := by
  refine ⟨by simpa using o1, ?_, ?_, ?_, ?_⟩
  ·intro u hu; obtain ⟨j, hj⟩ := List.getElem?_of_mem hu; exact (Q2.out j u hj).2.1
  ·intro u hu; obtain ⟨j, hj⟩ := List.getElem?_of_mem hu; exact (Q2.out j u hj).2.2
  ·intro g hg
   rw [o3] at hg
   cases hg
   exact o4
  ·intro i a hi
   obtain ⟨x, y, z, x', y', z', a0, a1, a2, a3, a4, a5, hI⟩ := Q3.out i a hi
   exact ⟨x, y, z, x', y', z', a0, a1, a2, a3, a4, a5, hI.grown o2 HN.out⟩
 have FI := Lib.hid (And.intro kk own)
 clear kk own o1 o2 o3 o4
 go_wp2
 go_ret
 exact ⟨FI.out.1, _, _, rfl, FI.out.2⟩
theorem within_c (w : World) (k b : Int) : Calls Tryz.prog 54 #[.int .i64 k, .int .i64 b] w (RetQ (.bool (withinJ k b)) w) := by
 unfold withinJ
 by_cases h1 : 0 ≤ k
 ·by_cases h2 : k ≤ 12
  ·by_cases h3 : 1 ≤ b
   ·by_cases h4 : b ≤ 300
    ·simp only [h1, h2, h3, h4, decide_true, Bool.and_self]
     go_enter Tryz.func54, Tryz.ntmps54
     go_wp2_with fail
     go_ret
     exact ⟨rfl, 0, rfl⟩
    ·simp only [h1, h2, h3, h4, decide_true, decide_false, Bool.and_self, Bool.and_false]
     go_enter Tryz.func54, Tryz.ntmps54
     go_wp2_with fail
     go_ret
     exact ⟨rfl, 0, rfl⟩
   ·simp only [h1, h2, h3, decide_true, decide_false, Bool.and_false, Bool.false_and]
    go_enter Tryz.func54, Tryz.ntmps54
    go_wp2_with fail
    go_ret
    exact ⟨rfl, 0, rfl⟩
  ·simp only [h1, h2, decide_true, decide_false, Bool.and_false, Bool.false_and]
   go_enter Tryz.func54, Tryz.ntmps54
   go_wp2_with fail
   go_ret
   exact ⟨rfl, 0, rfl⟩
 ·simp only [h1, decide_false, Bool.false_and]
  go_enter Tryz.func54, Tryz.ntmps54
  go_wp2_with fail
  go_ret
  exact ⟨rfl, 0, rfl⟩
/-- A line of a tape as a value. -/
def LnR (w : World) (v : Value) (l : Ln) : Prop := ∃ x y z x' y' z', v = .agg #[.int .i64 l.op, .int .i64 l.a, .int .i64 l.b, x, y, z, x', y', z'] ∧ IvR w (.agg #[x, y, z, x', y', z']) l.k
theorem LnR.kept {w w' : World} {v : Value} {l : Ln} (h : LnR w v l) (k : Kept w w') : LnR w' v l := by
 obtain ⟨x, y, z, x', y', z', e, h⟩ := h
 exact ⟨x, y, z, x', y', z', e, h.kept k⟩
/-- A row out of rows. -/
theorem Rws.row {w : World} {v : Value} {l : List (List RawI)} (h : Rws w v l) {i : Nat} (hi : i < l.length) : ∃ b off c s, v = .slice (some ⟨b, off, none⟩) l.length c ∧ l.length ≤ c ∧ w.cell? ⟨b, off + i, none⟩ = some s ∧ IvS w s (l.getD i []) := by
 obtain ⟨A, c, rfl, hc, hA⟩ := h
 obtain ⟨b, off, rfl, hD⟩ := hA (by omega)
 obtain ⟨s, h1, h2⟩ := hD i _ (List.getElem?_eq_getElem hi)
 refine ⟨b, off, c, s, rfl, hc, h1, ?_⟩
 rw [List.getD_eq_getElem?_getD, List.getElem?_eq_getElem hi]
 exact h2
/-- What the worker's next makes, for the operations of S. -/
def NxC (ov : Iv → Nat → Outc Iv) (S : Int → Prop) : Prop := ∀ {w : World} {va vb vc : Value} {a b c : List RawI} {op : Int} {n p : Nat}, S op → IvS w va a → IvS w vb b → IvS w vc c → Gd a → Gd b → Gd c → n < a.length → n < b.length → c.length = n →
 a.length ≤ 1000 → b.length ≤ 1000 → Tab w → 1 ≤ p → p ≤ 300 → Calls Tryz.prog 128 #[.agg #[.int .i64 p], .int .i64 op, va, vb, vc, .int .i64 n] w (GoesI (nextJ ov p op a b c n) w)
theorem nxC_mul {ov : Iv → Nat → Outc Iv} {S : Int → Prop} (O : OpsC S) (h6 : S 6) (h8 : S 8) : NxC ov (fun op => op = 8) := by
 intro w va vb vc a b c op n p hop ha hb hc ga gb gc na nb nc la lb hT p1 p2
 subst hop
 exact nmul_c O h6 h8 ha hb ga gb na nb la lb hT p1 (by omega)
theorem NxC.or {ov : Iv → Nat → Outc Iv} {S U : Int → Prop} (h : NxC ov S) (g : NxC ov U) : NxC ov (fun op => S op ∨ U op) := by
 intro w va vb vc a b c op n p hop
 rcases hop with hop | hop
 ·exact h hop
 ·exact g hop
/-- A slice of one interval. -/
def OneI (w : World) (v : Value) (r : RawI) : Prop := ∃ b x y z x' y' z', v = .slice (some ⟨b, 0, none⟩) 1 1 ∧ BlkI w b x y z x' y' z' ∧ IvR w (.agg #[x, y, z, x', y', z']) r
theorem OneI.kept {w w' : World} {v : Value} {r : RawI} (h : OneI w v r) (k : Kept w w') : OneI w' v r := by
 obtain ⟨b, x, y, z, x', y', z', e, h1, h2⟩ := h
 exact ⟨b, x, y, z, x', y', z', e, h1.kept k, h2.kept k⟩
theorem oneI_new {w : World} {r : RawI} {x y z x' y' z' : Value} (h : IvR w (.agg #[x, y, z, x', y', z']) r) : OneI (w.alloc (.cells #[x, y, z, x', y', z'] 32)) (.slice (some ⟨w.heap.size, 0, none⟩) 1 1) r :=
 ⟨_, _, _, _, _, _, _, rfl, blkI_new _ _ _ _ _ _ _, h.kept (kept_alloc _ _)⟩
/-- A worker's box, a line's. -/
theorem boxwl (w : World) (p : Int) (o a b x y z x' y' z' : Value) : ∃ W, W = (w.alloc (.cells #[.int .i64 p] 86)).alloc (.cells #[o, a, b, x, y, z, x', y', z'] 41) ∧
 Kept w W ∧ W.heap[w.heap.size]? = some (.cells #[.int .i64 p] 86 (0, 0)) ∧ W.heap[w.heap.size + 1]? = some (.cells #[o, a, b, x, y, z, x', y', z'] 41 (0, 0)) := by
 refine ⟨_, rfl, (kept_alloc _ _).trans (kept_alloc _ _), ?_, ?_⟩
 ·rw [Below.heap_alloc _ _ _ (by simp)]; exact heap_alloc_new _ _
 ·have := heap_alloc_new (w.alloc (.cells #[.int .i64 p] 86)) (.cells #[o, a, b, x, y, z, x', y', z'] 41)
  simpa using this
theorem coefN_snoc (ov : Iv → Nat → Outc Iv) (p : Nat) (op : Int) (a b c : List RawI) (j m : Nat) (h : 0 < m) : coefN ov p op a b c (List.range' j m) =
 if (nextJ ov p op a b c j).k = 0 then coefN ov p op a b (c ++ [(nextJ ov p op a b c j).v.raw]) (List.range' (j + 1) (m - 1)) else ⟨[], (nextJ ov p op a b c j).k⟩ := by
 obtain ⟨m, rfl⟩ : ∃ k, m = k + 1 := ⟨m - 1, by omega⟩
 rw [List.range'_succ]
 rfl
theorem lineN_c {ov : Iv → Nat → Outc Iv} {S : Int → Prop} {w : World} {vl vall vt vx vq : Value} {l : Ln} {all : List (List RawI)} {k p i1 i2 : Nat} (N : NxC ov S) (hS : S l.op) (h6 : 6 ≤ l.op) (hv : LnR w vl l) (hall : Rws w vall all)
 (ha : l.a = (i1 : Int)) (hb : l.b = (i2 : Int)) (ia : i1 < all.length) (ib : i2 < all.length) (ga : Gd (all.getD i1 [])) (gb : Gd (all.getD i2 [])) (na : k < (all.getD i1 []).length) (nb : k < (all.getD i2 []).length)
 (la : (all.getD i1 []).length ≤ 1000) (lb : (all.getD i2 []).length ≤ 1000) (ok : ∀ c n, Gd c → n ≤ k → (nextJ ov p l.op (all.getD i1 []) (all.getD i2 []) c n).k = 0 → (nextJ ov p l.op (all.getD i1 []) (all.getD i2 []) c n).v.Ok) (hT : Tab w) (p1 : 1 ≤ p) (p2 : p ≤ 300) :
 Calls Tryz.prog 104 #[.agg #[.int .i64 p], vl, vall, vt, vx, vq, .int .i64 k] w (GoesL (coefN ov p l.op (all.getD i1 []) (all.getD i2 []) [] (List.range' 0 (k + 1))) w) := by
 obtain ⟨bA, oA, cA, sA, rfl, hcA, cellA, rA⟩ := hall.row ia
 obtain ⟨bB, oB, cB, sB, eB, -, cellB, rB⟩ := hall.row ib
 obtain ⟨rfl, rfl, rfl⟩ : bA = bB ∧ oA = oB ∧ cA = cB := by
  injection eB with e1 e2 e3
  injection e1 with e1
  injection e1 with e4 e5
  exact ⟨e4, e5, e3⟩
 clear eB hall
 obtain ⟨x, y, z, x', y', z', rfl, hK⟩ := hv
 obtain ⟨a, ea⟩ : ∃ a, a = all.getD i1 [] := ⟨_, rfl⟩
 obtain ⟨b, eb⟩ : ∃ b, b = all.getD i2 [] := ⟨_, rfl⟩
 rw [← ea] at ga na la rA ok ⊢
 rw [← eb] at gb nb lb rB ok ⊢
 obtain ⟨op, eo⟩ : ∃ op, op = l.op := ⟨_, rfl⟩
 rw [← eo] at hS h6 ok ⊢
 rw [ha, hb]
 have CN := Lib.hid (fun w1 (q : Kept w w1) c n vc (hc : IvS w1 vc c) (gc : Gd c) (hn : n ≤ k) (hcl : c.length = n) => N (w := w1) (n := n) (p := p) hS (rA.kept q) (rB.kept q) hc ga gb gc (by omega) (by omega) hcl la lb (hT.kept q) p1 p2)
 have OK := Lib.hid ok
 have t1 : (op == 1) = false := by rw [beq_eq_false_iff_ne]; omega
 have t2 : (op == 2) = false := by rw [beq_eq_false_iff_ne]; omega
 have t3 : (op == 3) = false := by rw [beq_eq_false_iff_ne]; omega
 have t5 : (op == 5) = false := by rw [beq_eq_false_iff_ne]; omega
 obtain ⟨W, hW, kW, bW, bL⟩ := boxwl w p (.int .i64 op) (.int .i64 i1) (.int .i64 i2) x y z x' y' z'
 have CA := Lib.hid cellA
 have CB := Lib.hid cellB
 have HW := Lib.hid hW
 have K := Lib.hid kW
 have HP := Lib.hid bW
 have HLN := Lib.hid bL
 have RA := Lib.hid rA
 have RB := Lib.hid rB
 have c0 := cell_of_block bL 0 _ rfl
 obtain ⟨r, er⟩ : ∃ r, r = coefN ov p op a b [] (List.range' 0 (k + 1)) := ⟨_, rfl⟩
 have ER := Lib.hid er
 rw [← er]
 generalize hl2 : all.length = m at *
 have hk9 : k < 1000 := by omega
 clear hW kW bW bL cellA cellB rA rB ga gb na nb la lb hS N hT p1 p2 ok h6 hK er ha hb hl2 ea eb eo hcA
 go_enter Tryz.func104, Tryz.ntmps104
 go_wp2_with fail
 rw [← HW.out]
 clear HW
 go_step3
 go_upto_region 11 with fail
 go_step3
 go_wp2_with fail
 go_loopw [15, 17] (fun vc t wr => ∃ (j : Nat) (c : List RawI) (xs : List Value), t = .int .i64 (j : Int) ∧ j ≤ k + 1 ∧ c.length = j ∧ Gd c ∧ coefN ov p op a b c (List.range' j (k + 1 - j)) = r ∧ OwnI wr W.heap.size vc c xs ∧ Kept W wr) (fun _ t _ => (k + 1 - intOf t).toNat)
 case atStart => exact ⟨0, [], [], rfl, Nat.zero_le _, rfl, (by intro a ha; cases ha), ER.out.symm, OwnI.nil _ _, Below.refl _ _⟩
 case round =>
  obtain ⟨j, c, xs, rfl, hj, hcl, gc, hco, hown, hkr⟩ := hrel
  have HCL := Lib.hid hcl
  have GC := Lib.hid gc
  have HCO := Lib.hid hco
  have OWN := Lib.hid hown
  have KR := Lib.hid hkr
  clear hcl gc hco hown hkr
  by_cases hjk : j ≤ k
  ·obtain ⟨o, ho⟩ : ∃ o, o = nextJ ov p op a b c j := ⟨_, rfl⟩
   have hsn := coefN_snoc ov p op a b c j (k + 1 - j) (by omega)
   rw [HCO.out, ← ho] at hsn
   have hbad : o.k ≠ 0 → r = ⟨[], o.k⟩ := fun h => by rw [hsn, if_neg h]
   have hgo : o.k = 0 → coefN ov p op a b (c ++ [o.v.raw]) (List.range' (j + 1) (k + 1 - (j + 1))) = r := fun h => by rw [hsn, if_pos h, show k + 1 - (j + 1) = k + 1 - j - 1 by omega]
   have HNX := Lib.hid (fun w1 (q : Kept wr w1) => ho ▸ CN.out w1 ((K.out.trans KR.out).trans q) c j _ (OWN.out.ivS.kept q) GC.out hjk HCL.out)
   have OKV := Lib.hid (fun (h : o.k = 0) => show o.v.Ok by rw [ho] at h ⊢; exact OK.out c j GC.out hjk h)
   have BAD := Lib.hid (fun (w1 : World) (q : Kept w w1) (h : o.k ≠ 0) => show GoesL r w (.panicked (failV 117 o.k)) w1 by rw [hbad h]; exact ⟨q, .inr ⟨h, rfl⟩⟩)
   have GO := Lib.hid hgo
   have HPw := Lib.hid ((KR.out.block _ (Array.getElem?_eq_some_iff.1 HP.out).1).trans HP.out)
   have HLw := Lib.hid ((KR.out.block _ (Array.getElem?_eq_some_iff.1 HLN.out).1).trans HLN.out)
   have CAw := Lib.hid (fun w1 (q : Kept wr w1) => (((K.out.trans KR.out).trans q).cell (p := ⟨bA, oA + i1, none⟩) (lt_of_cell CA.out)).trans CA.out)
   have CBw := Lib.hid (fun w1 (q : Kept wr w1) => (((K.out.trans KR.out).trans q).cell (p := ⟨bA, oA + i2, none⟩) (lt_of_cell CB.out)).trans CB.out)
   have enil := fun (w : World) => Go.run_neq_slice_nil_any (P := Tryz.prog) w 33 32 none 0 0 0 0 Tryz.underlying33
   clear ho hsn hbad hgo
   go_wp2_with fail
   clear enil
   refine region_lin2 (m := 18) (V := VL [(vE u15), (vE (.agg #[.int .i64 (p : Int)])), (vP (w.heap.size + 1) 0), (vE (.int .i64 op)), (vE (.slice (some ⟨bA, oA, none⟩) m cA)), (vP (w.heap.size + 1) 1), (vE (.int .i64 (i1 : Int))), (vE (.pointer (some ⟨bA, oA + i1, none⟩))), (vE sA), (vE (.slice (some ⟨bA, oA, none⟩) m cA)), (vP (w.heap.size + 1) 2), (vE (.int .i64 (i2 : Int))), (vE (.pointer (some ⟨bA, oA + i2, none⟩))), (vE sB), (vE u15), (vE (.int .i64 (j : Int))), (fun v wv => o.k = 0 ∧ IvR wv v o.v.raw), (fun v wv => OneI wv v o.v.raw)])
    (by kernel_rfl) rfl rfl rfl rfl rfl (by kernel_rfl) (by kernel_rfl) (by kernel_rfl) (by kernel_rfl) (mono_of _ ⟨mE, mE, mE, mE, mE, mE, mE, mE, mE, mE, mE, mE, mE, mE, mE, mE, fun v w w' k h => ⟨h.1, h.2.kept k⟩, fun v w w' k h => h.kept k, trivial⟩) (steps_of ⟨
      (fun aF wF F => by have s15 : aF.tmps.getD 15 undef = u15 := F.o 15; exact sv rfl), (fun aF wF F => by have s7 : aF.tmps.getD 7 undef = (.pointer (some ⟨w.heap.size, 0, none⟩)) := F.o 7; have c0 := cell_at HPw.out F.kept 0 _ rfl; exact sv rfl), (fun aF wF F => by have s8 : aF.tmps.getD 8 undef = (.pointer (some ⟨w.heap.size + 1, 0, none⟩)) := F.o 8; exact sv rfl), (fun aF wF F => by have s66 := F.v 2 66; have c0 := cell_at HLw.out F.kept 0 _ rfl; exact sv rfl), (fun aF wF F => by have s2 : aF.tmps.getD 2 undef = (.slice (some ⟨bA, oA, none⟩) m cA) := F.o 2; exact sv rfl), (fun aF wF F => by have s8 : aF.tmps.getD 8 undef = (.pointer (some ⟨w.heap.size + 1, 0, none⟩)) := F.o 8; exact sv rfl), (fun aF wF F => by have s69 := F.v 5 69; have c0 := cell_at HLw.out F.kept 1 _ rfl; exact sv rfl), (fun aF wF F => by have s68 := F.v 4 68; have s70 := F.v 6 70; exact sv rfl), (fun aF wF F => by have s71 := F.v 7 71; exact sw (by have hq := CAw.out _ F.kept; go_simp) rfl), (fun aF wF F => by have s2 : aF.tmps.getD 2 undef = (.slice (some ⟨bA, oA, none⟩) m cA) := F.o 2; exact sv rfl), (fun aF wF F => by have s8 : aF.tmps.getD 8 undef = (.pointer (some ⟨w.heap.size + 1, 0, none⟩)) := F.o 8; exact sv rfl), (fun aF wF F => by have s74 := F.v 10 74; have c0 := cell_at HLw.out F.kept 2 _ rfl; exact sv rfl), (fun aF wF F => by have s73 := F.v 9 73; have s75 := F.v 11 75; exact sv rfl), (fun aF wF F => by have s76 := F.v 12 76; exact sw (by have hq := CBw.out _ F.kept; go_simp) rfl), (fun aF wF F => by have s15 : aF.tmps.getD 15 undef = u15 := F.o 15; exact sv rfl), (fun aF wF F => by have s17 : aF.tmps.getD 17 undef = (.int .i64 (j : Int)) := F.o 17; exact sv rfl), (fun aF wF F => by have s65 := F.v 1 65; have s67 := F.v 3 67; have s72 := F.v 8 72; have s77 := F.v 13 77; have s78 := F.v 14 78; have s79 := F.v 15 79; exact sJ (HNX.out _ F.kept) (fun _ _ _ h0 h => ⟨h0, h⟩) (fun w2 k2 h0 => ⟨F.defers, BAD.out _ ((K.out.trans KR.out).trans (F.kept.trans k2)) h0⟩)), (fun aF wF F => by have s80 := F.p 16 80; obtain ⟨A1, l1, d1, A2, l2, d2, e9, h9, g9⟩ := ivR_split s80.2; simp only [Array.getD_eq_getD_getElem?] at e9; exact step_new (by simp [Region.wanted]) (by first | (go_simp; done) | (go_simp; rfl)) (kept_alloc _ _) (oneI_new (r := o.v.raw) ⟨_, _, _, _, _, _, rfl, h9, g9⟩)),
      trivial⟩) ?_
   intro u w1 k1 hu
   have p80 := hp hu 16
   have p81 := hp hu 17
   simp only [puts, slotOf, if_true, Act.put, z1, z2, z3, z4, z5, z6, z7, hv hu 0, hv hu 1, hv hu 2, hv hu 3, hv hu 4, hv hu 5, hv hu 6, hv hu 7, hv hu 8, hv hu 9, hv hu 10, hv hu 11, hv hu 12, hv hu 13, hv hu 14, hv hu 15]
   clear hu
   generalize u 16 = v80 at *
   generalize u 17 = v81 at *
   obtain ⟨h0, -⟩ := p80
   obtain ⟨b1, x0, x1, x2, x3, x4, x5, e81, hb1, hI⟩ := p81
   subst e81
   have own1 := OWN.out.kept k1
   have hcl9 : c.length ≤ 1000 := by have := HCL.out; omega
   have hW9 : W.heap.size ≤ w1.heap.size := (KR.out.trans k1).size
   refine ⟨?_, .inl (by kernel_rfl)⟩
   refine wp_append_iv (.tmp 64) (.tmp 81) ?ho (v := u15) ?hs own1 hI hb1 ?hx hcl9 hW9 ?h
   case ho => rfl
   case hs => first | rfl | (go_simp; done)
   case hx => first | rfl | (go_simp; done)
   intro v' X OX gX
   have KX := Lib.hid (OwnI.grown_kept own1 (KR.out.trans k1) gX)
   have OXX := Lib.hid OX
   have H0 := Lib.hid h0
   clear own1 hI hb1 OX gX k1 h0 hW9
   go_simp
   go_wp2_with fail
   go_roundw
   case rel =>
    refine ⟨j + 1, c ++ [o.v.raw], _, by go_num, by omega, by simp [HCL.out], ?_, GO.out H0.out, OXX.out, KX.out⟩
    intro y hy
    rcases List.mem_append.1 hy with hy | hy
    ·exact GC.out y hy
    ·simp only [List.mem_singleton] at hy
     subst hy
     have := OKV.out H0.out
     rw [Iv.raw_iv]
     exact ⟨this, rfl⟩
   case measure => simp [intOf]; omega
  ·obtain rfl : j = k + 1 := by omega
   have hr : r = ⟨c, 0⟩ := by
    have := HCO.out
    rw [show k + 1 - (k + 1) = 0 by omega] at this
    exact this.symm
   have FI := Lib.hid (show GoesL r w (.returned u15) wr by
    rw [hr]
    exact ⟨K.out.trans KR.out, .inl ⟨rfl, _, rfl, OWN.out.ivS, fun g hg => Nat.le_trans K.out.size (OWN.out.base g hg)⟩⟩)
   clear hr
   go_wp2_with fail
   go_ret
   exact FI.out
theorem coefG_snoc (p : Nat) (g c : List RawI) (j m : Nat) (h : 0 < m) : coefG p g c (List.range' j m) =
 if (roundI (gI g j) p).k = 0 then coefG p g (c ++ [(roundI (gI g j) p).v.raw]) (List.range' (j + 1) (m - 1)) else ⟨[], (roundI (gI g j) p).k⟩ := by
 obtain ⟨m, rfl⟩ : ∃ k, m = k + 1 := ⟨m - 1, by omega⟩
 rw [List.range'_succ]
 rfl
theorem lineX_c {w : World} {vl vall vt vx vq : Value} {l : Ln} {g : List RawI} {k p : Nat} (hop : l.op = 3) (hv : LnR w vl l) {rs : List (List RawI)} {i : Nat} (hrs : Rws w vx rs) (hi : i < rs.length) (hla : l.a = (i : Int)) (hge : rs.getD i [] = g) (gg : Gd g) (na : k < g.length) (la : g.length ≤ 1000) (hT : Tab w) (p1 : 1 ≤ p) (p2 : p ≤ 300) :
 Calls Tryz.prog 104 #[.agg #[.int .i64 p], vl, vall, vt, vx, vq, .int .i64 k] w (GoesL (coefG p g [] (List.range' 0 (k + 1))) w) := by
 obtain ⟨bX, oX, cX, sX, rfl, -, cellX, hg⟩ := hrs.row hi
 rw [hge] at hg
 obtain ⟨bG, oG, cG, rfl, -, hRG⟩ := hg.place gg (by omega)
 have RG := Lib.hid (fun w1 (q : Kept w w1) j (hj : j ≤ k) => hRG w1 q j (by omega))
 clear hRG hg hrs hge
 obtain ⟨x, y, z, x', y', z', rfl, hK⟩ := hv
 rw [hop]
 have CR := Lib.hid (fun w1 (q : Kept w w1) n v (hn : n ≤ k) (hv : IvR w1 v (gI g n).raw) => iround_c (p := p) hv (gd_at gg (by omega)).1 (hT.kept q) p1 (by omega))
 obtain ⟨W, hW, kW, bW, bL⟩ := boxwl w p (.int .i64 3) (.int .i64 l.a) (.int .i64 l.b) x y z x' y' z'
 have HW := Lib.hid hW
 have K := Lib.hid kW
 have HP := Lib.hid bW
 have HLN := Lib.hid bL
 have c0 := cell_of_block bL 0 _ rfl
 have c1 := cell_of_block bL 1 _ rfl
 have cX1 := (kW.cell (p := ⟨bX, oX + i, none⟩) (lt_of_cell cellX)).trans cellX
 rw [hla] at bL c0 c1 HLN HW ⊢
 clear cellX
 generalize rs.length = mX at *
 obtain ⟨r, er⟩ : ∃ r, r = coefG p g [] (List.range' 0 (k + 1)) := ⟨_, rfl⟩
 have ER := Lib.hid er
 rw [← er]
 generalize l.a = la' at *
 generalize l.b = lb' at *
 have hk9 : k < 1000 := by omega
 clear hW kW bW bL gg hT p1 p2 hK er hop
 go_enter Tryz.func104, Tryz.ntmps104
 go_wp2_with fail
 rw [← HW.out]
 clear HW
 go_step3
 go_upto_region 11 with fail
 go_step3
 go_wp2_with fail
 go_loopw [15, 17] (fun vc t wr => ∃ (j : Nat) (c : List RawI) (xs : List Value), t = .int .i64 (j : Int) ∧ j ≤ k + 1 ∧ c.length = j ∧ coefG p g c (List.range' j (k + 1 - j)) = r ∧ OwnI wr W.heap.size vc c xs ∧ Kept W wr) (fun _ t _ => (k + 1 - intOf t).toNat)
 case atStart => exact ⟨0, [], [], rfl, Nat.zero_le _, rfl, ER.out.symm, OwnI.nil _ _, Below.refl _ _⟩
 case round =>
  obtain ⟨j, c, xs, rfl, hj, hcl, hco, hown, hkr⟩ := hrel
  have HCL := Lib.hid hcl
  have HCO := Lib.hid hco
  have OWN := Lib.hid hown
  have KR := Lib.hid hkr
  clear hcl hco hown hkr
  by_cases hjk : j ≤ k
  ·obtain ⟨o, ho⟩ : ∃ o, o = roundI (gI g j) p := ⟨_, rfl⟩
   have hsn := coefG_snoc p g c j (k + 1 - j) (by omega)
   rw [HCO.out, ← ho] at hsn
   have hbad : o.k ≠ 0 → r = ⟨[], o.k⟩ := fun h => by rw [hsn, if_neg h]
   have hgo : o.k = 0 → coefG p g (c ++ [o.v.raw]) (List.range' (j + 1) (k + 1 - (j + 1))) = r := fun h => by rw [hsn, if_pos h, show k + 1 - (j + 1) = k + 1 - j - 1 by omega]
   have HNX := Lib.hid (fun w1 (q : Kept wr w1) v (hv : IvR w1 v (gI g j).raw) => ho ▸ CR.out w1 ((K.out.trans KR.out).trans q) j v hjk hv)
   have BAD := Lib.hid (fun (w1 : World) (q : Kept w w1) (h : o.k ≠ 0) => show GoesL r w (.panicked (failV 117 o.k)) w1 by rw [hbad h]; exact ⟨q, .inr ⟨h, rfl⟩⟩)
   have GO := Lib.hid hgo
   have HPw := Lib.hid ((KR.out.block _ (Array.getElem?_eq_some_iff.1 HP.out).1).trans HP.out)
   have enil := fun (w : World) => Go.run_neq_slice_nil_any (P := Tryz.prog) w 33 32 (some ⟨bG, oG, none⟩) g.length cG 0 0 Tryz.underlying33
   have hro : (rawO o).k = o.k := rfl
   have hjg : j < g.length := by omega
   clear ho hsn hbad hgo
   go_wp2_with fail
   clear enil
   refine region_lin2 (m := 12) (V := VL [(vE u15), (vE (.slice (some ⟨bG, oG, none⟩) g.length cG)), (vE (.int .i64 (j : Int))), (vE (.pointer (some ⟨bG, oG + j * 6, none⟩))), (fun v wv => IvR wv v ((gI g j).raw)), (vP w.heap.size 0), (vE (.int .i64 (p : Int))), (fun v wv => ∃ d, v = .tuple #[d, .int .i64 (rawO o).k] ∧ IvR wv d (rawO o).v), (fun v wv => IvR wv v (rawO o).v), (vE (.int .i64 (rawO o).k)), (fun v wv => o.k = 0 ∧ IvR wv v o.v.raw), (fun v wv => OneI wv v o.v.raw)])
    (by kernel_rfl) rfl rfl rfl rfl rfl (by kernel_rfl) (by kernel_rfl) (by kernel_rfl) (by kernel_rfl) (mono_of _ ⟨mE, mE, mE, mE, fun v w w' k h => by first | exact h | exact h.kept k | exact ⟨h.1, h.2.kept k⟩, mE, mE, fun v w w' k h => by obtain ⟨d, h1, h2⟩ := h; exact ⟨d, h1, h2.kept k⟩, fun v w w' k h => by first | exact h | exact h.kept k | exact ⟨h.1, h.2.kept k⟩, mE, fun v w w' k h => ⟨h.1, h.2.kept k⟩, fun v w w' k h => h.kept k, trivial⟩) (steps_of ⟨
      (fun aF wF F => by have s15 : aF.tmps.getD 15 undef = u15 := F.o 15; exact sv rfl), (fun aF wF F => by have s16 : aF.tmps.getD 16 undef = (.slice (some ⟨bG, oG, none⟩) g.length cG) := F.o 16; exact sv rfl), (fun aF wF F => by have s17 : aF.tmps.getD 17 undef = (.int .i64 (j : Int)) := F.o 17; exact sv rfl), (fun aF wF F => by have s52 := F.v 1 52; have s53 := F.v 2 53; exact sv rfl), (fun aF wF F => by have s54 := F.v 3 54; obtain ⟨xx, yy, zz, xx', yy', zz', h0, h1, h2, h3, h4, h5, hI⟩ := (RG.out _ ((K.out.trans KR.out).trans F.kept) j (by omega)); exact step_val (by simp [Region.wanted]) (by go_simp) hI), (fun aF wF F => by have s7 : aF.tmps.getD 7 undef = (.pointer (some ⟨w.heap.size, 0, none⟩)) := F.o 7; exact sv rfl), (fun aF wF F => by have s56 := F.v 5 56; have c0 := cell_at HPw.out F.kept 0 _ rfl; exact sv rfl), (fun aF wF F => by have s55 := F.p 4 55; have s57 := F.v 6 57; exact sP (HNX.out _ F.kept _ s55) fun _ _ h => h), (fun aF wF F => by have s58 := F.p 7 58; obtain ⟨dd, ee, hh⟩ := s58; exact step_val (by simp [Region.wanted]) (by go_simp) hh), (fun aF wF F => by have s58 := F.p 7 58; exact sw (by obtain ⟨dd, ee, hh⟩ := s58; go_simp) rfl), (fun aF wF F => by have s59 := F.p 8 59; have s60 := F.v 9 60; exact sJ (sure_cJ (o := o) s59) (fun _ _ _ h0 h => ⟨h0, h⟩) (fun w2 k2 h0 => ⟨F.defers, BAD.out _ ((K.out.trans KR.out).trans (F.kept.trans k2)) h0⟩)), (fun aF wF F => by have s61 := F.p 10 61; obtain ⟨A1, l1, d1, A2, l2, d2, e9, h9, g9⟩ := ivR_split s61.2; simp only [Array.getD_eq_getD_getElem?] at e9; exact step_new (by simp [Region.wanted]) (by first | (go_simp; done) | (go_simp; rfl)) (kept_alloc _ _) (oneI_new (r := o.v.raw) ⟨_, _, _, _, _, _, rfl, h9, g9⟩)),
      trivial⟩) ?_
   intro u w1 k1 hu
   have p55 := hp hu 4
   have p58 := hp hu 7
   have p59 := hp hu 8
   have p61 := hp hu 10
   have p62 := hp hu 11
   simp only [puts, slotOf, if_true, Act.put, z1, z2, z3, z4, z5, z6, z7, hv hu 0, hv hu 1, hv hu 2, hv hu 3, hv hu 5, hv hu 6, hv hu 9]
   clear hu
   generalize u 4 = v55 at *
   generalize u 7 = v58 at *
   generalize u 8 = v59 at *
   generalize u 10 = v61 at *
   generalize u 11 = v62 at *
   obtain ⟨h0, -⟩ := p61
   obtain ⟨b1, x0, x1, x2, x3, x4, x5, e81, hb1, hI⟩ := p62
   subst e81
   have own1 := OWN.out.kept k1
   have hcl9 : c.length ≤ 1000 := by have := HCL.out; omega
   have hW9 : W.heap.size ≤ w1.heap.size := (KR.out.trans k1).size
   refine ⟨?_, .inl (by kernel_rfl)⟩
   refine wp_append_iv (.tmp 51) (.tmp 62) ?ho (v := u15) ?hs own1 hI hb1 ?hx hcl9 hW9 ?h
   case ho => rfl
   case hs => first | rfl | (go_simp; done)
   case hx => first | rfl | (go_simp; done)
   intro v' X OX gX
   have KX := Lib.hid (OwnI.grown_kept own1 (KR.out.trans k1) gX)
   have OXX := Lib.hid OX
   have H0 := Lib.hid h0
   clear own1 hI hb1 OX gX k1 h0 hW9 p55 p58 p59
   go_simp
   go_wp2_with fail
   go_roundw
   case rel => exact ⟨j + 1, c ++ [o.v.raw], _, by go_num, by omega, by simp [HCL.out], GO.out H0.out, OXX.out, KX.out⟩
   case measure => simp [intOf]; omega
  ·obtain rfl : j = k + 1 := by omega
   have hr : r = ⟨c, 0⟩ := by
    have := HCO.out
    rw [show k + 1 - (k + 1) = 0 by omega] at this
    exact this.symm
   have FI := Lib.hid (show GoesL r w (.returned u15) wr by
    rw [hr]
    exact ⟨K.out.trans KR.out, .inl ⟨rfl, _, rfl, OWN.out.ivS, fun g hg => Nat.le_trans K.out.size (OWN.out.base g hg)⟩⟩)
   clear hr
   go_wp2_with fail
   go_ret
   exact FI.out
theorem gI_ok {l : List RawI} (g : Gd l) (i : Nat) : (gI l i).Ok := by
 by_cases h : i < l.length
 ·exact (gd_at g h).1
 ·unfold gI
  rw [List.getD_eq_getElem?_getD, List.getElem?_eq_none (by omega), Option.getD_none, ← iz_rawz, Iv.raw_iv]
  exact iz_ok
theorem th_k {o : Outc Iv} {f : Iv → Outc Iv} (h : (o.th f).k = 0) : o.k = 0 ∧ o.th f = f o.v := by
 by_cases e : o.k = 0
 ·exact ⟨e, Outc.th_ok e⟩
 ·rw [Outc.th_bad e] at h; exact absurd h e
theorem sumL_okv {p n : Nat} {a b : List RawI} (p1 : 1 ≤ p) : ∀ (js : List Nat) (s : Iv), s.Ok → (sumL p a b n s js).k = 0 → (sumL p a b n s js).v.Ok
 | [], s, hs, _ => hs
 | j :: js, s, hs, h => by
   rw [sumL] at h ⊢
   obtain ⟨e1, q1⟩ := th_k h
   rw [q1] at h ⊢
   obtain ⟨e2, q2⟩ := th_k h
   rw [q2] at h ⊢
   exact sumL_okv p1 js _ (addI_ok hs (mulI_ok p1).1 p1).1 h
theorem sumJ_okv {p n : Nat} {a b : List RawI} (p1 : 1 ≤ p) (h : (sumJ p a b n).k = 0) : (sumJ p a b n).v.Ok := by
 unfold sumJ at h ⊢
 obtain ⟨e1, q1⟩ := th_k h
 rw [q1] at h ⊢
 exact sumL_okv p1 _ _ (mulI_ok p1).1 h
theorem nextJ8 (ov : Iv → Nat → Outc Iv) (p : Nat) (a b c : List RawI) (n : Nat) : nextJ ov p 8 a b c n = sumJ p a b n := rfl
theorem nextJ11 (ov : Iv → Nat → Outc Iv) (p : Nat) (a b c : List RawI) (n : Nat) : nextJ ov p 11 a b c n = if n = 0 then sqrI (gI a 0) p else sumJ p a a n := rfl
theorem nextJ9 (ov : Iv → Nat → Outc Iv) (p : Nat) (a b c : List RawI) (n : Nat) : nextJ ov p 9 a b c n = (lessL p b c n (gI a n) (List.range' 1 n)).th fun x => divI x (gI b 0) p := rfl
theorem nextJ_okv {ov : Iv → Nat → Outc Iv} {p n : Nat} {op : Int} {a b c : List RawI} (p1 : 1 ≤ p) (_ga : Gd a) (gb : Gd b) (ho : op = 8 ∨ op = 11 ∨ op = 9) (h : (nextJ ov p op a b c n).k = 0) : (nextJ ov p op a b c n).v.Ok := by
 rcases ho with rfl | rfl | rfl
 ·rw [nextJ8] at h ⊢; exact sumJ_okv p1 h
 ·rw [nextJ11] at h ⊢
  split at h
  ·rename_i h0
   rw [if_pos h0]; exact (sqrI_ok p1).1
  ·rename_i h0
   rw [if_neg h0]; exact sumJ_okv p1 h
 ·rw [nextJ9] at h ⊢
  obtain ⟨e1, q1⟩ := th_k h
  rw [q1]
  exact (divI_ok (gI_ok gb 0) p1).1
theorem gd_nil : Gd [] := fun a ha => by cases ha
theorem Gd.snoc {c : List RawI} (g : Gd c) {v : Iv} (h : v.Ok) : Gd (c ++ [v.raw]) := by
 intro y hy
 rcases List.mem_append.1 hy with hy | hy
 ·exact g y hy
 ·simp only [List.mem_singleton] at hy
  subst hy
  rw [Iv.raw_iv]
  exact ⟨h, rfl⟩
theorem coefG_gd {p : Nat} {g : List RawI} (p1 : 1 ≤ p) (gg : Gd g) : ∀ (js : List Nat) (c : List RawI), Gd c → (coefG p g c js).k = 0 → Gd (coefG p g c js).v ∧ (coefG p g c js).v.length = c.length + js.length
 | [], c, hc, _ => ⟨hc, rfl⟩
 | j :: js, c, hc, h => by
   rw [coefG] at h ⊢
   by_cases e : (roundI (gI g j) p).k = 0
   ·rw [if_pos e] at h ⊢
    obtain ⟨h1, h2⟩ := coefG_gd p1 gg js _ (hc.snoc (roundI_ok (gI_ok gg j) p1).1) h
    refine ⟨h1, ?_⟩
    rw [h2]; simp; omega
   ·rw [if_neg e] at h; exact absurd h e
theorem coefN_gd {ov : Iv → Nat → Outc Iv} {p : Nat} {op : Int} {a b : List RawI} (p1 : 1 ≤ p) (ga : Gd a) (gb : Gd b) (ho : op = 8 ∨ op = 11 ∨ op = 9) : ∀ (js : List Nat) (c : List RawI), Gd c → (coefN ov p op a b c js).k = 0 → Gd (coefN ov p op a b c js).v ∧ (coefN ov p op a b c js).v.length = c.length + js.length
 | [], c, hc, _ => ⟨hc, rfl⟩
 | j :: js, c, hc, h => by
   rw [coefN] at h ⊢
   by_cases e : (nextJ ov p op a b c j).k = 0
   ·rw [if_pos e] at h ⊢
    obtain ⟨h1, h2⟩ := coefN_gd p1 ga gb ho js _ (hc.snoc (nextJ_okv p1 ga gb ho e)) h
    refine ⟨h1, ?_⟩
    rw [h2]; simp; omega
   ·rw [if_neg e] at h; exact absurd h e
/-- Rows that are clean, of so many coefficients. -/
def GdR (k : Nat) (rows : List (List RawI)) : Prop := ∀ r ∈ rows, Gd r ∧ r.length = k + 1
theorem GdR.at {k : Nat} {rows : List (List RawI)} (h : GdR k rows) {i : Nat} (hi : i < rows.length) : Gd (rows.getD i []) ∧ (rows.getD i []).length = k + 1 := by
 rw [List.getD_eq_getElem?_getD, List.getElem?_eq_getElem hi]
 exact h _ (List.getElem_mem hi)
theorem GdR.snoc {k : Nat} {rows : List (List RawI)} (h : GdR k rows) {r : List RawI} (g : Gd r) (l : r.length = k + 1) : GdR k (rows ++ [r]) := by
 intro y hy
 rcases List.mem_append.1 hy with hy | hy
 ·exact h y hy
 ·simp only [List.mem_singleton] at hy
  subst hy
  exact ⟨g, l⟩
theorem GdR.nil (k : Nat) : GdR k [] := fun a ha => by cases ha
/-- The worker's line for a line at a place: what it makes. -/
def LinC (tm : Bool) (ov : Iv → Nat → Outc Iv) (p k : Nat) (t : List RawI) (x q : List (List RawI)) (i : Nat) (l : Ln) : Prop :=
 (∀ all : List (List RawI), all.length = i → GdR k all → (lineJ ov p l all t x q k).k = 0 → Gd (lineJ ov p l all t x q k).v ∧ (lineJ ov p l all t x q k).v.length = k + 1) ∧
 ∀ {w : World} {vl vall vt vx vq : Value} {all : List (List RawI)}, LnR w vl l → Rws w vall all → all.length = i → GdR k all → (tm = true → IvS w vt t) → Rws w vx x → Rws w vq q → Tab w →
   Calls Tryz.prog 104 #[.agg #[.int .i64 p], vl, vall, vt, vx, vq, .int .i64 k] w (GoesL (lineJ ov p l all t x q k) w)
theorem lineJ3 (ov : Iv → Nat → Outc Iv) (p : Nat) (l : Ln) (all : List (List RawI)) (t : List RawI) (x q : List (List RawI)) (k : Nat) (h : l.op = 3) : lineJ ov p l all t x q k = coefG p (rowJ x l.a) [] (List.range' 0 (k + 1)) := by
 unfold lineJ; rw [h, ← List.range_eq_range']; rfl
theorem lineJ6 (ov : Iv → Nat → Outc Iv) (p : Nat) (l : Ln) (all : List (List RawI)) (t : List RawI) (x q : List (List RawI)) (k : Nat) (h : 6 ≤ l.op) : lineJ ov p l all t x q k = coefN ov p l.op (rowJ all l.a) (rowJ all l.b) [] (List.range' 0 (k + 1)) := by
 unfold lineJ
 rw [if_neg (by omega), if_neg (by omega), if_neg (by omega), if_neg (by omega), ← List.range_eq_range']
theorem linC3 {tm : Bool} {ov : Iv → Nat → Outc Iv} {p k i j : Nat} {t : List RawI} {x q : List (List RawI)} {l : Ln} (h : l.op = 3) (ha : l.a = (j : Int)) (hj : j < x.length) (gx : GdR k x) (hk : k ≤ 900) (p1 : 1 ≤ p) (p2 : p ≤ 300) : LinC tm ov p k t x q i l := by
 obtain ⟨g1, g2⟩ := gx.at hj
 refine ⟨fun all hi gall e => ?_, ?_⟩
 ·rw [lineJ3 _ _ _ _ _ _ _ _ h, rowJ, ha, Int.toNat_natCast] at e ⊢
  obtain ⟨q1, q2⟩ := coefG_gd p1 g1 _ _ gd_nil e
  exact ⟨q1, by rw [q2]; simp⟩
 ·intro w vl vall vt vx vq all hl hall hi gall ht hx hq hT
  rw [lineJ3 _ _ _ _ _ _ _ _ h, rowJ, ha, Int.toNat_natCast]
  exact lineX_c h hl hx hj ha rfl g1 (by omega) (by omega) hT p1 p2
theorem linC6 {tm : Bool} {ov : Iv → Nat → Outc Iv} {S : Int → Prop} {p k i j m : Nat} {t : List RawI} {x q : List (List RawI)} {l : Ln} (N : NxC ov S) (hS : S l.op) (ho : l.op = 8 ∨ l.op = 11 ∨ l.op = 9) (ha : l.a = (j : Int)) (hb : l.b = (m : Int)) (hj : j < i) (hm : m < i) (hk : k ≤ 900) (p1 : 1 ≤ p) (p2 : p ≤ 300) : LinC tm ov p k t x q i l := by
 have h6 : 6 ≤ l.op := by omega
 refine ⟨fun all hi gall e => ?_, ?_⟩
 ·subst hi
  obtain ⟨g1, g2⟩ := gall.at hj
  obtain ⟨g3, g4⟩ := gall.at hm
  rw [lineJ6 _ _ _ _ _ _ _ _ h6, rowJ, rowJ, ha, hb, Int.toNat_natCast, Int.toNat_natCast] at e ⊢
  obtain ⟨q1, q2⟩ := coefN_gd p1 g1 g3 ho _ _ gd_nil e
  exact ⟨q1, by rw [q2]; simp⟩
 ·intro w vl vall vt vx vq all hl hall hi gall ht hx hq hT
  subst hi
  obtain ⟨g1, g2⟩ := gall.at hj
  obtain ⟨g3, g4⟩ := gall.at hm
  rw [lineJ6 _ _ _ _ _ _ _ _ h6, rowJ, rowJ, ha, hb, Int.toNat_natCast, Int.toNat_natCast]
  exact lineN_c N hS h6 hl hall ha hb hj hm g1 g3 (by omega) (by omega) (by omega) (by omega) (fun c n hc hn h0 => nextJ_okv p1 g1 g3 ho h0) hT p1 p2
/-- What series makes is clean. -/
theorem linesJ_gd {ov : Iv → Nat → Outc Iv} {p k : Nat} {t : List RawI} {x q : List (List RawI)} : ∀ (ls : List Ln) (all : List (List RawI)),
 (∀ all' (i : Nat) l, ls[i]? = some l → all'.length = all.length + i → GdR k all' → (lineJ ov p l all' t x q k).k = 0 → Gd (lineJ ov p l all' t x q k).v ∧ (lineJ ov p l all' t x q k).v.length = k + 1) → GdR k all → (linesJ ov p t x q k all ls).k = 0 →
   GdR k (linesJ ov p t x q k all ls).v ∧ (linesJ ov p t x q k all ls).v.length = all.length + ls.length
 | [], all, _, ga, _ => ⟨ga, rfl⟩
 | l :: ls, all, h, ga, hk => by
   rw [linesJ] at hk ⊢
   by_cases e : (lineJ ov p l all t x q k).k = 0
   ·rw [if_pos e] at hk ⊢
    obtain ⟨q1, q2⟩ := h all 0 l rfl rfl ga e
    obtain ⟨h1, h2⟩ := linesJ_gd ls _ (fun all' i l hl hn => h all' (i + 1) l (by simpa using hl) (by rw [hn]; simp; omega)) (ga.snoc q1 q2) hk
    exact ⟨h1, by rw [h2]; simp; omega⟩
   ·rw [if_neg e] at hk; exact absurd hk e
theorem seriesJ_gd {tm : Bool} {ov : Iv → Nat → Outc Iv} {p k : Nat} {t : List RawI} {x q : List (List RawI)} {ls : List Ln} {outs : List Int} (h : ∀ i l, ls[i]? = some l → LinC tm ov p k t x q i l) (ho : ∀ n ∈ outs, 0 ≤ n ∧ n < (ls.length : Int))
 (hk : (seriesJ ov p ls outs t x q k).k = 0) : GdR k (seriesJ ov p ls outs t x q k).v := by
 unfold seriesJ at hk ⊢
 by_cases e : (linesJ ov p t x q k [] ls).k = 0
 ·rw [if_pos e]
  obtain ⟨g1, g2⟩ := linesJ_gd ls [] (fun all' i l hl hn => (h i l hl).1 all' (by simpa using hn)) (GdR.nil k) e
  intro r hr
  obtain ⟨n, hn, rfl⟩ := List.mem_map.1 hr
  obtain ⟨n0, n1⟩ := ho n hn
  simp only [List.length_nil, Nat.zero_add] at g2
  exact g1.at (i := n.toNat) (by omega)
 ·rw [if_neg e] at hk; exact absurd hk e
/-- One step, where one state is. -/
theorem stepsJ_one {ov : Iv → Nat → Outc Iv} {p n m : Nat} {ls : List Ln} {outs : List Int} {time c : List RawI} {R : List (List RawI)} (ho : outs.length = 1) (h : stepsJ ov p ls outs time [] [c] (List.range' n (m + 1)) = ⟨R, 0⟩) :
 ∃ r, seriesJ ov p ls outs (time.take (n + 1)) [c] [] n = ⟨[r], 0⟩ ∧ (divI (gI r n) (ptN (n + 1)) p).k = 0 ∧ stepsJ ov p ls outs time [] [c ++ [(divI (gI r n) (ptN (n + 1)) p).v.raw]] (List.range' (n + 1) m) = ⟨R, 0⟩ := by
 rw [List.range'_succ, stepsJ, List.map_nil] at h
 by_cases h1 : (seriesJ ov p ls outs (time.take (n + 1)) [c] [] n).k = 0
 ·rw [if_neg (by simpa using h1)] at h
  obtain ⟨o1, rfl⟩ : ∃ o1, outs = [o1] := by
   rcases outs with _ | ⟨o1, _ | ⟨o2, os⟩⟩
   ·simp at ho
   ·exact ⟨o1, rfl⟩
   ·simp at ho
  obtain ⟨r, hr⟩ : ∃ r, seriesJ ov p ls [o1] (time.take (n + 1)) [c] [] n = ⟨[r], 0⟩ := by
   unfold seriesJ at h1 ⊢
   by_cases e : (linesJ ov p (time.take (n + 1)) [c] [] n [] ls).k = 0
   ·rw [if_pos e]; exact ⟨_, rfl⟩
   ·rw [if_neg e] at h1; exact absurd h1 e
  refine ⟨r, hr, ?_⟩
  rw [hr] at h
  by_cases h2 : (divI (gI r n) (ptN (n + 1)) p).k = 0
  ·have hg : growJ p n [c] [r] = ⟨[c ++ [(divI (gI r n) (ptN (n + 1)) p).v.raw]], 0⟩ := by
    simp only [growJ, h2, if_true]
   rw [hg, if_neg (by simp)] at h
   exact ⟨h2, h⟩
  ·have hg : (growJ p n [c] [r]).k = (divI (gI r n) (ptN (n + 1)) p).k := by
    simp only [growJ]
    rw [if_neg h2]
   rw [if_pos (by rw [hg]; exact h2)] at h
   injection h with h3 h4
   rw [hg] at h4
   exact absurd h4 h2
 ·rw [if_pos h1] at h
  injection h with h3 h4
  exact absurd h4 h1
end Go.Proofs.YtgododcbmkpbjaaGreatDoor
