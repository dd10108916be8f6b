/- The laws' helpers: clean operands; few limbs; what the program tells of a few. -/
import Derived.Test.YtjdplcenniogdaaDoorClaimTurnsp31
import Derived.Test.YtjdplcenniogdaaDoorClaimTurnsp39
import Derived.Test.YtjdplcenniogdaaDoorClaimTurnsp40
/- Contracts of package arith, twelfth part: the tops (Add, Sub, Mul, Div, Neg, Sqr, Sqrt). -/
namespace Go.Proofs.YtjdplcenniogdaaDoor
open Go.RowKit

/-- The clean one of a raw interval that may be. -/
def RawI.iv (a : RawI) : Iv := ⟨a.lo.dy, a.hi.dy⟩
theorem iv_clean {a : RawI} (h1 : Small a.lo.m) (h2 : Small a.hi.m) (h : mayI a = true) : a.iv.Ok ∧ a.iv.raw = a := by
  unfold mayI at h
  simp only [Bool.and_eq_true, decide_eq_true_eq] at h
  obtain ⟨⟨m1, m2⟩, m3⟩ := h
  obtain ⟨c1, d1⟩ := mayD_clean h1 m1
  obtain ⟨c2, d2⟩ := mayD_clean h2 m2
  exact ⟨⟨d1, d2, cmpQ_le.1 m3⟩, by unfold RawI.iv Iv.raw; simp only [c1, c2]⟩
theorem Iv.raw_iv (a : Iv) : a.raw.iv = a := by unfold Iv.raw RawI.iv; simp only [Dy.raw_dy]

theorem ends_iz {lo hi : Outc Dy} (h : (ends lo hi).k ≠ 0) : (ends lo hi).v = iz := by
  unfold ends Outc.bind at *
  by_cases h1 : lo.k = 0
  · simp only [if_pos h1] at h ⊢
    by_cases h2 : hi.k = 0
    · simp only [if_pos h2] at h; exact absurd rfl h
    · simp only [if_neg h2]
  · simp only [if_neg h1]
theorem bind_iz {α : Type} {o : Outc α} {f : α → Outc Iv} (hf : ∀ x, (f x).k ≠ 0 → (f x).v = iz) (h : (o.bind iz f).k ≠ 0) : (o.bind iz f).v = iz := by
  unfold Outc.bind at *
  by_cases h1 : o.k = 0
  · rw [if_pos h1] at h ⊢; exact hf _ h
  · rw [if_neg h1]
theorem four_iz {a b c d : Outc Dy} {f : Dy → Dy → Dy → Dy → Outc Iv} (hf : ∀ x y z u, (f x y z u).k ≠ 0 → (f x y z u).v = iz) (h : (four a b c d f).k ≠ 0) : (four a b c d f).v = iz := by
  unfold four at *
  exact bind_iz (fun x => bind_iz fun y => bind_iz fun z => bind_iz fun u => hf x y z u) h
theorem addI_iz {a b : Iv} {p : Nat} (h : (addI a b p).k ≠ 0) : (addI a b p).v = iz := ends_iz h
theorem subI_iz {a b : Iv} {p : Nat} (h : (subI a b p).k ≠ 0) : (subI a b p).v = iz := ends_iz h
theorem negI_iz {a : Iv} {p : Nat} (h : (negI a p).k ≠ 0) : (negI a p).v = iz := ends_iz h
theorem mulI_iz {a b : Iv} {p : Nat} (h : (mulI a b p).k ≠ 0) : (mulI a b p).v = iz := four_iz (fun _ _ _ _ h => ends_iz h) h
theorem sqrI_iz {a : Iv} {p : Nat} (h : (sqrI a p).k ≠ 0) : (sqrI a p).v = iz := bind_iz (fun _ h => bind_iz (fun _ h => ends_iz h) h) h
theorem sqrtI_iz {a : Iv} {p : Nat} (h : (sqrtI a p).k ≠ 0) : (sqrtI a p).v = iz := by
  unfold sqrtI at *
  by_cases hs : sg a.lo < 0
  · rw [if_pos hs]
  · rw [if_neg hs] at h ⊢; exact ends_iz h
theorem divI_iz {a b : Iv} {p : Nat} (h : (divI a b p).k ≠ 0) : (divI a b p).v = iz := by
  unfold divI at *
  by_cases hs : hasZero b = true
  · rw [if_pos hs]
  · rw [if_neg hs] at h ⊢; exact four_iz (fun _ _ _ _ h => four_iz (fun _ _ _ _ h => absurd rfl h) h) h
theorem rawO_iz {o : Outc Iv} (h : o.k ≠ 0 → o.v = iz) : (rawO o).k ≠ 0 → (rawO o).v = rzI := fun hk => by
  show o.v.raw = rzI
  rw [h hk, iz_raw]

theorem new_at (w : World) (o : Obj) (n : Nat) (h : w.heap.size = n) : (w.alloc o).heap[n]? = some o := by subst h; exact heap_alloc_new _ _
theorem blkI_at (w : World) (n : Nat) (x y z x' y' z' : Value) (h : w.heap.size = n) : BlkI (w.alloc (.cells #[x, y, z, x', y', z'] 26)) n x y z x' y' z' := new_at w _ n h

/-- The boxes of an operation with two intervals, and the list of both. -/
theorem boxesA2 (w : World) (x0 x1 x2 x3 x4 x5 y0 y1 y2 y3 y4 y5 p : Value) : ∃ W, W = ((((w.alloc (.cells #[x0, x1, x2, x3, x4, x5] 26)).alloc (.cells #[y0, y1, y2, y3, y4, y5] 26)).alloc (.cells #[p] 3)).alloc (.cells #[.bool false, .slice none 0 0, .int .i64 0, .bool false, .slice none 0 0, .int .i64 0] 26)).alloc (.cells #[x0, x1, x2, x3, x4, x5, y0, y1, y2, y3, y4, y5] 26) ∧
    Kept w W ∧ BlkI W w.heap.size x0 x1 x2 x3 x4 x5 ∧ BlkI W (w.heap.size + 1) y0 y1 y2 y3 y4 y5 ∧ W.cell? ⟨w.heap.size + 1 + 1, 0, none⟩ = some p ∧ BlkI W (w.heap.size + 1 + 1 + 1) (.bool false) (.slice none 0 0) (.int .i64 0) (.bool false) (.slice none 0 0) (.int .i64 0) ∧
    W.heap[w.heap.size + 1 + 1 + 1 + 1]? = some (.cells #[x0, x1, x2, x3, x4, x5, y0, y1, y2, y3, y4, y5] 26 (0, 0)) := by
  refine ⟨_, rfl, ((((kept_alloc _ _).trans (kept_alloc _ _)).trans (kept_alloc _ _)).trans (kept_alloc _ _)).trans (kept_alloc _ _), ?_, ?_, ?_, ?_, new_at _ _ _ (by simp)⟩
  · exact ((((blkI_at w _ _ _ _ _ _ _ rfl).kept (kept_alloc _ _)).kept (kept_alloc _ _)).kept (kept_alloc _ _)).kept (kept_alloc _ _)
  · exact (((blkI_at _ _ _ _ _ _ _ _ (by simp)).kept (kept_alloc _ _)).kept (kept_alloc _ _)).kept (kept_alloc _ _)
  · exact cell_kept (kept_alloc _ _) (cell_kept (kept_alloc _ _) (cell_of_block (new_at _ _ _ (by simp)) 0 _ rfl))
  · exact (blkI_at _ _ _ _ _ _ _ _ (by simp)).kept (kept_alloc _ _)
/-- .. with one interval. -/
theorem boxesA1 (w : World) (x0 x1 x2 x3 x4 x5 p : Value) : ∃ W, W = (((w.alloc (.cells #[x0, x1, x2, x3, x4, x5] 26)).alloc (.cells #[p] 3)).alloc (.cells #[.bool false, .slice none 0 0, .int .i64 0, .bool false, .slice none 0 0, .int .i64 0] 26)).alloc (.cells #[x0, x1, x2, x3, x4, x5] 26) ∧
    Kept w W ∧ BlkI W w.heap.size x0 x1 x2 x3 x4 x5 ∧ W.cell? ⟨w.heap.size + 1, 0, none⟩ = some p ∧ BlkI W (w.heap.size + 1 + 1) (.bool false) (.slice none 0 0) (.int .i64 0) (.bool false) (.slice none 0 0) (.int .i64 0) ∧
    W.heap[w.heap.size + 1 + 1 + 1]? = some (.cells #[x0, x1, x2, x3, x4, x5] 26 (0, 0)) := by
  refine ⟨_, rfl, (((kept_alloc _ _).trans (kept_alloc _ _)).trans (kept_alloc _ _)).trans (kept_alloc _ _), ?_, ?_, ?_, new_at _ _ _ (by simp)⟩
  · exact (((blkI_at w _ _ _ _ _ _ _ rfl).kept (kept_alloc _ _)).kept (kept_alloc _ _)).kept (kept_alloc _ _)
  · exact cell_kept (kept_alloc _ _) (cell_kept (kept_alloc _ _) (cell_of_block (new_at _ _ _ (by simp)) 0 _ rfl))
  · exact (blkI_at _ _ _ _ _ _ _ _ (by simp)).kept (kept_alloc _ _)

theorem ivS1 {w : World} {b : Nat} {a : RawI} {T : TypeId} {x0 x1 x2 x3 x4 x5 : Value} (h : w.heap[b]? = some (.cells #[x0, x1, x2, x3, x4, x5] T (0, 0))) (h1 : IvR w (.agg #[x0, x1, x2, x3, x4, x5]) a) :
    IvS w (.slice (some ⟨b, 0, none⟩) 1 1) [a] := by
  refine ⟨_, _, rfl, Nat.le_refl _, fun _ => ⟨b, 0, rfl, fun i d hi => ?_⟩⟩
  rcases i with _ | i
  · simp at hi; subst hi
    exact ⟨_, _, _, _, _, _, cell_of_block h 0 _ rfl, cell_of_block h 1 _ rfl, cell_of_block h 2 _ rfl, cell_of_block h 3 _ rfl, cell_of_block h 4 _ rfl, cell_of_block h 5 _ rfl, h1⟩
  · simp at hi
theorem ivS2 {w : World} {b : Nat} {a a' : RawI} {T : TypeId} {x0 x1 x2 x3 x4 x5 y0 y1 y2 y3 y4 y5 : Value} (h : w.heap[b]? = some (.cells #[x0, x1, x2, x3, x4, x5, y0, y1, y2, y3, y4, y5] T (0, 0))) (h1 : IvR w (.agg #[x0, x1, x2, x3, x4, x5]) a) (h2 : IvR w (.agg #[y0, y1, y2, y3, y4, y5]) a') :
    IvS w (.slice (some ⟨b, 0, none⟩) 2 2) [a, a'] := by
  refine ⟨_, _, rfl, Nat.le_refl _, fun _ => ⟨b, 0, rfl, fun i d hi => ?_⟩⟩
  rcases i with _ | _ | i
  · simp at hi; subst hi
    exact ⟨_, _, _, _, _, _, cell_of_block h 0 _ rfl, cell_of_block h 1 _ rfl, cell_of_block h 2 _ rfl, cell_of_block h 3 _ rfl, cell_of_block h 4 _ rfl, cell_of_block h 5 _ rfl, h1⟩
  · simp at hi; subst hi
    exact ⟨_, _, _, _, _, _, cell_of_block h 6 _ rfl, cell_of_block h 7 _ rfl, cell_of_block h 8 _ rfl, cell_of_block h 9 _ rfl, cell_of_block h 10 _ rfl, cell_of_block h 11 _ rfl, h2⟩
  · simp at hi

theorem blkIv_of {w : World} {b : Nat} {a : RawI} {A A' : Option Addr} {l c l' c' : Nat} (hr : a.iv.raw = a) (h : BlkI w b (.bool a.lo.neg) (.slice A l c) (.int .i64 a.lo.e) (.bool a.hi.neg) (.slice A' l' c') (.int .i64 a.hi.e))
    (h1 : DyR w (.agg #[.bool a.lo.neg, .slice A l c, .int .i64 a.lo.e]) a.lo) (h2 : DyR w (.agg #[.bool a.hi.neg, .slice A' l' c', .int .i64 a.hi.e]) a.hi) : BlkIv w b a.iv := by
  have e1 : a.iv.lo.raw = a.lo := congrArg RawI.lo hr
  have e2 : a.iv.hi.raw = a.hi := congrArg RawI.hi hr
  exact ⟨A, l, c, A', l', c', h, by rw [e1]; exact h1, by rw [e2]; exact h2⟩
theorem DyR.small {w : World} {v : Value} {r : Raw} (h : DyR w v r) : Small r.m := by
  obtain ⟨s, _, hs, _⟩ := h
  exact hs.1




set_option maxHeartbeats 4000000 in
set_option maxRecDepth 100000 in
theorem Add_i {w : World} {v u : Value} {a b : RawI} {p : Int} (hv : IvR w v a) (hu : IvR w u b) (la : a.lens 17592186044416) (lb : b.lens 17592186044416) (hT : Tab w) :
    Calls Tryd.prog 25 #[v, u, .int .i64 p] w (RetIE (faceO p [a, b] (rawO (addI a.iv b.iv p.toNat))) w) := by
  have hmf : ∀ (fn : Fn) (first cap : Array Value) (w : World), (Instr.makeFunc fn first cap).run Tryd.prog w = .ok (.func fn first cap) w := fun _ _ _ _ => rfl
  obtain ⟨A, l, c, A', l', c', rfl, h1, h2⟩ := ivR_split hv
  obtain ⟨B, j, e, B', j', e', rfl, g1, g2⟩ := ivR_split hu
  obtain ⟨W, hW, kW, BA, BB, cp, BR, BL⟩ := boxesA2 w (.bool a.lo.neg) (.slice A l c) (.int .i64 a.lo.e) (.bool a.hi.neg) (.slice A' l' c') (.int .i64 a.hi.e) (.bool b.lo.neg) (.slice B j e) (.int .i64 b.lo.e) (.bool b.hi.neg) (.slice B' j' e') (.int .i64 b.hi.e) (.int .i64 p)
  have hf := face_cA (w := W) (K := 63) (cap := #[.pointer (some ⟨w.heap.size, 0, none⟩), .pointer (some ⟨w.heap.size + 1, 0, none⟩), .pointer (some ⟨w.heap.size + 1 + 1, 0, none⟩)]) (p := p) (l := [a, b]) (o := rawO (addI a.iv b.iv p.toNat))
    (ivS2 BL ⟨_, _, _, _, _, _, rfl, h1.kept kW, h2.kept kW⟩ ⟨_, _, _, _, _, _, rfl, g1.kept kW, g2.kept kW⟩)
    (by intro x hx; simp only [List.mem_cons, List.not_mem_nil, or_false] at hx; rcases hx with rfl | rfl; exact la; exact lb) (by simp)
    (fun p1 p2 hall w1 k => by
      simp only [List.all_cons, List.all_nil, Bool.and_true, Bool.and_eq_true] at hall
      obtain ⟨oa, ra⟩ := iv_clean h1.small h2.small hall.1
      obtain ⟨ob, rb⟩ := iv_clean g1.small g2.small hall.2
      have hp : ((p.toNat : Nat) : Int) = p := Int.toNat_of_nonneg (by omega)
      exact add1_c (p := p.toNat) oa ob (hT.kept (kW.trans k)) (by omega) (by omega) (blkIv_of ra (BA.kept k) (h1.kept (kW.trans k)) (h2.kept (kW.trans k))) (blkIv_of rb (BB.kept k) (g1.kept (kW.trans k)) (g2.kept (kW.trans k))) (by rw [hp]; exact cell_kept k cp))
    (rawO_iz addI_iz) (fun _ => rfl)
  generalize faceO p [a, b] (rawO (addI a.iv b.iv p.toNat)) = o at *
  have HF := Lib.hid hf
  have HW := Lib.hid hW
  have HK := Lib.hid kW
  have HR := Lib.hid BR
  clear hf hW kW BA BB BR BL cp h1 h2 g1 g2 hv hu la lb hT
  generalize a.lo.neg = n1 at *
  generalize a.lo.e = e1 at *
  generalize a.hi.neg = n2 at *
  generalize a.hi.e = e2 at *
  generalize b.lo.neg = n3 at *
  generalize b.lo.e = e3 at *
  generalize b.hi.neg = n4 at *
  generalize b.hi.e = e4 at *
  go_enter Tryd.func25, Tryd.ntmps25
  go_wp2_with (go_at_call 46; rw [← HW.out]; refine HF.out.mono ?_; rintro e w1 ⟨q, u, rfl, hd⟩; obtain ⟨A1, j1, k1', A2, j2, k2', rfl, z1, z2⟩ := ivR_split hd; have Z1 := Lib.hid z1; have Z2 := Lib.hid z2; have hb2 := HR.out.kept q; obtain ⟨hsz, c0, c1, c2, c3, c4, c5⟩ := hb2.facts; obtain ⟨f0, f1, f2, f3, f4, f5⟩ := hb2.free; have HRR := Lib.hid hb2; clear hd hb2 z1 z2)
  exact ret_iv2 (HRR.out.laid _ _ _ _ _ _) rfl rfl rfl ⟨ivW_kept (HK.out.trans q) (by omega), _, rfl, _, _, _, _, _, _, rfl, Z1.out.ivW HRR.out _ _ _ _ _ _, Z2.out.ivW HRR.out _ _ _ _ _ _⟩
set_option maxHeartbeats 4000000 in
set_option maxRecDepth 100000 in
theorem Sub_i {w : World} {v u : Value} {a b : RawI} {p : Int} (hv : IvR w v a) (hu : IvR w u b) (la : a.lens 17592186044416) (lb : b.lens 17592186044416) (hT : Tab w) :
    Calls Tryd.prog 28 #[v, u, .int .i64 p] w (RetIE (faceO p [a, b] (rawO (subI a.iv b.iv p.toNat))) w) := by
  have hmf : ∀ (fn : Fn) (first cap : Array Value) (w : World), (Instr.makeFunc fn first cap).run Tryd.prog w = .ok (.func fn first cap) w := fun _ _ _ _ => rfl
  obtain ⟨A, l, c, A', l', c', rfl, h1, h2⟩ := ivR_split hv
  obtain ⟨B, j, e, B', j', e', rfl, g1, g2⟩ := ivR_split hu
  obtain ⟨W, hW, kW, BA, BB, cp, BR, BL⟩ := boxesA2 w (.bool a.lo.neg) (.slice A l c) (.int .i64 a.lo.e) (.bool a.hi.neg) (.slice A' l' c') (.int .i64 a.hi.e) (.bool b.lo.neg) (.slice B j e) (.int .i64 b.lo.e) (.bool b.hi.neg) (.slice B' j' e') (.int .i64 b.hi.e) (.int .i64 p)
  have hf := face_cA (w := W) (K := 65) (cap := #[.pointer (some ⟨w.heap.size, 0, none⟩), .pointer (some ⟨w.heap.size + 1, 0, none⟩), .pointer (some ⟨w.heap.size + 1 + 1, 0, none⟩)]) (p := p) (l := [a, b]) (o := rawO (subI a.iv b.iv p.toNat))
    (ivS2 BL ⟨_, _, _, _, _, _, rfl, h1.kept kW, h2.kept kW⟩ ⟨_, _, _, _, _, _, rfl, g1.kept kW, g2.kept kW⟩)
    (by intro x hx; simp only [List.mem_cons, List.not_mem_nil, or_false] at hx; rcases hx with rfl | rfl; exact la; exact lb) (by simp)
    (fun p1 p2 hall w1 k => by
      simp only [List.all_cons, List.all_nil, Bool.and_true, Bool.and_eq_true] at hall
      obtain ⟨oa, ra⟩ := iv_clean h1.small h2.small hall.1
      obtain ⟨ob, rb⟩ := iv_clean g1.small g2.small hall.2
      have hp : ((p.toNat : Nat) : Int) = p := Int.toNat_of_nonneg (by omega)
      exact isub1_c (p := p.toNat) oa ob (hT.kept (kW.trans k)) (by omega) (by omega) (blkIv_of ra (BA.kept k) (h1.kept (kW.trans k)) (h2.kept (kW.trans k))) (blkIv_of rb (BB.kept k) (g1.kept (kW.trans k)) (g2.kept (kW.trans k))) (by rw [hp]; exact cell_kept k cp))
    (rawO_iz subI_iz) (fun _ => rfl)
  generalize faceO p [a, b] (rawO (subI a.iv b.iv p.toNat)) = o at *
  have HF := Lib.hid hf
  have HW := Lib.hid hW
  have HK := Lib.hid kW
  have HR := Lib.hid BR
  clear hf hW kW BA BB BR BL cp h1 h2 g1 g2 hv hu la lb hT
  generalize a.lo.neg = n1 at *
  generalize a.lo.e = e1 at *
  generalize a.hi.neg = n2 at *
  generalize a.hi.e = e2 at *
  generalize b.lo.neg = n3 at *
  generalize b.lo.e = e3 at *
  generalize b.hi.neg = n4 at *
  generalize b.hi.e = e4 at *
  go_enter Tryd.func28, Tryd.ntmps28
  go_wp2_with (go_at_call 46; rw [← HW.out]; refine HF.out.mono ?_; rintro e w1 ⟨q, u, rfl, hd⟩; obtain ⟨A1, j1, k1', A2, j2, k2', rfl, z1, z2⟩ := ivR_split hd; have Z1 := Lib.hid z1; have Z2 := Lib.hid z2; have hb2 := HR.out.kept q; obtain ⟨hsz, c0, c1, c2, c3, c4, c5⟩ := hb2.facts; obtain ⟨f0, f1, f2, f3, f4, f5⟩ := hb2.free; have HRR := Lib.hid hb2; clear hd hb2 z1 z2)
  exact ret_iv2 (HRR.out.laid _ _ _ _ _ _) rfl rfl rfl ⟨ivW_kept (HK.out.trans q) (by omega), _, rfl, _, _, _, _, _, _, rfl, Z1.out.ivW HRR.out _ _ _ _ _ _, Z2.out.ivW HRR.out _ _ _ _ _ _⟩
set_option maxHeartbeats 4000000 in
set_option maxRecDepth 100000 in
theorem Mul_i {w : World} {v u : Value} {a b : RawI} {p : Int} (hv : IvR w v a) (hu : IvR w u b) (la : a.lens 17592186044416) (lb : b.lens 17592186044416) (hT : Tab w) :
    Calls Tryd.prog 18 #[v, u, .int .i64 p] w (RetIE (faceO p [a, b] (rawO (mulI a.iv b.iv p.toNat))) w) := by
  have hmf : ∀ (fn : Fn) (first cap : Array Value) (w : World), (Instr.makeFunc fn first cap).run Tryd.prog w = .ok (.func fn first cap) w := fun _ _ _ _ => rfl
  obtain ⟨A, l, c, A', l', c', rfl, h1, h2⟩ := ivR_split hv
  obtain ⟨B, j, e, B', j', e', rfl, g1, g2⟩ := ivR_split hu
  obtain ⟨W, hW, kW, BA, BB, cp, BR, BL⟩ := boxesA2 w (.bool a.lo.neg) (.slice A l c) (.int .i64 a.lo.e) (.bool a.hi.neg) (.slice A' l' c') (.int .i64 a.hi.e) (.bool b.lo.neg) (.slice B j e) (.int .i64 b.lo.e) (.bool b.hi.neg) (.slice B' j' e') (.int .i64 b.hi.e) (.int .i64 p)
  have hf := face_cA (w := W) (K := 54) (cap := #[.pointer (some ⟨w.heap.size, 0, none⟩), .pointer (some ⟨w.heap.size + 1, 0, none⟩), .pointer (some ⟨w.heap.size + 1 + 1, 0, none⟩)]) (p := p) (l := [a, b]) (o := rawO (mulI a.iv b.iv p.toNat))
    (ivS2 BL ⟨_, _, _, _, _, _, rfl, h1.kept kW, h2.kept kW⟩ ⟨_, _, _, _, _, _, rfl, g1.kept kW, g2.kept kW⟩)
    (by intro x hx; simp only [List.mem_cons, List.not_mem_nil, or_false] at hx; rcases hx with rfl | rfl; exact la; exact lb) (by simp)
    (fun p1 p2 hall w1 k => by
      simp only [List.all_cons, List.all_nil, Bool.and_true, Bool.and_eq_true] at hall
      obtain ⟨oa, ra⟩ := iv_clean h1.small h2.small hall.1
      obtain ⟨ob, rb⟩ := iv_clean g1.small g2.small hall.2
      have hp : ((p.toNat : Nat) : Int) = p := Int.toNat_of_nonneg (by omega)
      exact amul1_c (p := p.toNat) oa ob (hT.kept (kW.trans k)) (by omega) (by omega) (blkIv_of ra (BA.kept k) (h1.kept (kW.trans k)) (h2.kept (kW.trans k))) (blkIv_of rb (BB.kept k) (g1.kept (kW.trans k)) (g2.kept (kW.trans k))) (by rw [hp]; exact cell_kept k cp))
    (rawO_iz mulI_iz) (fun _ => rfl)
  generalize faceO p [a, b] (rawO (mulI a.iv b.iv p.toNat)) = o at *
  have HF := Lib.hid hf
  have HW := Lib.hid hW
  have HK := Lib.hid kW
  have HR := Lib.hid BR
  clear hf hW kW BA BB BR BL cp h1 h2 g1 g2 hv hu la lb hT
  generalize a.lo.neg = n1 at *
  generalize a.lo.e = e1 at *
  generalize a.hi.neg = n2 at *
  generalize a.hi.e = e2 at *
  generalize b.lo.neg = n3 at *
  generalize b.lo.e = e3 at *
  generalize b.hi.neg = n4 at *
  generalize b.hi.e = e4 at *
  go_enter Tryd.func18, Tryd.ntmps18
  go_wp2_with (go_at_call 46; rw [← HW.out]; refine HF.out.mono ?_; rintro e w1 ⟨q, u, rfl, hd⟩; obtain ⟨A1, j1, k1', A2, j2, k2', rfl, z1, z2⟩ := ivR_split hd; have Z1 := Lib.hid z1; have Z2 := Lib.hid z2; have hb2 := HR.out.kept q; obtain ⟨hsz, c0, c1, c2, c3, c4, c5⟩ := hb2.facts; obtain ⟨f0, f1, f2, f3, f4, f5⟩ := hb2.free; have HRR := Lib.hid hb2; clear hd hb2 z1 z2)
  exact ret_iv2 (HRR.out.laid _ _ _ _ _ _) rfl rfl rfl ⟨ivW_kept (HK.out.trans q) (by omega), _, rfl, _, _, _, _, _, _, rfl, Z1.out.ivW HRR.out _ _ _ _ _ _, Z2.out.ivW HRR.out _ _ _ _ _ _⟩
set_option maxHeartbeats 4000000 in
set_option maxRecDepth 100000 in
theorem Div_i {w : World} {v u : Value} {a b : RawI} {p : Int} (hv : IvR w v a) (hu : IvR w u b) (la : a.lens 17592186044416) (lb : b.lens 17592186044416) (hT : Tab w) :
    Calls Tryd.prog 17 #[v, u, .int .i64 p] w (RetIE (faceO p [a, b] (rawO (divI a.iv b.iv p.toNat))) w) := by
  have hmf : ∀ (fn : Fn) (first cap : Array Value) (w : World), (Instr.makeFunc fn first cap).run Tryd.prog w = .ok (.func fn first cap) w := fun _ _ _ _ => rfl
  obtain ⟨A, l, c, A', l', c', rfl, h1, h2⟩ := ivR_split hv
  obtain ⟨B, j, e, B', j', e', rfl, g1, g2⟩ := ivR_split hu
  obtain ⟨W, hW, kW, BA, BB, cp, BR, BL⟩ := boxesA2 w (.bool a.lo.neg) (.slice A l c) (.int .i64 a.lo.e) (.bool a.hi.neg) (.slice A' l' c') (.int .i64 a.hi.e) (.bool b.lo.neg) (.slice B j e) (.int .i64 b.lo.e) (.bool b.hi.neg) (.slice B' j' e') (.int .i64 b.hi.e) (.int .i64 p)
  have hf := face_cA (w := W) (K := 47) (cap := #[.pointer (some ⟨w.heap.size + 1, 0, none⟩), .pointer (some ⟨w.heap.size, 0, none⟩), .pointer (some ⟨w.heap.size + 1 + 1, 0, none⟩)]) (p := p) (l := [a, b]) (o := rawO (divI a.iv b.iv p.toNat))
    (ivS2 BL ⟨_, _, _, _, _, _, rfl, h1.kept kW, h2.kept kW⟩ ⟨_, _, _, _, _, _, rfl, g1.kept kW, g2.kept kW⟩)
    (by intro x hx; simp only [List.mem_cons, List.not_mem_nil, or_false] at hx; rcases hx with rfl | rfl; exact la; exact lb) (by simp)
    (fun p1 p2 hall w1 k => by
      simp only [List.all_cons, List.all_nil, Bool.and_true, Bool.and_eq_true] at hall
      obtain ⟨oa, ra⟩ := iv_clean h1.small h2.small hall.1
      obtain ⟨ob, rb⟩ := iv_clean g1.small g2.small hall.2
      have hp : ((p.toNat : Nat) : Int) = p := Int.toNat_of_nonneg (by omega)
      exact adiv1_c (p := p.toNat) oa ob (hT.kept (kW.trans k)) (by omega) (by omega) (blkIv_of ra (BA.kept k) (h1.kept (kW.trans k)) (h2.kept (kW.trans k))) (blkIv_of rb (BB.kept k) (g1.kept (kW.trans k)) (g2.kept (kW.trans k))) (by rw [hp]; exact cell_kept k cp))
    (rawO_iz divI_iz) (fun _ => rfl)
  generalize faceO p [a, b] (rawO (divI a.iv b.iv p.toNat)) = o at *
  have HF := Lib.hid hf
  have HW := Lib.hid hW
  have HK := Lib.hid kW
  have HR := Lib.hid BR
  clear hf hW kW BA BB BR BL cp h1 h2 g1 g2 hv hu la lb hT
  generalize a.lo.neg = n1 at *
  generalize a.lo.e = e1 at *
  generalize a.hi.neg = n2 at *
  generalize a.hi.e = e2 at *
  generalize b.lo.neg = n3 at *
  generalize b.lo.e = e3 at *
  generalize b.hi.neg = n4 at *
  generalize b.hi.e = e4 at *
  go_enter Tryd.func17, Tryd.ntmps17
  go_wp2_with (go_at_call 46; rw [← HW.out]; refine HF.out.mono ?_; rintro e w1 ⟨q, u, rfl, hd⟩; obtain ⟨A1, j1, k1', A2, j2, k2', rfl, z1, z2⟩ := ivR_split hd; have Z1 := Lib.hid z1; have Z2 := Lib.hid z2; have hb2 := HR.out.kept q; obtain ⟨hsz, c0, c1, c2, c3, c4, c5⟩ := hb2.facts; obtain ⟨f0, f1, f2, f3, f4, f5⟩ := hb2.free; have HRR := Lib.hid hb2; clear hd hb2 z1 z2)
  exact ret_iv2 (HRR.out.laid _ _ _ _ _ _) rfl rfl rfl ⟨ivW_kept (HK.out.trans q) (by omega), _, rfl, _, _, _, _, _, _, rfl, Z1.out.ivW HRR.out _ _ _ _ _ _, Z2.out.ivW HRR.out _ _ _ _ _ _⟩
set_option maxHeartbeats 4000000 in
set_option maxRecDepth 100000 in
theorem Neg_i {w : World} {v : Value} {a : RawI} {p : Int} (hv : IvR w v a) (la : a.lens 17592186044416) (hT : Tab w) :
    Calls Tryd.prog 31 #[v, .int .i64 p] w (RetIE (faceO p [a] (rawO (negI a.iv p.toNat))) w) := by
  have hmf : ∀ (fn : Fn) (first cap : Array Value) (w : World), (Instr.makeFunc fn first cap).run Tryd.prog w = .ok (.func fn first cap) w := fun _ _ _ _ => rfl
  obtain ⟨A, l, c, A', l', c', rfl, h1, h2⟩ := ivR_split hv
  obtain ⟨W, hW, kW, BA, cp, BR, BL⟩ := boxesA1 w (.bool a.lo.neg) (.slice A l c) (.int .i64 a.lo.e) (.bool a.hi.neg) (.slice A' l' c') (.int .i64 a.hi.e) (.int .i64 p)
  have hf := face_cA (w := W) (K := 67) (cap := #[.pointer (some ⟨w.heap.size, 0, none⟩), .pointer (some ⟨w.heap.size + 1, 0, none⟩)]) (p := p) (l := [a]) (o := rawO (negI a.iv p.toNat))
    (ivS1 BL ⟨_, _, _, _, _, _, rfl, h1.kept kW, h2.kept kW⟩)
    (by intro x hx; simp only [List.mem_cons, List.not_mem_nil, or_false] at hx; subst hx; exact la) (by simp)
    (fun p1 p2 hall w1 k => by
      simp only [List.all_cons, List.all_nil, Bool.and_true] at hall
      obtain ⟨oa, ra⟩ := iv_clean h1.small h2.small hall
      have hp : ((p.toNat : Nat) : Int) = p := Int.toNat_of_nonneg (by omega)
      exact neg1_c (p := p.toNat) oa (hT.kept (kW.trans k)) (by omega) (by omega) (blkIv_of ra (BA.kept k) (h1.kept (kW.trans k)) (h2.kept (kW.trans k))) (by rw [hp]; exact cell_kept k cp))
    (rawO_iz negI_iz) (fun _ => rfl)
  generalize faceO p [a] (rawO (negI a.iv p.toNat)) = o at *
  have HF := Lib.hid hf
  have HW := Lib.hid hW
  have HK := Lib.hid kW
  have HR := Lib.hid BR
  clear hf hW kW BA BR BL cp h1 h2 hv la hT
  generalize a.lo.neg = n1 at *
  generalize a.lo.e = e1 at *
  generalize a.hi.neg = n2 at *
  generalize a.hi.e = e2 at *
  go_enter Tryd.func31, Tryd.ntmps31
  go_wp2_with (go_at_call 46; rw [← HW.out]; refine HF.out.mono ?_; rintro e w1 ⟨q, u, rfl, hd⟩; obtain ⟨A1, j1, k1', A2, j2, k2', rfl, z1, z2⟩ := ivR_split hd; have Z1 := Lib.hid z1; have Z2 := Lib.hid z2; have hb2 := HR.out.kept q; obtain ⟨hsz, c0, c1, c2, c3, c4, c5⟩ := hb2.facts; obtain ⟨f0, f1, f2, f3, f4, f5⟩ := hb2.free; have HRR := Lib.hid hb2; clear hd hb2 z1 z2)
  exact ret_iv2 (HRR.out.laid _ _ _ _ _ _) rfl rfl rfl ⟨ivW_kept (HK.out.trans q) (by omega), _, rfl, _, _, _, _, _, _, rfl, Z1.out.ivW HRR.out _ _ _ _ _ _, Z2.out.ivW HRR.out _ _ _ _ _ _⟩
set_option maxHeartbeats 4000000 in
set_option maxRecDepth 100000 in
theorem Sqr_i {w : World} {v : Value} {a : RawI} {p : Int} (hv : IvR w v a) (la : a.lens 17592186044416) (hT : Tab w) :
    Calls Tryd.prog 23 #[v, .int .i64 p] w (RetIE (faceO p [a] (rawO (sqrI a.iv p.toNat))) w) := by
  have hmf : ∀ (fn : Fn) (first cap : Array Value) (w : World), (Instr.makeFunc fn first cap).run Tryd.prog w = .ok (.func fn first cap) w := fun _ _ _ _ => rfl
  obtain ⟨A, l, c, A', l', c', rfl, h1, h2⟩ := ivR_split hv
  obtain ⟨W, hW, kW, BA, cp, BR, BL⟩ := boxesA1 w (.bool a.lo.neg) (.slice A l c) (.int .i64 a.lo.e) (.bool a.hi.neg) (.slice A' l' c') (.int .i64 a.hi.e) (.int .i64 p)
  have hf := face_cA (w := W) (K := 61) (cap := #[.pointer (some ⟨w.heap.size, 0, none⟩), .pointer (some ⟨w.heap.size + 1, 0, none⟩)]) (p := p) (l := [a]) (o := rawO (sqrI a.iv p.toNat))
    (ivS1 BL ⟨_, _, _, _, _, _, rfl, h1.kept kW, h2.kept kW⟩)
    (by intro x hx; simp only [List.mem_cons, List.not_mem_nil, or_false] at hx; subst hx; exact la) (by simp)
    (fun p1 p2 hall w1 k => by
      simp only [List.all_cons, List.all_nil, Bool.and_true] at hall
      obtain ⟨oa, ra⟩ := iv_clean h1.small h2.small hall
      have hp : ((p.toNat : Nat) : Int) = p := Int.toNat_of_nonneg (by omega)
      exact sqr1_c (p := p.toNat) oa (hT.kept (kW.trans k)) (by omega) (by omega) (blkIv_of ra (BA.kept k) (h1.kept (kW.trans k)) (h2.kept (kW.trans k))) (by rw [hp]; exact cell_kept k cp))
    (rawO_iz sqrI_iz) (fun _ => rfl)
  generalize faceO p [a] (rawO (sqrI a.iv p.toNat)) = o at *
  have HF := Lib.hid hf
  have HW := Lib.hid hW
  have HK := Lib.hid kW
  have HR := Lib.hid BR
  clear hf hW kW BA BR BL cp h1 h2 hv la hT
  generalize a.lo.neg = n1 at *
  generalize a.lo.e = e1 at *
  generalize a.hi.neg = n2 at *
  generalize a.hi.e = e2 at *
  go_enter Tryd.func23, Tryd.ntmps23
  go_wp2_with (go_at_call 46; rw [← HW.out]; refine HF.out.mono ?_; rintro e w1 ⟨q, u, rfl, hd⟩; obtain ⟨A1, j1, k1', A2, j2, k2', rfl, z1, z2⟩ := ivR_split hd; have Z1 := Lib.hid z1; have Z2 := Lib.hid z2; have hb2 := HR.out.kept q; obtain ⟨hsz, c0, c1, c2, c3, c4, c5⟩ := hb2.facts; obtain ⟨f0, f1, f2, f3, f4, f5⟩ := hb2.free; have HRR := Lib.hid hb2; clear hd hb2 z1 z2)
  exact ret_iv2 (HRR.out.laid _ _ _ _ _ _) rfl rfl rfl ⟨ivW_kept (HK.out.trans q) (by omega), _, rfl, _, _, _, _, _, _, rfl, Z1.out.ivW HRR.out _ _ _ _ _ _, Z2.out.ivW HRR.out _ _ _ _ _ _⟩
set_option maxHeartbeats 4000000 in
set_option maxRecDepth 100000 in
theorem Sqrt_i {w : World} {v : Value} {a : RawI} {p : Int} (hv : IvR w v a) (la : a.lens 17592186044416) (hT : Tab w) :
    Calls Tryd.prog 21 #[v, .int .i64 p] w (RetIE (faceO p [a] (rawO (sqrtI a.iv p.toNat))) w) := by
  have hmf : ∀ (fn : Fn) (first cap : Array Value) (w : World), (Instr.makeFunc fn first cap).run Tryd.prog w = .ok (.func fn first cap) w := fun _ _ _ _ => rfl
  obtain ⟨A, l, c, A', l', c', rfl, h1, h2⟩ := ivR_split hv
  obtain ⟨W, hW, kW, BA, cp, BR, BL⟩ := boxesA1 w (.bool a.lo.neg) (.slice A l c) (.int .i64 a.lo.e) (.bool a.hi.neg) (.slice A' l' c') (.int .i64 a.hi.e) (.int .i64 p)
  have hf := face_cA (w := W) (K := 59) (cap := #[.pointer (some ⟨w.heap.size, 0, none⟩), .pointer (some ⟨w.heap.size + 1, 0, none⟩)]) (p := p) (l := [a]) (o := rawO (sqrtI a.iv p.toNat))
    (ivS1 BL ⟨_, _, _, _, _, _, rfl, h1.kept kW, h2.kept kW⟩)
    (by intro x hx; simp only [List.mem_cons, List.not_mem_nil, or_false] at hx; subst hx; exact la) (by simp)
    (fun p1 p2 hall w1 k => by
      simp only [List.all_cons, List.all_nil, Bool.and_true] at hall
      obtain ⟨oa, ra⟩ := iv_clean h1.small h2.small hall
      have hp : ((p.toNat : Nat) : Int) = p := Int.toNat_of_nonneg (by omega)
      exact sqrt1_c (p := p.toNat) oa (hT.kept (kW.trans k)) (by omega) (by omega) (blkIv_of ra (BA.kept k) (h1.kept (kW.trans k)) (h2.kept (kW.trans k))) (by rw [hp]; exact cell_kept k cp))
    (rawO_iz sqrtI_iz) (fun _ => rfl)
  generalize faceO p [a] (rawO (sqrtI a.iv p.toNat)) = o at *
  have HF := Lib.hid hf
  have HW := Lib.hid hW
  have HK := Lib.hid kW
  have HR := Lib.hid BR
  clear hf hW kW BA BR BL cp h1 h2 hv la hT
  generalize a.lo.neg = n1 at *
  generalize a.lo.e = e1 at *
  generalize a.hi.neg = n2 at *
  generalize a.hi.e = e2 at *
  go_enter Tryd.func21, Tryd.ntmps21
  go_wp2_with (go_at_call 46; rw [← HW.out]; refine HF.out.mono ?_; rintro e w1 ⟨q, u, rfl, hd⟩; obtain ⟨A1, j1, k1', A2, j2, k2', rfl, z1, z2⟩ := ivR_split hd; have Z1 := Lib.hid z1; have Z2 := Lib.hid z2; have hb2 := HR.out.kept q; obtain ⟨hsz, c0, c1, c2, c3, c4, c5⟩ := hb2.facts; obtain ⟨f0, f1, f2, f3, f4, f5⟩ := hb2.free; have HRR := Lib.hid hb2; clear hd hb2 z1 z2)
  exact ret_iv2 (HRR.out.laid _ _ _ _ _ _) rfl rfl rfl ⟨ivW_kept (HK.out.trans q) (by omega), _, rfl, _, _, _, _, _, _, rfl, Z1.out.ivW HRR.out _ _ _ _ _ _, Z2.out.ivW HRR.out _ _ _ _ _ _⟩

end Go.Proofs.YtjdplcenniogdaaDoor
namespace Go.Proofs.YtjdplcenniogdaaDoor
open Go.RowKit

theorem faceO_ok {p : Int} {l : List RawI} {o : Outc RawI} (p1 : 1 ≤ p) (p2 : p ≤ 2000) (h : l.all mayI = true) : faceO p l o = o := by unfold faceO; rw [if_pos ⟨p1, p2, h⟩]

theorem Add_k {w : World} {v u : Value} {a b : Iv} {p : Nat} (hv : IvC w v a) (hu : IvC w u b) (ha : a.Ok) (hb : b.Ok) (hT : Tab w) (p1 : 1 ≤ p) (p2 : p ≤ 2000) :
    Calls Tryd.prog 25 #[v, u, .int .i64 p] w (RetIE (rawO (addI a b p)) w) := by
  have h := Add_i (p := (p : Int)) hv hu (iv_lens ha) (iv_lens hb) hT
  rw [faceO_ok (by omega) (by omega) (by simp [mayI_raw ha, mayI_raw hb]), Iv.raw_iv, Iv.raw_iv, Int.toNat_natCast] at h
  exact h
theorem Sub_k {w : World} {v u : Value} {a b : Iv} {p : Nat} (hv : IvC w v a) (hu : IvC w u b) (ha : a.Ok) (hb : b.Ok) (hT : Tab w) (p1 : 1 ≤ p) (p2 : p ≤ 2000) :
    Calls Tryd.prog 28 #[v, u, .int .i64 p] w (RetIE (rawO (subI a b p)) w) := by
  have h := Sub_i (p := (p : Int)) hv hu (iv_lens ha) (iv_lens hb) hT
  rw [faceO_ok (by omega) (by omega) (by simp [mayI_raw ha, mayI_raw hb]), Iv.raw_iv, Iv.raw_iv, Int.toNat_natCast] at h
  exact h
theorem Mul_k {w : World} {v u : Value} {a b : Iv} {p : Nat} (hv : IvC w v a) (hu : IvC w u b) (ha : a.Ok) (hb : b.Ok) (hT : Tab w) (p1 : 1 ≤ p) (p2 : p ≤ 2000) :
    Calls Tryd.prog 18 #[v, u, .int .i64 p] w (RetIE (rawO (mulI a b p)) w) := by
  have h := Mul_i (p := (p : Int)) hv hu (iv_lens ha) (iv_lens hb) hT
  rw [faceO_ok (by omega) (by omega) (by simp [mayI_raw ha, mayI_raw hb]), Iv.raw_iv, Iv.raw_iv, Int.toNat_natCast] at h
  exact h
theorem Div_k {w : World} {v u : Value} {a b : Iv} {p : Nat} (hv : IvC w v a) (hu : IvC w u b) (ha : a.Ok) (hb : b.Ok) (hT : Tab w) (p1 : 1 ≤ p) (p2 : p ≤ 2000) :
    Calls Tryd.prog 17 #[v, u, .int .i64 p] w (RetIE (rawO (divI a b p)) w) := by
  have h := Div_i (p := (p : Int)) hv hu (iv_lens ha) (iv_lens hb) hT
  rw [faceO_ok (by omega) (by omega) (by simp [mayI_raw ha, mayI_raw hb]), Iv.raw_iv, Iv.raw_iv, Int.toNat_natCast] at h
  exact h
theorem Neg_k {w : World} {v : Value} {a : Iv} {p : Nat} (hv : IvC w v a) (ha : a.Ok) (hT : Tab w) (p1 : 1 ≤ p) (p2 : p ≤ 2000) :
    Calls Tryd.prog 31 #[v, .int .i64 p] w (RetIE (rawO (negI a p)) w) := by
  have h := Neg_i (p := (p : Int)) hv (iv_lens ha) hT
  rw [faceO_ok (by omega) (by omega) (by simp [mayI_raw ha]), Iv.raw_iv, Int.toNat_natCast] at h
  exact h
theorem Sqr_k {w : World} {v : Value} {a : Iv} {p : Nat} (hv : IvC w v a) (ha : a.Ok) (hT : Tab w) (p1 : 1 ≤ p) (p2 : p ≤ 2000) :
    Calls Tryd.prog 23 #[v, .int .i64 p] w (RetIE (rawO (sqrI a p)) w) := by
  have h := Sqr_i (p := (p : Int)) hv (iv_lens ha) hT
  rw [faceO_ok (by omega) (by omega) (by simp [mayI_raw ha]), Iv.raw_iv, Int.toNat_natCast] at h
  exact h
theorem Sqrt_k {w : World} {v : Value} {a : Iv} {p : Nat} (hv : IvC w v a) (ha : a.Ok) (hT : Tab w) (p1 : 1 ≤ p) (p2 : p ≤ 2000) :
    Calls Tryd.prog 21 #[v, .int .i64 p] w (RetIE (rawO (sqrtI a p)) w) := by
  have h := Sqrt_i (p := (p : Int)) hv (iv_lens ha) hT
  rw [faceO_ok (by omega) (by omega) (by simp [mayI_raw ha]), Iv.raw_iv, Int.toNat_natCast] at h
  exact h

theorem dy_lit {w : World} {v : Value} {n : Bool} {m : List Nat} {e : Int} (h : DyR w v ⟨n, m, e⟩) : ∃ A l c, v = .agg #[.bool n, .slice A l c, .int .i64 e] ∧ DyR w (.agg #[.bool n, .slice A l c, .int .i64 e]) ⟨n, m, e⟩ := rawR_split h
theorem iv_lit {w : World} {v : Value} {n : Bool} {m : List Nat} {e : Int} {n' : Bool} {m' : List Nat} {e' : Int} (h : IvR w v ⟨⟨n, m, e⟩, ⟨n', m', e'⟩⟩) : ∃ A l c A' l' c', v = .agg #[.bool n, .slice A l c, .int .i64 e, .bool n', .slice A' l' c', .int .i64 e'] ∧
    DyR w (.agg #[.bool n, .slice A l c, .int .i64 e]) ⟨n, m, e⟩ ∧ DyR w (.agg #[.bool n', .slice A' l' c', .int .i64 e']) ⟨n', m', e'⟩ := ivR_split h

/- The few numbers. -/
theorem limbs1 : limbs 1 = [1] := by rw [limbs_pos 1 (by decide)]; simp [limbs_zero]
def dm : Dy := ⟨true, 1, 0⟩
def dt : Dy := ⟨false, 1, 1⟩
def d1 : Dy := ⟨false, 1, 0⟩
def d4 : Dy := ⟨false, 1, 2⟩
theorem one_ok (n : Bool) (e : Int) (h1 : -1048576 ≤ e) (h2 : e ≤ 1048576) : (Dy.mk n 1 e).Ok := ⟨by simp [limbs1], fun h => absurd h (by simp), fun _ => rfl, h1, h2⟩
theorem dm_ok : dm.Ok := one_ok _ _ (by decide) (by decide)
theorem dt_ok : dt.Ok := one_ok _ _ (by decide) (by decide)
theorem d1_ok : d1.Ok := one_ok _ _ (by decide) (by decide)
theorem d4_ok : d4.Ok := one_ok _ _ (by decide) (by decide)
theorem fit_m : fitD true 1 0 = ⟨dm, 0⟩ := fitD_self dm_ok
theorem fit_1 : fitD false 1 0 = ⟨d1, 0⟩ := fitD_self d1_ok
theorem fit_4 : fitD false 1 2 = ⟨d4, 0⟩ := fitD_self d4_ok
theorem fit_t : fitD false 2 0 = ⟨dt, 0⟩ := by
  have ht : tz 2 = 1 := tz_unique 2 1 1 rfl rfl
  unfold fitD
  rw [ht]
  rw [if_neg (by decide), if_neg (by simp [limbs1]), if_neg (by decide), if_neg (by decide)]
  rfl
theorem dm_raw : dm.raw = ⟨true, [1], 0⟩ := by unfold Dy.raw dm; simp only [limbs1]
theorem dt_raw : dt.raw = ⟨false, [1], 1⟩ := by unfold Dy.raw dt; simp only [limbs1]
theorem d1_raw : d1.raw = ⟨false, [1], 0⟩ := by unfold Dy.raw d1; simp only [limbs1]
theorem d4_raw : d4.raw = ⟨false, [1], 2⟩ := by unfold Dy.raw d4; simp only [limbs1]
theorem dm_sg : sg dm = -1 := rfl
theorem dt_sg : sg dt = 1 := rfl
theorem dm_lt : dm.q < 0 := (sg_neg dm_sg).1
theorem dt_gt : 0 < dt.q := (sg_pos dt_sg).1
def mt : Iv := ⟨dm, dt⟩
theorem mt_ok : mt.Ok := ⟨dm_ok, dt_ok, by show dm.q ≤ dt.q; have := dm_lt; have := dt_gt; grind⟩
theorem mt_zero : hasZero mt = true := (hasZero_iff _).2 ⟨by show dm.q ≤ 0; have := dm_lt; grind, by show 0 ≤ dt.q; have := dt_gt; grind⟩
theorem bl_one : bl 1 = 1 := rfl
theorem sqr_mt : sqrI mt 20 = ⟨⟨dz, d4⟩, 0⟩ := by
  have m1 : mulD mt.lo mt.lo = ⟨d1, 0⟩ := fit_1
  have m2 : mulD mt.hi mt.hi = ⟨d4, 0⟩ := fit_4
  unfold sqrI
  rw [m1, m2, mt_zero]
  have hg : greatestD d1 [d1, d4] = d4 := by
    have q1 : d1.q = 1 := by unfold Dy.q d1 sq; rw [pw_zero]; simp
    have q4 : d4.q = 4 := by unfold Dy.q d4 sq; rw [show (2 : Int) = 1 + 1 from rfl, pw_add, pw_one]; simp; grind
    have c1 : ¬ 0 < cmpQ d1.q d1.q := by rw [cmpQ_self]; decide
    have c4 : 0 < cmpQ d4.q d1.q := cmpQ_gt.2 (by rw [q1, q4]; decide)
    unfold greatestD greatestD greatestD
    rw [if_neg c1, if_pos c4]
  show ends (dirD dz 20 false) (dirD (greatestD d1 [d1, d4]) 20 true) = _
  rw [hg, dirD_exact dz_ok (by show bl 0 ≤ 20; decide), dirD_exact d4_ok (by show bl 1 ≤ 20; decide)]
  rfl
theorem sum_mt : sumD dm dt = ⟨d1, 0⟩ := by
  rw [← fit_1]
  rfl
theorem add_mt : addI ⟨dm, dm⟩ ⟨dt, dt⟩ 20 = ⟨⟨d1, d1⟩, 0⟩ := by
  unfold addI
  simp only [sum_mt]
  rw [rndD_exact rfl d1_ok (by show bl 1 ≤ 20; decide), rndD_exact rfl d1_ok (by show bl 1 ≤ 20; decide)]
  rfl
theorem div_mt : divI ⟨dt, dt⟩ mt 20 = ⟨iz, 4⟩ := by unfold divI; rw [if_pos mt_zero]
theorem sqrt_mt : sqrtI ⟨dm, dm⟩ 20 = ⟨iz, 4⟩ := by unfold sqrtI; rw [if_pos (by show sg dm < 0; decide)]

def Rm : Raw := ⟨true, [1], 0⟩
def Rt : Raw := ⟨false, [1], 1⟩
def R1 : Raw := ⟨false, [1], 0⟩
def R4 : Raw := ⟨false, [1], 2⟩

theorem t_of1 {w : World} (hT : Tab w) : Calls Tryd.prog 41 #[.int .i64 (-1), .int .i64 0] w (RetE ⟨⟨true, [1], 0⟩, 0⟩ w) := by
  have h := Of_neg (w := w) (k := 1) (e := 0) (by decide) (by decide) (by decide) (by decide) hT
  rw [fit_m] at h
  unfold Outc.raw at h
  rw [dm_raw] at h
  exact h
theorem t_of2 {w : World} (hT : Tab w) : Calls Tryd.prog 41 #[.int .i64 2, .int .i64 0] w (RetE ⟨⟨false, [1], 1⟩, 0⟩ w) := by
  have h := Of_pos (w := w) (k := 2) (e := 0) (by decide) (by decide) (by decide) hT
  rw [fit_t] at h
  unfold Outc.raw at h
  rw [dt_raw] at h
  exact h
theorem mt_raw : mt.raw = ⟨⟨true, [1], 0⟩, ⟨false, [1], 1⟩⟩ := by unfold Iv.raw mt; simp only [dm_raw, dt_raw]
theorem t_sqr {w : World} {v : Value} (hv : IvR w v ⟨⟨true, [1], 0⟩, ⟨false, [1], 1⟩⟩) (hT : Tab w) : Calls Tryd.prog 23 #[v, .int .i64 20] w (RetIE ⟨⟨⟨false, [], 0⟩, ⟨false, [1], 2⟩⟩, 0⟩ w) := by
  rw [← mt_raw] at hv
  have h := Sqr_k (p := 20) hv mt_ok hT (by decide) (by decide)
  rw [sqr_mt] at h
  unfold rawO Iv.raw at h
  simp only [dz_raw, d4_raw] at h
  exact h
theorem t_add {w : World} {v u : Value} (hv : IvR w v ⟨⟨true, [1], 0⟩, ⟨true, [1], 0⟩⟩) (hu : IvR w u ⟨⟨false, [1], 1⟩, ⟨false, [1], 1⟩⟩) (hT : Tab w) :
    Calls Tryd.prog 25 #[v, u, .int .i64 20] w (RetIE ⟨⟨⟨false, [1], 0⟩, ⟨false, [1], 0⟩⟩, 0⟩ w) := by
  have h := Add_k (p := 20) (a := pt dm) (b := pt dt) (by unfold IvC Iv.raw pt; simp only [dm_raw]; exact hv) (by unfold IvC Iv.raw pt; simp only [dt_raw]; exact hu) (pt_ok dm_ok) (pt_ok dt_ok) hT (by decide) (by decide)
  unfold pt at h
  rw [add_mt] at h
  unfold rawO Iv.raw at h
  simp only [d1_raw] at h
  exact h
theorem t_div {w : World} {v u : Value} (hv : IvR w v ⟨⟨false, [1], 1⟩, ⟨false, [1], 1⟩⟩) (hu : IvR w u ⟨⟨true, [1], 0⟩, ⟨false, [1], 1⟩⟩) (hT : Tab w) :
    Calls Tryd.prog 17 #[v, u, .int .i64 20] w (RetIE ⟨⟨⟨false, [], 0⟩, ⟨false, [], 0⟩⟩, 4⟩ w) := by
  rw [← mt_raw] at hu
  have h := Div_k (p := 20) (a := pt dt) (b := mt) (by unfold IvC Iv.raw pt; simp only [dt_raw]; exact hv) hu (pt_ok dt_ok) mt_ok hT (by decide) (by decide)
  unfold pt at h
  rw [div_mt] at h
  unfold rawO at h
  rw [iz_raw] at h
  exact h
theorem t_sqrt {w : World} {v : Value} (hv : IvR w v ⟨⟨true, [1], 0⟩, ⟨true, [1], 0⟩⟩) (hT : Tab w) : Calls Tryd.prog 21 #[v, .int .i64 20] w (RetIE ⟨⟨⟨false, [], 0⟩, ⟨false, [], 0⟩⟩, 4⟩ w) := by
  have h := Sqrt_k (p := 20) (a := pt dm) (by unfold IvC Iv.raw pt; simp only [dm_raw]; exact hv) (pt_ok dm_ok) hT (by decide) (by decide)
  unfold pt at h
  rw [sqrt_mt] at h
  unfold rawO at h
  rw [iz_raw] at h
  exact h
theorem t_sign {w : World} {v : Value} (hv : DyR w v ⟨false, [], 0⟩) : Calls Tryd.prog 22 #[v] w (RetK (.int .i64 0) w) := by
  have h := dsign_c hv (by simp)
  have e : sgnR ⟨false, [], 0⟩ = 0 := by unfold sgnR; rw [if_pos (.inr rfl)]
  rwa [e] at h
theorem t_cmp {w : World} {v u : Value} (hv : DyR w v ⟨false, [1], 0⟩) (hu : DyR w u ⟨false, [1], 0⟩) : Calls Tryd.prog 45 #[v, u] w (RetK (.int .i64 0) w) := by
  rw [← d1_raw] at hv hu
  have h := dcmp_c hv hu d1_ok d1_ok
  rwa [cmpQ_self] at h
theorem t_same {w : World} {v u : Value} (hv : DyR w v ⟨false, [1], 0⟩) (hu : DyR w u ⟨false, [1], 0⟩) : Calls Tryd.prog 12 #[v, u] w (RetK (.bool true) w) := by
  have h := dsame_c hv hu (by simp)
  exact h

/-- A new list of one limb. -/
theorem lim_new1 {w : World} {b : Nat} {T : TypeId} (h : w.heap[b]? = some (.cells #[.int .u64 1] T (0, 0))) : Lim w (.slice (some ⟨b, 0, none⟩) 1 1) [1] := by
  refine ⟨fun n hn => by simp at hn; omega, _, _, rfl, Nat.le_refl _, fun _ => ⟨b, 0, rfl, (Array.getElem?_eq_some_iff.1 h).1, fun i hi => ?_⟩⟩
  have : i = 0 := by simpa using hi
  subst this
  exact cell_of_block h 0 _ rfl

def fewR (r : Raw) : Bool := decide (r.m.length ≤ 70)
def fewI (a : RawI) : Bool := fewR a.lo && fewR a.hi

set_option maxRecDepth 100000 in
theorem few_c {w : World} {v : Value} {r : Raw} (hv : DyR w v r) (hl : r.m.length ≤ 17592186044416) : Calls Tryd.prog 62 #[v] w (RetK (.bool (fewR r)) w) := by
  obtain ⟨neg, m, e⟩ := r
  obtain ⟨s, rfl, hs, h1, h2⟩ := hv
  obtain ⟨-, A, c, rfl, -⟩ := hs
  unfold fewR
  simp only at hl h1 h2
  generalize m.length = n at *
  have hd : decide ((n : Int) ≤ 70) = decide (n ≤ 70) := by simp; omega
  go_enter Tryd.func62, Tryd.ntmps62
  go_wp2_with fail
  go_ret
  exact ⟨rfl, kept_alloc _ _⟩

set_option maxHeartbeats 1000000 in
set_option maxRecDepth 100000 in
theorem fewI_c {w : World} {v : Value} {a : RawI} (hv : IvR w v a) (hl : a.lens 17592186044416) : Calls Tryd.prog 24 #[v] w (RetK (.bool (fewI a)) w) := by
  obtain ⟨A, l, c, A', l', c', rfl, h1, h2⟩ := ivR_split hv
  have m1 := fun w1 (k : Kept w w1) => few_c (h1.kept k) hl.1
  have m2 := fun w1 (k : Kept w w1) => few_c (h2.kept k) hl.2
  have M1 := Lib.hid m1
  have M2 := Lib.hid m2
  clear m1 m2 h1 h2 hv hl
  unfold fewI
  generalize fewR a.lo = r1 at *
  generalize fewR a.hi = r2 at *
  generalize a.lo.neg = n1 at *
  generalize a.lo.e = e1 at *
  generalize a.hi.neg = n2 at *
  generalize a.hi.e = e2 at *
  obtain ⟨W, hW, kW, BI⟩ := box1i w (.bool n1) (.slice A l c) (.int .i64 e1) (.bool n2) (.slice A' l' c') (.int .i64 e2)
  have HW := Lib.hid hW
  have K := Lib.hid kW
  have HB := Lib.hid BI
  clear hW kW BI
  cases r1
  · rw [Bool.false_and]
    go_enter Tryd.func24, Tryd.ntmps24
    go_wp2_with fail
    rw [← HW.out]
    refine (M1.out _ K.out).mono ?_
    rintro e w1 ⟨rfl, q⟩
    simp only []
    go_wp2_with fail
    go_ret
    exact ⟨rfl, K.out.trans q⟩
  · rw [Bool.true_and]
    go_enter Tryd.func24, Tryd.ntmps24
    go_wp2_with fail
    rw [← HW.out]
    refine (M1.out _ K.out).mono ?_
    rintro e w1 ⟨rfl, q⟩
    obtain ⟨-, c0, c1, c2, c3, c4, c5⟩ := (HB.out.kept q).facts
    simp only []
    go_wp2_with fail
    refine (M2.out _ (K.out.trans q)).mono ?_
    rintro e w2 ⟨rfl, q2⟩
    simp only []
    go_wp2_with fail
    go_ret
    exact ⟨rfl, (K.out.trans q).trans q2⟩

end Go.Proofs.YtjdplcenniogdaaDoor
