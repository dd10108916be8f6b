/- Contracts of package arith, twelfth part: the tops (Add, Sub, Mul, Div, Neg, Sqr, Sqrt). -/
import Derived.Test.YtgododcbmkpbjaaGreatDoorClaimSlinesp31
set_option maxRecDepth 100000
set_option maxHeartbeats 16000000
namespace Go.Proofs.YtgododcbmkpbjaaGreatDoor
open Go.RowKit
/-- The clean one of a raw interval that may be. -/
def RawI.iv (a : RawI) : Iv := ⟨a.lo.dy, a.hi.dy⟩
theorem iv_clean {a : RawI} (h1 : Small a.lo.m) (h2 : Small a.hi.m) (h : mayI a = true) : a.iv.Ok ∧ a.iv.raw = a := by
 unfold mayI at h
 simp only [Bool.and_eq_true, decide_eq_true_eq] at h
 obtain ⟨⟨m1, m2⟩, m3⟩ := h
 obtain ⟨c1, d1⟩ := mayD_clean h1 m1
 obtain ⟨c2, d2⟩ := mayD_clean h2 m2
 exact ⟨⟨d1, d2, cmpQ_le.1 m3⟩, by unfold RawI.iv Iv.raw; simp only [c1, c2]⟩
theorem Iv.raw_iv (a : Iv) : a.raw.iv = a := by unfold Iv.raw RawI.iv; simp only [Dy.raw_dy]
theorem ends_iz {lo hi : Outc Dy} (h : (ends lo hi).k ≠ 0) : (ends lo hi).v = iz := by
 unfold ends Outc.bind at *
 by_cases h1 : lo.k = 0
 ·simp only [if_pos h1] at h ⊢
  by_cases h2 : hi.k = 0
  ·simp only [if_pos h2] at h; exact absurd rfl h
  ·simp only [if_neg h2]
 ·simp only [if_neg h1]
theorem bind_iz {α : Type} {o : Outc α} {f : α → Outc Iv} (hf : ∀ x, (f x).k ≠ 0 → (f x).v = iz) (h : (o.bind iz f).k ≠ 0) : (o.bind iz f).v = iz := by
 unfold Outc.bind at *
 by_cases h1 : o.k = 0
 ·rw [if_pos h1] at h ⊢; exact hf _ h
 ·rw [if_neg h1]
theorem four_iz {a b c d : Outc Dy} {f : Dy → Dy → Dy → Dy → Outc Iv} (hf : ∀ x y z u, (f x y z u).k ≠ 0 → (f x y z u).v = iz) (h : (four a b c d f).k ≠ 0) : (four a b c d f).v = iz := by
 unfold four at *
 exact bind_iz (fun x => bind_iz fun y => bind_iz fun z => bind_iz fun u => hf x y z u) h
theorem addI_iz {a b : Iv} {p : Nat} (h : (addI a b p).k ≠ 0) : (addI a b p).v = iz := ends_iz h
theorem subI_iz {a b : Iv} {p : Nat} (h : (subI a b p).k ≠ 0) : (subI a b p).v = iz := ends_iz h
theorem negI_iz {a : Iv} {p : Nat} (h : (negI a p).k ≠ 0) : (negI a p).v = iz := ends_iz h
theorem mulI_iz {a b : Iv} {p : Nat} (h : (mulI a b p).k ≠ 0) : (mulI a b p).v = iz := four_iz (fun _ _ _ _ h => ends_iz h) h
theorem sqrI_iz {a : Iv} {p : Nat} (h : (sqrI a p).k ≠ 0) : (sqrI a p).v = iz := bind_iz (fun _ h => bind_iz (fun _ h => ends_iz h) h) h
theorem sqrtI_iz {a : Iv} {p : Nat} (h : (sqrtI a p).k ≠ 0) : (sqrtI a p).v = iz := by
 unfold sqrtI at *
 by_cases hs : sg a.lo < 0
 ·rw [if_pos hs]
 ·rw [if_neg hs] at h ⊢; exact ends_iz h
theorem divI_iz {a b : Iv} {p : Nat} (h : (divI a b p).k ≠ 0) : (divI a b p).v = iz := by
 unfold divI at *
 by_cases hs : hasZero b = true
 ·rw [if_pos hs]
 ·rw [if_neg hs] at h ⊢; exact four_iz (fun _ _ _ _ h => four_iz (fun _ _ _ _ h => absurd rfl h) h) h
theorem rawO_iz {o : Outc Iv} (h : o.k ≠ 0 → o.v = iz) : (rawO o).k ≠ 0 → (rawO o).v = rzI := fun hk => by
 show o.v.raw = rzI
 rw [h hk, iz_raw]
theorem new_at (w : World) (o : Obj) (n : Nat) (h : w.heap.size = n) : (w.alloc o).heap[n]? = some o := by subst h; exact heap_alloc_new _ _
theorem blkI_at (w : World) (n : Nat) (x y z x' y' z' : Value) (h : w.heap.size = n) : BlkI (w.alloc (.cells #[x, y, z, x', y', z'] 32)) n x y z x' y' z' := new_at w _ n h
/-- The boxes of an operation with two intervals, and the list of both. -/
theorem boxesA2 (w : World) (x0 x1 x2 x3 x4 x5 y0 y1 y2 y3 y4 y5 p : Value) : ∃ W, W = ((((w.alloc (.cells #[x0, x1, x2, x3, x4, x5] 32)).alloc (.cells #[y0, y1, y2, y3, y4, y5] 32)).alloc (.cells #[p] 3)).alloc (.cells #[.bool false, .slice none 0 0, .int .i64 0, .bool false, .slice none 0 0, .int .i64 0] 32)).alloc (.cells #[x0, x1, x2, x3, x4, x5, y0, y1, y2, y3, y4, y5] 32) ∧
 Kept w W ∧ BlkI W w.heap.size x0 x1 x2 x3 x4 x5 ∧ BlkI W (w.heap.size + 1) y0 y1 y2 y3 y4 y5 ∧ W.cell? ⟨w.heap.size + 1 + 1, 0, none⟩ = some p ∧ BlkI W (w.heap.size + 1 + 1 + 1) (.bool false) (.slice none 0 0) (.int .i64 0) (.bool false) (.slice none 0 0) (.int .i64 0) ∧
 W.heap[w.heap.size + 1 + 1 + 1 + 1]? = some (.cells #[x0, x1, x2, x3, x4, x5, y0, y1, y2, y3, y4, y5] 32 (0, 0)) := by
 refine ⟨_, rfl, ((((kept_alloc _ _).trans (kept_alloc _ _)).trans (kept_alloc _ _)).trans (kept_alloc _ _)).trans (kept_alloc _ _), ?_, ?_, ?_, ?_, new_at _ _ _ (by simp)⟩
 ·exact ((((blkI_at w _ _ _ _ _ _ _ rfl).kept (kept_alloc _ _)).kept (kept_alloc _ _)).kept (kept_alloc _ _)).kept (kept_alloc _ _)
 ·exact (((blkI_at _ _ _ _ _ _ _ _ (by simp)).kept (kept_alloc _ _)).kept (kept_alloc _ _)).kept (kept_alloc _ _)
 ·exact cell_kept (kept_alloc _ _) (cell_kept (kept_alloc _ _) (cell_of_block (new_at _ _ _ (by simp)) 0 _ rfl))
 ·exact (blkI_at _ _ _ _ _ _ _ _ (by simp)).kept (kept_alloc _ _)
/-- .. with one interval. -/
theorem boxesA1 (w : World) (x0 x1 x2 x3 x4 x5 p : Value) : ∃ W, W = (((w.alloc (.cells #[x0, x1, x2, x3, x4, x5] 32)).alloc (.cells #[p] 3)).alloc (.cells #[.bool false, .slice none 0 0, .int .i64 0, .bool false, .slice none 0 0, .int .i64 0] 32)).alloc (.cells #[x0, x1, x2, x3, x4, x5] 32) ∧
 Kept w W ∧ BlkI W w.heap.size x0 x1 x2 x3 x4 x5 ∧ W.cell? ⟨w.heap.size + 1, 0, none⟩ = some p ∧ BlkI W (w.heap.size + 1 + 1) (.bool false) (.slice none 0 0) (.int .i64 0) (.bool false) (.slice none 0 0) (.int .i64 0) ∧
 W.heap[w.heap.size + 1 + 1 + 1]? = some (.cells #[x0, x1, x2, x3, x4, x5] 32 (0, 0)) := by
 refine ⟨_, rfl, (((kept_alloc _ _).trans (kept_alloc _ _)).trans (kept_alloc _ _)).trans (kept_alloc _ _), ?_, ?_, ?_, new_at _ _ _ (by simp)⟩
 ·exact (((blkI_at w _ _ _ _ _ _ _ rfl).kept (kept_alloc _ _)).kept (kept_alloc _ _)).kept (kept_alloc _ _)
 ·exact cell_kept (kept_alloc _ _) (cell_kept (kept_alloc _ _) (cell_of_block (new_at _ _ _ (by simp)) 0 _ rfl))
 ·exact (blkI_at _ _ _ _ _ _ _ _ (by simp)).kept (kept_alloc _ _)
theorem ivS1 {w : World} {b : Nat} {a : RawI} {T : TypeId} {x0 x1 x2 x3 x4 x5 : Value} (h : w.heap[b]? = some (.cells #[x0, x1, x2, x3, x4, x5] T (0, 0))) (h1 : IvR w (.agg #[x0, x1, x2, x3, x4, x5]) a) :
 IvS w (.slice (some ⟨b, 0, none⟩) 1 1) [a] := by
 refine ⟨_, _, rfl, Nat.le_refl _, fun _ => ⟨b, 0, rfl, fun i d hi => ?_⟩⟩
 rcases i with _ | i
 ·simp at hi; subst hi
  exact ⟨_, _, _, _, _, _, cell_of_block h 0 _ rfl, cell_of_block h 1 _ rfl, cell_of_block h 2 _ rfl, cell_of_block h 3 _ rfl, cell_of_block h 4 _ rfl, cell_of_block h 5 _ rfl, h1⟩
 ·simp at hi
theorem ivS2 {w : World} {b : Nat} {a a' : RawI} {T : TypeId} {x0 x1 x2 x3 x4 x5 y0 y1 y2 y3 y4 y5 : Value} (h : w.heap[b]? = some (.cells #[x0, x1, x2, x3, x4, x5, y0, y1, y2, y3, y4, y5] T (0, 0))) (h1 : IvR w (.agg #[x0, x1, x2, x3, x4, x5]) a) (h2 : IvR w (.agg #[y0, y1, y2, y3, y4, y5]) a') :
 IvS w (.slice (some ⟨b, 0, none⟩) 2 2) [a, a'] := by
 refine ⟨_, _, rfl, Nat.le_refl _, fun _ => ⟨b, 0, rfl, fun i d hi => ?_⟩⟩
 rcases i with _ | _ | i
 ·simp at hi; subst hi
  exact ⟨_, _, _, _, _, _, cell_of_block h 0 _ rfl, cell_of_block h 1 _ rfl, cell_of_block h 2 _ rfl, cell_of_block h 3 _ rfl, cell_of_block h 4 _ rfl, cell_of_block h 5 _ rfl, h1⟩
 ·simp at hi; subst hi
  exact ⟨_, _, _, _, _, _, cell_of_block h 6 _ rfl, cell_of_block h 7 _ rfl, cell_of_block h 8 _ rfl, cell_of_block h 9 _ rfl, cell_of_block h 10 _ rfl, cell_of_block h 11 _ rfl, h2⟩
 ·simp at hi
theorem blkIv_of {w : World} {b : Nat} {a : RawI} {A A' : Option Addr} {l c l' c' : Nat} (hr : a.iv.raw = a) (h : BlkI w b (.bool a.lo.neg) (.slice A l c) (.int .i64 a.lo.e) (.bool a.hi.neg) (.slice A' l' c') (.int .i64 a.hi.e))
 (h1 : DyR w (.agg #[.bool a.lo.neg, .slice A l c, .int .i64 a.lo.e]) a.lo) (h2 : DyR w (.agg #[.bool a.hi.neg, .slice A' l' c', .int .i64 a.hi.e]) a.hi) : BlkIv w b a.iv := by
 have e1 : a.iv.lo.raw = a.lo := congrArg RawI.lo hr
 have e2 : a.iv.hi.raw = a.hi := congrArg RawI.hi hr
 exact ⟨A, l, c, A', l', c', h, by rw [e1]; exact h1, by rw [e2]; exact h2⟩
theorem DyR.small {w : World} {v : Value} {r : Raw} (h : DyR w v r) : Small r.m := by
 obtain ⟨s, _, hs, _⟩ := h
 exact hs.1
theorem Add_i {w : World} {v u : Value} {a b : RawI} {p : Int} (hv : IvR w v a) (hu : IvR w u b) (la : a.lens 17592186044416) (lb : b.lens 17592186044416) (hT : Tab w) :
 Calls Tryz.prog 107 #[v, u, .int .i64 p] w (RetIE (faceO p [a, b] (rawO (addI a.iv b.iv p.toNat))) w) := by
 have hmf : ∀ (fn : Fn) (first cap : Array Value) (w : World), (Instr.makeFunc fn first cap).run Tryz.prog w = .ok (.func fn first cap) w := fun _ _ _ _ => rfl
 obtain ⟨A, l, c, A', l', c', rfl, h1, h2⟩ := ivR_split hv
 obtain ⟨B, j, e, B', j', e', rfl, g1, g2⟩ := ivR_split hu
 obtain ⟨W, hW, kW, BA, BB, cp, BR, BL⟩ := boxesA2 w (.bool a.lo.neg) (.slice A l c) (.int .i64 a.lo.e) (.bool a.hi.neg) (.slice A' l' c') (.int .i64 a.hi.e) (.bool b.lo.neg) (.slice B j e) (.int .i64 b.lo.e) (.bool b.hi.neg) (.slice B' j' e') (.int .i64 b.hi.e) (.int .i64 p)
 have hf := face_cA (w := W) (K := 137) (cap := #[.pointer (some ⟨w.heap.size, 0, none⟩), .pointer (some ⟨w.heap.size + 1, 0, none⟩), .pointer (some ⟨w.heap.size + 1 + 1, 0, none⟩)]) (p := p) (l := [a, b]) (o := rawO (addI a.iv b.iv p.toNat))
  (ivS2 BL ⟨_, _, _, _, _, _, rfl, h1.kept kW, h2.kept kW⟩ ⟨_, _, _, _, _, _, rfl, g1.kept kW, g2.kept kW⟩)
  (by intro x hx; simp only [List.mem_cons, List.not_mem_nil, or_false] at hx; rcases hx with rfl | rfl; exact la; exact lb) (by simp)
  (fun p1 p2 hall w1 k => by
    simp only [List.all_cons, List.all_nil, Bool.and_true, Bool.and_eq_true] at hall
    obtain ⟨oa, ra⟩ := iv_clean h1.small h2.small hall.1
    obtain ⟨ob, rb⟩ := iv_clean g1.small g2.small hall.2
    have hp : ((p.toNat : Nat) : Int) = p := Int.toNat_of_nonneg (by omega)
    exact add1_c (p := p.toNat) oa ob (hT.kept (kW.trans k)) (by omega) (by omega) (blkIv_of ra (BA.kept k) (h1.kept (kW.trans k)) (h2.kept (kW.trans k))) (blkIv_of rb (BB.kept k) (g1.kept (kW.trans k)) (g2.kept (kW.trans k))) (by rw [hp]; exact cell_kept k cp))
  (rawO_iz addI_iz) (fun _ => rfl)
 generalize faceO p [a, b] (rawO (addI a.iv b.iv p.toNat)) = o at *
 have HF := Lib.hid hf
 have HW := Lib.hid hW
 have HK := Lib.hid kW
 have HR := Lib.hid BR
 clear hf hW kW BA BB BR BL cp h1 h2 g1 g2 hv hu la lb hT
 generalize a.lo.neg = n1 at *
 generalize a.lo.e = e1 at *
 generalize a.hi.neg = n2 at *
 generalize a.hi.e = e2 at *
 generalize b.lo.neg = n3 at *
 generalize b.lo.e = e3 at *
 generalize b.hi.neg = n4 at *
 generalize b.hi.e = e4 at *
 go_enter Tryz.func107, Tryz.ntmps107
 go_wp2_with (go_at_call 129; rw [← HW.out]; refine HF.out.mono ?_; rintro e w1 ⟨q, u, rfl, hd⟩; obtain ⟨A1, j1, k1', A2, j2, k2', rfl, z1, z2⟩ := ivR_split hd; have Z1 := Lib.hid z1; have Z2 := Lib.hid z2; have hb2 := HR.out.kept q; obtain ⟨hsz, c0, c1, c2, c3, c4, c5⟩ := hb2.facts; obtain ⟨f0, f1, f2, f3, f4, f5⟩ := hb2.free; have HRR := Lib.hid hb2; clear hd hb2 z1 z2)
 exact ret_iv2 (HRR.out.laid _ _ _ _ _ _) rfl rfl rfl ⟨ivW_kept (HK.out.trans q) (by omega), _, rfl, _, _, _, _, _, _, rfl, Z1.out.ivW HRR.out _ _ _ _ _ _, Z2.out.ivW HRR.out _ _ _ _ _ _⟩
theorem Sub_i {w : World} {v u : Value} {a b : RawI} {p : Int} (hv : IvR w v a) (hu : IvR w u b) (la : a.lens 17592186044416) (lb : b.lens 17592186044416) (hT : Tab w) :
 Calls Tryz.prog 108 #[v, u, .int .i64 p] w (RetIE (faceO p [a, b] (rawO (subI a.iv b.iv p.toNat))) w) := by
 have hmf : ∀ (fn : Fn) (first cap : Array Value) (w : World), (Instr.makeFunc fn first cap).run Tryz.prog w = .ok (.func fn first cap) w := fun _ _ _ _ => rfl
 obtain ⟨A, l, c, A', l', c', rfl, h1, h2⟩ := ivR_split hv
 obtain ⟨B, j, e, B', j', e', rfl, g1, g2⟩ := ivR_split hu
 obtain ⟨W, hW, kW, BA, BB, cp, BR, BL⟩ := boxesA2 w (.bool a.lo.neg) (.slice A l c) (.int .i64 a.lo.e) (.bool a.hi.neg) (.slice A' l' c') (.int .i64 a.hi.e) (.bool b.lo.neg) (.slice B j e) (.int .i64 b.lo.e) (.bool b.hi.neg) (.slice B' j' e') (.int .i64 b.hi.e) (.int .i64 p)
 have hf := face_cA (w := W) (K := 139) (cap := #[.pointer (some ⟨w.heap.size, 0, none⟩), .pointer (some ⟨w.heap.size + 1, 0, none⟩), .pointer (some ⟨w.heap.size + 1 + 1, 0, none⟩)]) (p := p) (l := [a, b]) (o := rawO (subI a.iv b.iv p.toNat))
  (ivS2 BL ⟨_, _, _, _, _, _, rfl, h1.kept kW, h2.kept kW⟩ ⟨_, _, _, _, _, _, rfl, g1.kept kW, g2.kept kW⟩)
  (by intro x hx; simp only [List.mem_cons, List.not_mem_nil, or_false] at hx; rcases hx with rfl | rfl; exact la; exact lb) (by simp)
  (fun p1 p2 hall w1 k => by
    simp only [List.all_cons, List.all_nil, Bool.and_true, Bool.and_eq_true] at hall
    obtain ⟨oa, ra⟩ := iv_clean h1.small h2.small hall.1
    obtain ⟨ob, rb⟩ := iv_clean g1.small g2.small hall.2
    have hp : ((p.toNat : Nat) : Int) = p := Int.toNat_of_nonneg (by omega)
    exact isub1_c (p := p.toNat) oa ob (hT.kept (kW.trans k)) (by omega) (by omega) (blkIv_of ra (BA.kept k) (h1.kept (kW.trans k)) (h2.kept (kW.trans k))) (blkIv_of rb (BB.kept k) (g1.kept (kW.trans k)) (g2.kept (kW.trans k))) (by rw [hp]; exact cell_kept k cp))
  (rawO_iz subI_iz) (fun _ => rfl)
 generalize faceO p [a, b] (rawO (subI a.iv b.iv p.toNat)) = o at *
 have HF := Lib.hid hf
 have HW := Lib.hid hW
 have HK := Lib.hid kW
 have HR := Lib.hid BR
 clear hf hW kW BA BB BR BL cp h1 h2 g1 g2 hv hu la lb hT
 generalize a.lo.neg = n1 at *
 generalize a.lo.e = e1 at *
 generalize a.hi.neg = n2 at *
 generalize a.hi.e = e2 at *
 generalize b.lo.neg = n3 at *
 generalize b.lo.e = e3 at *
 generalize b.hi.neg = n4 at *
 generalize b.hi.e = e4 at *
 go_enter Tryz.func108, Tryz.ntmps108
 go_wp2_with (go_at_call 129; rw [← HW.out]; refine HF.out.mono ?_; rintro e w1 ⟨q, u, rfl, hd⟩; obtain ⟨A1, j1, k1', A2, j2, k2', rfl, z1, z2⟩ := ivR_split hd; have Z1 := Lib.hid z1; have Z2 := Lib.hid z2; have hb2 := HR.out.kept q; obtain ⟨hsz, c0, c1, c2, c3, c4, c5⟩ := hb2.facts; obtain ⟨f0, f1, f2, f3, f4, f5⟩ := hb2.free; have HRR := Lib.hid hb2; clear hd hb2 z1 z2)
 exact ret_iv2 (HRR.out.laid _ _ _ _ _ _) rfl rfl rfl ⟨ivW_kept (HK.out.trans q) (by omega), _, rfl, _, _, _, _, _, _, rfl, Z1.out.ivW HRR.out _ _ _ _ _ _, Z2.out.ivW HRR.out _ _ _ _ _ _⟩
theorem Mul_i {w : World} {v u : Value} {a b : RawI} {p : Int} (hv : IvR w v a) (hu : IvR w u b) (la : a.lens 17592186044416) (lb : b.lens 17592186044416) (hT : Tab w) :
 Calls Tryz.prog 109 #[v, u, .int .i64 p] w (RetIE (faceO p [a, b] (rawO (mulI a.iv b.iv p.toNat))) w) := by
 have hmf : ∀ (fn : Fn) (first cap : Array Value) (w : World), (Instr.makeFunc fn first cap).run Tryz.prog w = .ok (.func fn first cap) w := fun _ _ _ _ => rfl
 obtain ⟨A, l, c, A', l', c', rfl, h1, h2⟩ := ivR_split hv
 obtain ⟨B, j, e, B', j', e', rfl, g1, g2⟩ := ivR_split hu
 obtain ⟨W, hW, kW, BA, BB, cp, BR, BL⟩ := boxesA2 w (.bool a.lo.neg) (.slice A l c) (.int .i64 a.lo.e) (.bool a.hi.neg) (.slice A' l' c') (.int .i64 a.hi.e) (.bool b.lo.neg) (.slice B j e) (.int .i64 b.lo.e) (.bool b.hi.neg) (.slice B' j' e') (.int .i64 b.hi.e) (.int .i64 p)
 have hf := face_cA (w := W) (K := 140) (cap := #[.pointer (some ⟨w.heap.size, 0, none⟩), .pointer (some ⟨w.heap.size + 1, 0, none⟩), .pointer (some ⟨w.heap.size + 1 + 1, 0, none⟩)]) (p := p) (l := [a, b]) (o := rawO (mulI a.iv b.iv p.toNat))
  (ivS2 BL ⟨_, _, _, _, _, _, rfl, h1.kept kW, h2.kept kW⟩ ⟨_, _, _, _, _, _, rfl, g1.kept kW, g2.kept kW⟩)
  (by intro x hx; simp only [List.mem_cons, List.not_mem_nil, or_false] at hx; rcases hx with rfl | rfl; exact la; exact lb) (by simp)
  (fun p1 p2 hall w1 k => by
    simp only [List.all_cons, List.all_nil, Bool.and_true, Bool.and_eq_true] at hall
    obtain ⟨oa, ra⟩ := iv_clean h1.small h2.small hall.1
    obtain ⟨ob, rb⟩ := iv_clean g1.small g2.small hall.2
    have hp : ((p.toNat : Nat) : Int) = p := Int.toNat_of_nonneg (by omega)
    exact amul1_c (p := p.toNat) oa ob (hT.kept (kW.trans k)) (by omega) (by omega) (blkIv_of ra (BA.kept k) (h1.kept (kW.trans k)) (h2.kept (kW.trans k))) (blkIv_of rb (BB.kept k) (g1.kept (kW.trans k)) (g2.kept (kW.trans k))) (by rw [hp]; exact cell_kept k cp))
  (rawO_iz mulI_iz) (fun _ => rfl)
 generalize faceO p [a, b] (rawO (mulI a.iv b.iv p.toNat)) = o at *
 have HF := Lib.hid hf
 have HW := Lib.hid hW
 have HK := Lib.hid kW
 have HR := Lib.hid BR
 clear hf hW kW BA BB BR BL cp h1 h2 g1 g2 hv hu la lb hT
 generalize a.lo.neg = n1 at *
 generalize a.lo.e = e1 at *
 generalize a.hi.neg = n2 at *
 generalize a.hi.e = e2 at *
 generalize b.lo.neg = n3 at *
 generalize b.lo.e = e3 at *
 generalize b.hi.neg = n4 at *
 generalize b.hi.e = e4 at *
 go_enter Tryz.func109, Tryz.ntmps109
 go_wp2_with (go_at_call 129; rw [← HW.out]; refine HF.out.mono ?_; rintro e w1 ⟨q, u, rfl, hd⟩; obtain ⟨A1, j1, k1', A2, j2, k2', rfl, z1, z2⟩ := ivR_split hd; have Z1 := Lib.hid z1; have Z2 := Lib.hid z2; have hb2 := HR.out.kept q; obtain ⟨hsz, c0, c1, c2, c3, c4, c5⟩ := hb2.facts; obtain ⟨f0, f1, f2, f3, f4, f5⟩ := hb2.free; have HRR := Lib.hid hb2; clear hd hb2 z1 z2)
 exact ret_iv2 (HRR.out.laid _ _ _ _ _ _) rfl rfl rfl ⟨ivW_kept (HK.out.trans q) (by omega), _, rfl, _, _, _, _, _, _, rfl, Z1.out.ivW HRR.out _ _ _ _ _ _, Z2.out.ivW HRR.out _ _ _ _ _ _⟩
theorem Div_i {w : World} {v u : Value} {a b : RawI} {p : Int} (hv : IvR w v a) (hu : IvR w u b) (la : a.lens 17592186044416) (lb : b.lens 17592186044416) (hT : Tab w) :
 Calls Tryz.prog 105 #[v, u, .int .i64 p] w (RetIE (faceO p [a, b] (rawO (divI a.iv b.iv p.toNat))) w) := by
 have hmf : ∀ (fn : Fn) (first cap : Array Value) (w : World), (Instr.makeFunc fn first cap).run Tryz.prog w = .ok (.func fn first cap) w := fun _ _ _ _ => rfl
 obtain ⟨A, l, c, A', l', c', rfl, h1, h2⟩ := ivR_split hv
 obtain ⟨B, j, e, B', j', e', rfl, g1, g2⟩ := ivR_split hu
 obtain ⟨W, hW, kW, BA, BB, cp, BR, BL⟩ := boxesA2 w (.bool a.lo.neg) (.slice A l c) (.int .i64 a.lo.e) (.bool a.hi.neg) (.slice A' l' c') (.int .i64 a.hi.e) (.bool b.lo.neg) (.slice B j e) (.int .i64 b.lo.e) (.bool b.hi.neg) (.slice B' j' e') (.int .i64 b.hi.e) (.int .i64 p)
 have hf := face_cA (w := W) (K := 130) (cap := #[.pointer (some ⟨w.heap.size + 1, 0, none⟩), .pointer (some ⟨w.heap.size, 0, none⟩), .pointer (some ⟨w.heap.size + 1 + 1, 0, none⟩)]) (p := p) (l := [a, b]) (o := rawO (divI a.iv b.iv p.toNat))
  (ivS2 BL ⟨_, _, _, _, _, _, rfl, h1.kept kW, h2.kept kW⟩ ⟨_, _, _, _, _, _, rfl, g1.kept kW, g2.kept kW⟩)
  (by intro x hx; simp only [List.mem_cons, List.not_mem_nil, or_false] at hx; rcases hx with rfl | rfl; exact la; exact lb) (by simp)
  (fun p1 p2 hall w1 k => by
    simp only [List.all_cons, List.all_nil, Bool.and_true, Bool.and_eq_true] at hall
    obtain ⟨oa, ra⟩ := iv_clean h1.small h2.small hall.1
    obtain ⟨ob, rb⟩ := iv_clean g1.small g2.small hall.2
    have hp : ((p.toNat : Nat) : Int) = p := Int.toNat_of_nonneg (by omega)
    exact adiv1_c (p := p.toNat) oa ob (hT.kept (kW.trans k)) (by omega) (by omega) (blkIv_of ra (BA.kept k) (h1.kept (kW.trans k)) (h2.kept (kW.trans k))) (blkIv_of rb (BB.kept k) (g1.kept (kW.trans k)) (g2.kept (kW.trans k))) (by rw [hp]; exact cell_kept k cp))
  (rawO_iz divI_iz) (fun _ => rfl)
 generalize faceO p [a, b] (rawO (divI a.iv b.iv p.toNat)) = o at *
 have HF := Lib.hid hf
 have HW := Lib.hid hW
 have HK := Lib.hid kW
 have HR := Lib.hid BR
 clear hf hW kW BA BB BR BL cp h1 h2 g1 g2 hv hu la lb hT
 generalize a.lo.neg = n1 at *
 generalize a.lo.e = e1 at *
 generalize a.hi.neg = n2 at *
 generalize a.hi.e = e2 at *
 generalize b.lo.neg = n3 at *
 generalize b.lo.e = e3 at *
 generalize b.hi.neg = n4 at *
 generalize b.hi.e = e4 at *
 go_enter Tryz.func105, Tryz.ntmps105
 go_wp2_with (go_at_call 129; rw [← HW.out]; refine HF.out.mono ?_; rintro e w1 ⟨q, u, rfl, hd⟩; obtain ⟨A1, j1, k1', A2, j2, k2', rfl, z1, z2⟩ := ivR_split hd; have Z1 := Lib.hid z1; have Z2 := Lib.hid z2; have hb2 := HR.out.kept q; obtain ⟨hsz, c0, c1, c2, c3, c4, c5⟩ := hb2.facts; obtain ⟨f0, f1, f2, f3, f4, f5⟩ := hb2.free; have HRR := Lib.hid hb2; clear hd hb2 z1 z2)
 exact ret_iv2 (HRR.out.laid _ _ _ _ _ _) rfl rfl rfl ⟨ivW_kept (HK.out.trans q) (by omega), _, rfl, _, _, _, _, _, _, rfl, Z1.out.ivW HRR.out _ _ _ _ _ _, Z2.out.ivW HRR.out _ _ _ _ _ _⟩
theorem Neg_i {w : World} {v : Value} {a : RawI} {p : Int} (hv : IvR w v a) (la : a.lens 17592186044416) (hT : Tab w) :
 Calls Tryz.prog 110 #[v, .int .i64 p] w (RetIE (faceO p [a] (rawO (negI a.iv p.toNat))) w) := by
 have hmf : ∀ (fn : Fn) (first cap : Array Value) (w : World), (Instr.makeFunc fn first cap).run Tryz.prog w = .ok (.func fn first cap) w := fun _ _ _ _ => rfl
 obtain ⟨A, l, c, A', l', c', rfl, h1, h2⟩ := ivR_split hv
 obtain ⟨W, hW, kW, BA, cp, BR, BL⟩ := boxesA1 w (.bool a.lo.neg) (.slice A l c) (.int .i64 a.lo.e) (.bool a.hi.neg) (.slice A' l' c') (.int .i64 a.hi.e) (.int .i64 p)
 have hf := face_cA (w := W) (K := 141) (cap := #[.pointer (some ⟨w.heap.size, 0, none⟩), .pointer (some ⟨w.heap.size + 1, 0, none⟩)]) (p := p) (l := [a]) (o := rawO (negI a.iv p.toNat))
  (ivS1 BL ⟨_, _, _, _, _, _, rfl, h1.kept kW, h2.kept kW⟩)
  (by intro x hx; simp only [List.mem_cons, List.not_mem_nil, or_false] at hx; subst hx; exact la) (by simp)
  (fun p1 p2 hall w1 k => by
    simp only [List.all_cons, List.all_nil, Bool.and_true] at hall
    obtain ⟨oa, ra⟩ := iv_clean h1.small h2.small hall
    have hp : ((p.toNat : Nat) : Int) = p := Int.toNat_of_nonneg (by omega)
    exact neg1_c (p := p.toNat) oa (hT.kept (kW.trans k)) (by omega) (by omega) (blkIv_of ra (BA.kept k) (h1.kept (kW.trans k)) (h2.kept (kW.trans k))) (by rw [hp]; exact cell_kept k cp))
  (rawO_iz negI_iz) (fun _ => rfl)
 generalize faceO p [a] (rawO (negI a.iv p.toNat)) = o at *
 have HF := Lib.hid hf
 have HW := Lib.hid hW
 have HK := Lib.hid kW
 have HR := Lib.hid BR
 clear hf hW kW BA BR BL cp h1 h2 hv la hT
 generalize a.lo.neg = n1 at *
 generalize a.lo.e = e1 at *
 generalize a.hi.neg = n2 at *
 generalize a.hi.e = e2 at *
 go_enter Tryz.func110, Tryz.ntmps110
 go_wp2_with (go_at_call 129; rw [← HW.out]; refine HF.out.mono ?_; rintro e w1 ⟨q, u, rfl, hd⟩; obtain ⟨A1, j1, k1', A2, j2, k2', rfl, z1, z2⟩ := ivR_split hd; have Z1 := Lib.hid z1; have Z2 := Lib.hid z2; have hb2 := HR.out.kept q; obtain ⟨hsz, c0, c1, c2, c3, c4, c5⟩ := hb2.facts; obtain ⟨f0, f1, f2, f3, f4, f5⟩ := hb2.free; have HRR := Lib.hid hb2; clear hd hb2 z1 z2)
 exact ret_iv2 (HRR.out.laid _ _ _ _ _ _) rfl rfl rfl ⟨ivW_kept (HK.out.trans q) (by omega), _, rfl, _, _, _, _, _, _, rfl, Z1.out.ivW HRR.out _ _ _ _ _ _, Z2.out.ivW HRR.out _ _ _ _ _ _⟩
theorem Sqr_i {w : World} {v : Value} {a : RawI} {p : Int} (hv : IvR w v a) (la : a.lens 17592186044416) (hT : Tab w) :
 Calls Tryz.prog 111 #[v, .int .i64 p] w (RetIE (faceO p [a] (rawO (sqrI a.iv p.toNat))) w) := by
 have hmf : ∀ (fn : Fn) (first cap : Array Value) (w : World), (Instr.makeFunc fn first cap).run Tryz.prog w = .ok (.func fn first cap) w := fun _ _ _ _ => rfl
 obtain ⟨A, l, c, A', l', c', rfl, h1, h2⟩ := ivR_split hv
 obtain ⟨W, hW, kW, BA, cp, BR, BL⟩ := boxesA1 w (.bool a.lo.neg) (.slice A l c) (.int .i64 a.lo.e) (.bool a.hi.neg) (.slice A' l' c') (.int .i64 a.hi.e) (.int .i64 p)
 have hf := face_cA (w := W) (K := 142) (cap := #[.pointer (some ⟨w.heap.size, 0, none⟩), .pointer (some ⟨w.heap.size + 1, 0, none⟩)]) (p := p) (l := [a]) (o := rawO (sqrI a.iv p.toNat))
  (ivS1 BL ⟨_, _, _, _, _, _, rfl, h1.kept kW, h2.kept kW⟩)
  (by intro x hx; simp only [List.mem_cons, List.not_mem_nil, or_false] at hx; subst hx; exact la) (by simp)
  (fun p1 p2 hall w1 k => by
    simp only [List.all_cons, List.all_nil, Bool.and_true] at hall
    obtain ⟨oa, ra⟩ := iv_clean h1.small h2.small hall
    have hp : ((p.toNat : Nat) : Int) = p := Int.toNat_of_nonneg (by omega)
    exact sqr1_c (p := p.toNat) oa (hT.kept (kW.trans k)) (by omega) (by omega) (blkIv_of ra (BA.kept k) (h1.kept (kW.trans k)) (h2.kept (kW.trans k))) (by rw [hp]; exact cell_kept k cp))
  (rawO_iz sqrI_iz) (fun _ => rfl)
 generalize faceO p [a] (rawO (sqrI a.iv p.toNat)) = o at *
 have HF := Lib.hid hf
 have HW := Lib.hid hW
 have HK := Lib.hid kW
 have HR := Lib.hid BR
 clear hf hW kW BA BR BL cp h1 h2 hv la hT
 generalize a.lo.neg = n1 at *
 generalize a.lo.e = e1 at *
 generalize a.hi.neg = n2 at *
 generalize a.hi.e = e2 at *
 go_enter Tryz.func111, Tryz.ntmps111
 go_wp2_with (go_at_call 129; rw [← HW.out]; refine HF.out.mono ?_; rintro e w1 ⟨q, u, rfl, hd⟩; obtain ⟨A1, j1, k1', A2, j2, k2', rfl, z1, z2⟩ := ivR_split hd; have Z1 := Lib.hid z1; have Z2 := Lib.hid z2; have hb2 := HR.out.kept q; obtain ⟨hsz, c0, c1, c2, c3, c4, c5⟩ := hb2.facts; obtain ⟨f0, f1, f2, f3, f4, f5⟩ := hb2.free; have HRR := Lib.hid hb2; clear hd hb2 z1 z2)
 exact ret_iv2 (HRR.out.laid _ _ _ _ _ _) rfl rfl rfl ⟨ivW_kept (HK.out.trans q) (by omega), _, rfl, _, _, _, _, _, _, rfl, Z1.out.ivW HRR.out _ _ _ _ _ _, Z2.out.ivW HRR.out _ _ _ _ _ _⟩
theorem Sqrt_i {w : World} {v : Value} {a : RawI} {p : Int} (hv : IvR w v a) (la : a.lens 17592186044416) (hT : Tab w) :
 Calls Tryz.prog 112 #[v, .int .i64 p] w (RetIE (faceO p [a] (rawO (sqrtI a.iv p.toNat))) w) := by
 have hmf : ∀ (fn : Fn) (first cap : Array Value) (w : World), (Instr.makeFunc fn first cap).run Tryz.prog w = .ok (.func fn first cap) w := fun _ _ _ _ => rfl
 obtain ⟨A, l, c, A', l', c', rfl, h1, h2⟩ := ivR_split hv
 obtain ⟨W, hW, kW, BA, cp, BR, BL⟩ := boxesA1 w (.bool a.lo.neg) (.slice A l c) (.int .i64 a.lo.e) (.bool a.hi.neg) (.slice A' l' c') (.int .i64 a.hi.e) (.int .i64 p)
 have hf := face_cA (w := W) (K := 143) (cap := #[.pointer (some ⟨w.heap.size, 0, none⟩), .pointer (some ⟨w.heap.size + 1, 0, none⟩)]) (p := p) (l := [a]) (o := rawO (sqrtI a.iv p.toNat))
  (ivS1 BL ⟨_, _, _, _, _, _, rfl, h1.kept kW, h2.kept kW⟩)
  (by intro x hx; simp only [List.mem_cons, List.not_mem_nil, or_false] at hx; subst hx; exact la) (by simp)
  (fun p1 p2 hall w1 k => by
    simp only [List.all_cons, List.all_nil, Bool.and_true] at hall
    obtain ⟨oa, ra⟩ := iv_clean h1.small h2.small hall
    have hp : ((p.toNat : Nat) : Int) = p := Int.toNat_of_nonneg (by omega)
    exact sqrt1_c (p := p.toNat) oa (hT.kept (kW.trans k)) (by omega) (by omega) (blkIv_of ra (BA.kept k) (h1.kept (kW.trans k)) (h2.kept (kW.trans k))) (by rw [hp]; exact cell_kept k cp))
  (rawO_iz sqrtI_iz) (fun _ => rfl)
 generalize faceO p [a] (rawO (sqrtI a.iv p.toNat)) = o at *
 have HF := Lib.hid hf
 have HW := Lib.hid hW
 have HK := Lib.hid kW
 have HR := Lib.hid BR
 clear hf hW kW BA BR BL cp h1 h2 hv la hT
 generalize a.lo.neg = n1 at *
 generalize a.lo.e = e1 at *
 generalize a.hi.neg = n2 at *
 generalize a.hi.e = e2 at *
 go_enter Tryz.func112, Tryz.ntmps112
 go_wp2_with (go_at_call 129; rw [← HW.out]; refine HF.out.mono ?_; rintro e w1 ⟨q, u, rfl, hd⟩; obtain ⟨A1, j1, k1', A2, j2, k2', rfl, z1, z2⟩ := ivR_split hd; have Z1 := Lib.hid z1; have Z2 := Lib.hid z2; have hb2 := HR.out.kept q; obtain ⟨hsz, c0, c1, c2, c3, c4, c5⟩ := hb2.facts; obtain ⟨f0, f1, f2, f3, f4, f5⟩ := hb2.free; have HRR := Lib.hid hb2; clear hd hb2 z1 z2)
 exact ret_iv2 (HRR.out.laid _ _ _ _ _ _) rfl rfl rfl ⟨ivW_kept (HK.out.trans q) (by omega), _, rfl, _, _, _, _, _, _, rfl, Z1.out.ivW HRR.out _ _ _ _ _ _, Z2.out.ivW HRR.out _ _ _ _ _ _⟩
end Go.Proofs.YtgododcbmkpbjaaGreatDoor
