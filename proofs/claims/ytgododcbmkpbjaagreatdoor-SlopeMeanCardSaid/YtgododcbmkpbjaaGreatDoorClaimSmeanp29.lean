/- Plain mathematics, no program: grain and height of Dyads; operations on what is neither too fine nor too great have no error; what intervals hold. -/
import Derived.Test.YtgododcbmkpbjaaGreatDoorClaimSmeanp11
import Derived.Test.YtgododcbmkpbjaaGreatDoorClaimSmeanp25
import Derived.Test.YtgododcbmkpbjaaGreatDoorClaimSmeanp28
set_option maxRecDepth 100000
set_option maxHeartbeats 16000000
namespace Go.Proofs.YtgododcbmkpbjaaGreatDoor
open Go.RowKit
end Go.Proofs.YtgododcbmkpbjaaGreatDoor
namespace Go.Proofs.YtgododcbmkpbjaaGreatDoor
open Go.RowKit
section
variable {P : Program} {ops : Array Oper} {Q : Exit → Act → World → Prop}
end
/-- The clean one of a raw interval that may be. -/
def RawI.iv (a : RawI) : Iv := ⟨a.lo.dy, a.hi.dy⟩
theorem iv_clean {a : RawI} (h1 : Small a.lo.m) (h2 : Small a.hi.m) (h : mayI a = true) : a.iv.Ok ∧ a.iv.raw = a := by
 unfold mayI at h
 simp only [Bool.and_eq_true, decide_eq_true_eq] at h
 obtain ⟨⟨m1, m2⟩, m3⟩ := h
 obtain ⟨c1, d1⟩ := mayD_clean h1 m1
 obtain ⟨c2, d2⟩ := mayD_clean h2 m2
 exact ⟨⟨d1, d2, cmpQ_le.1 m3⟩, by unfold RawI.iv Iv.raw; simp only [c1, c2]⟩
theorem Iv.raw_iv (a : Iv) : a.raw.iv = a := by unfold Iv.raw RawI.iv; simp only [Dy.raw_dy]
theorem ends_iz {lo hi : Outc Dy} (h : (ends lo hi).k ≠ 0) : (ends lo hi).v = iz := by
 unfold ends Outc.bind at *
 by_cases h1 : lo.k = 0
 ·simp only [if_pos h1] at h ⊢
  by_cases h2 : hi.k = 0
  ·simp only [if_pos h2] at h; exact absurd rfl h
  ·simp only [if_neg h2]
 ·simp only [if_neg h1]
theorem bind_iz {α : Type} {o : Outc α} {f : α → Outc Iv} (hf : ∀ x, (f x).k ≠ 0 → (f x).v = iz) (h : (o.bind iz f).k ≠ 0) : (o.bind iz f).v = iz := by
 unfold Outc.bind at *
 by_cases h1 : o.k = 0
 ·rw [if_pos h1] at h ⊢; exact hf _ h
 ·rw [if_neg h1]
theorem four_iz {a b c d : Outc Dy} {f : Dy → Dy → Dy → Dy → Outc Iv} (hf : ∀ x y z u, (f x y z u).k ≠ 0 → (f x y z u).v = iz) (h : (four a b c d f).k ≠ 0) : (four a b c d f).v = iz := by
 unfold four at *
 exact bind_iz (fun x => bind_iz fun y => bind_iz fun z => bind_iz fun u => hf x y z u) h
theorem addI_iz {a b : Iv} {p : Nat} (h : (addI a b p).k ≠ 0) : (addI a b p).v = iz := ends_iz h
theorem subI_iz {a b : Iv} {p : Nat} (h : (subI a b p).k ≠ 0) : (subI a b p).v = iz := ends_iz h
theorem mulI_iz {a b : Iv} {p : Nat} (h : (mulI a b p).k ≠ 0) : (mulI a b p).v = iz := four_iz (fun _ _ _ _ h => ends_iz h) h
theorem rawO_iz {o : Outc Iv} (h : o.k ≠ 0 → o.v = iz) : (rawO o).k ≠ 0 → (rawO o).v = rzI := fun hk => by
 show o.v.raw = rzI
 rw [h hk, iz_raw]
theorem new_at (w : World) (o : Obj) (n : Nat) (h : w.heap.size = n) : (w.alloc o).heap[n]? = some o := by subst h; exact heap_alloc_new _ _
theorem blkI_at (w : World) (n : Nat) (x y z x' y' z' : Value) (h : w.heap.size = n) : BlkI (w.alloc (.cells #[x, y, z, x', y', z'] 32)) n x y z x' y' z' := new_at w _ n h
/-- The boxes of an operation with two intervals, and the list of both. -/
theorem boxesA2 (w : World) (x0 x1 x2 x3 x4 x5 y0 y1 y2 y3 y4 y5 p : Value) : ∃ W, W = ((((w.alloc (.cells #[x0, x1, x2, x3, x4, x5] 32)).alloc (.cells #[y0, y1, y2, y3, y4, y5] 32)).alloc (.cells #[p] 3)).alloc (.cells #[.bool false, .slice none 0 0, .int .i64 0, .bool false, .slice none 0 0, .int .i64 0] 32)).alloc (.cells #[x0, x1, x2, x3, x4, x5, y0, y1, y2, y3, y4, y5] 32) ∧
 Kept w W ∧ BlkI W w.heap.size x0 x1 x2 x3 x4 x5 ∧ BlkI W (w.heap.size + 1) y0 y1 y2 y3 y4 y5 ∧ W.cell? ⟨w.heap.size + 1 + 1, 0, none⟩ = some p ∧ BlkI W (w.heap.size + 1 + 1 + 1) (.bool false) (.slice none 0 0) (.int .i64 0) (.bool false) (.slice none 0 0) (.int .i64 0) ∧
 W.heap[w.heap.size + 1 + 1 + 1 + 1]? = some (.cells #[x0, x1, x2, x3, x4, x5, y0, y1, y2, y3, y4, y5] 32 (0, 0)) := by
 refine ⟨_, rfl, ((((kept_alloc _ _).trans (kept_alloc _ _)).trans (kept_alloc _ _)).trans (kept_alloc _ _)).trans (kept_alloc _ _), ?_, ?_, ?_, ?_, new_at _ _ _ (by simp)⟩
 ·exact ((((blkI_at w _ _ _ _ _ _ _ rfl).kept (kept_alloc _ _)).kept (kept_alloc _ _)).kept (kept_alloc _ _)).kept (kept_alloc _ _)
 ·exact (((blkI_at _ _ _ _ _ _ _ _ (by simp)).kept (kept_alloc _ _)).kept (kept_alloc _ _)).kept (kept_alloc _ _)
 ·exact cell_kept (kept_alloc _ _) (cell_kept (kept_alloc _ _) (cell_of_block (new_at _ _ _ (by simp)) 0 _ rfl))
 ·exact (blkI_at _ _ _ _ _ _ _ _ (by simp)).kept (kept_alloc _ _)
theorem ivS1 {w : World} {b : Nat} {a : RawI} {T : TypeId} {x0 x1 x2 x3 x4 x5 : Value} (h : w.heap[b]? = some (.cells #[x0, x1, x2, x3, x4, x5] T (0, 0))) (h1 : IvR w (.agg #[x0, x1, x2, x3, x4, x5]) a) :
 IvS w (.slice (some ⟨b, 0, none⟩) 1 1) [a] := by
 refine ⟨_, _, rfl, Nat.le_refl _, fun _ => ⟨b, 0, rfl, fun i d hi => ?_⟩⟩
 rcases i with _ | i
 ·simp at hi; subst hi
  exact ⟨_, _, _, _, _, _, cell_of_block h 0 _ rfl, cell_of_block h 1 _ rfl, cell_of_block h 2 _ rfl, cell_of_block h 3 _ rfl, cell_of_block h 4 _ rfl, cell_of_block h 5 _ rfl, h1⟩
 ·simp at hi
theorem ivS2 {w : World} {b : Nat} {a a' : RawI} {T : TypeId} {x0 x1 x2 x3 x4 x5 y0 y1 y2 y3 y4 y5 : Value} (h : w.heap[b]? = some (.cells #[x0, x1, x2, x3, x4, x5, y0, y1, y2, y3, y4, y5] T (0, 0))) (h1 : IvR w (.agg #[x0, x1, x2, x3, x4, x5]) a) (h2 : IvR w (.agg #[y0, y1, y2, y3, y4, y5]) a') :
 IvS w (.slice (some ⟨b, 0, none⟩) 2 2) [a, a'] := by
 refine ⟨_, _, rfl, Nat.le_refl _, fun _ => ⟨b, 0, rfl, fun i d hi => ?_⟩⟩
 rcases i with _ | _ | i
 ·simp at hi; subst hi
  exact ⟨_, _, _, _, _, _, cell_of_block h 0 _ rfl, cell_of_block h 1 _ rfl, cell_of_block h 2 _ rfl, cell_of_block h 3 _ rfl, cell_of_block h 4 _ rfl, cell_of_block h 5 _ rfl, h1⟩
 ·simp at hi; subst hi
  exact ⟨_, _, _, _, _, _, cell_of_block h 6 _ rfl, cell_of_block h 7 _ rfl, cell_of_block h 8 _ rfl, cell_of_block h 9 _ rfl, cell_of_block h 10 _ rfl, cell_of_block h 11 _ rfl, h2⟩
 ·simp at hi
theorem blkIv_of {w : World} {b : Nat} {a : RawI} {A A' : Option Addr} {l c l' c' : Nat} (hr : a.iv.raw = a) (h : BlkI w b (.bool a.lo.neg) (.slice A l c) (.int .i64 a.lo.e) (.bool a.hi.neg) (.slice A' l' c') (.int .i64 a.hi.e))
 (h1 : DyR w (.agg #[.bool a.lo.neg, .slice A l c, .int .i64 a.lo.e]) a.lo) (h2 : DyR w (.agg #[.bool a.hi.neg, .slice A' l' c', .int .i64 a.hi.e]) a.hi) : BlkIv w b a.iv := by
 have e1 : a.iv.lo.raw = a.lo := congrArg RawI.lo hr
 have e2 : a.iv.hi.raw = a.hi := congrArg RawI.hi hr
 exact ⟨A, l, c, A', l', c', h, by rw [e1]; exact h1, by rw [e2]; exact h2⟩
theorem DyR.small {w : World} {v : Value} {r : Raw} (h : DyR w v r) : Small r.m := by
 obtain ⟨s, _, hs, _⟩ := h
 exact hs.1
theorem Add_i {w : World} {v u : Value} {a b : RawI} {p : Int} (hv : IvR w v a) (hu : IvR w u b) (la : a.lens 17592186044416) (lb : b.lens 17592186044416) (hT : Tab w) :
 Calls Tryz.prog 107 #[v, u, .int .i64 p] w (RetIE (faceO p [a, b] (rawO (addI a.iv b.iv p.toNat))) w) := by
 have hmf : ∀ (fn : Fn) (first cap : Array Value) (w : World), (Instr.makeFunc fn first cap).run Tryz.prog w = .ok (.func fn first cap) w := fun _ _ _ _ => rfl
 obtain ⟨A, l, c, A', l', c', rfl, h1, h2⟩ := ivR_split hv
 obtain ⟨B, j, e, B', j', e', rfl, g1, g2⟩ := ivR_split hu
 obtain ⟨W, hW, kW, BA, BB, cp, BR, BL⟩ := boxesA2 w (.bool a.lo.neg) (.slice A l c) (.int .i64 a.lo.e) (.bool a.hi.neg) (.slice A' l' c') (.int .i64 a.hi.e) (.bool b.lo.neg) (.slice B j e) (.int .i64 b.lo.e) (.bool b.hi.neg) (.slice B' j' e') (.int .i64 b.hi.e) (.int .i64 p)
 have hf := face_cA (w := W) (K := 137) (cap := #[.pointer (some ⟨w.heap.size, 0, none⟩), .pointer (some ⟨w.heap.size + 1, 0, none⟩), .pointer (some ⟨w.heap.size + 1 + 1, 0, none⟩)]) (p := p) (l := [a, b]) (o := rawO (addI a.iv b.iv p.toNat))
  (ivS2 BL ⟨_, _, _, _, _, _, rfl, h1.kept kW, h2.kept kW⟩ ⟨_, _, _, _, _, _, rfl, g1.kept kW, g2.kept kW⟩)
  (by intro x hx; simp only [List.mem_cons, List.not_mem_nil, or_false] at hx; rcases hx with rfl | rfl; exact la; exact lb) (by simp)
  (fun p1 p2 hall w1 k => by
    simp only [List.all_cons, List.all_nil, Bool.and_true, Bool.and_eq_true] at hall
    obtain ⟨oa, ra⟩ := iv_clean h1.small h2.small hall.1
    obtain ⟨ob, rb⟩ := iv_clean g1.small g2.small hall.2
    have hp : ((p.toNat : Nat) : Int) = p := Int.toNat_of_nonneg (by omega)
    exact add1_c (p := p.toNat) oa ob (hT.kept (kW.trans k)) (by omega) (by omega) (blkIv_of ra (BA.kept k) (h1.kept (kW.trans k)) (h2.kept (kW.trans k))) (blkIv_of rb (BB.kept k) (g1.kept (kW.trans k)) (g2.kept (kW.trans k))) (by rw [hp]; exact cell_kept k cp))
  (rawO_iz addI_iz) (fun _ => rfl)
 generalize faceO p [a, b] (rawO (addI a.iv b.iv p.toNat)) = o at *
 have HF := Lib.hid hf
 have HW := Lib.hid hW
 have HK := Lib.hid kW
 have HR := Lib.hid BR
 clear hf hW kW BA BB BR BL cp h1 h2 g1 g2 hv hu la lb hT
 generalize a.lo.neg = n1 at *
 generalize a.lo.e = e1 at *
 generalize a.hi.neg = n2 at *
 generalize a.hi.e = e2 at *
 generalize b.lo.neg = n3 at *
 generalize b.lo.e = e3 at *
 generalize b.hi.neg = n4 at *
 generalize b.hi.e = e4 at *
 go_enter Tryz.func107, Tryz.ntmps107
 go_wp2_with (go_at_call 129; rw [← HW.out]; refine HF.out.mono ?_; rintro e w1 ⟨q, u, rfl, hd⟩; obtain ⟨A1, j1, k1', A2, j2, k2', rfl, z1, z2⟩ := ivR_split hd; have Z1 := Lib.hid z1; have Z2 := Lib.hid z2; have hb2 := HR.out.kept q; obtain ⟨hsz, c0, c1, c2, c3, c4, c5⟩ := hb2.facts; obtain ⟨f0, f1, f2, f3, f4, f5⟩ := hb2.free; have HRR := Lib.hid hb2; clear hd hb2 z1 z2)
 exact ret_iv2 (HRR.out.laid _ _ _ _ _ _) rfl rfl rfl ⟨ivW_kept (HK.out.trans q) (by omega), _, rfl, _, _, _, _, _, _, rfl, Z1.out.ivW HRR.out _ _ _ _ _ _, Z2.out.ivW HRR.out _ _ _ _ _ _⟩
theorem Sub_i {w : World} {v u : Value} {a b : RawI} {p : Int} (hv : IvR w v a) (hu : IvR w u b) (la : a.lens 17592186044416) (lb : b.lens 17592186044416) (hT : Tab w) :
 Calls Tryz.prog 108 #[v, u, .int .i64 p] w (RetIE (faceO p [a, b] (rawO (subI a.iv b.iv p.toNat))) w) := by
 have hmf : ∀ (fn : Fn) (first cap : Array Value) (w : World), (Instr.makeFunc fn first cap).run Tryz.prog w = .ok (.func fn first cap) w := fun _ _ _ _ => rfl
 obtain ⟨A, l, c, A', l', c', rfl, h1, h2⟩ := ivR_split hv
 obtain ⟨B, j, e, B', j', e', rfl, g1, g2⟩ := ivR_split hu
 obtain ⟨W, hW, kW, BA, BB, cp, BR, BL⟩ := boxesA2 w (.bool a.lo.neg) (.slice A l c) (.int .i64 a.lo.e) (.bool a.hi.neg) (.slice A' l' c') (.int .i64 a.hi.e) (.bool b.lo.neg) (.slice B j e) (.int .i64 b.lo.e) (.bool b.hi.neg) (.slice B' j' e') (.int .i64 b.hi.e) (.int .i64 p)
 have hf := face_cA (w := W) (K := 139) (cap := #[.pointer (some ⟨w.heap.size, 0, none⟩), .pointer (some ⟨w.heap.size + 1, 0, none⟩), .pointer (some ⟨w.heap.size + 1 + 1, 0, none⟩)]) (p := p) (l := [a, b]) (o := rawO (subI a.iv b.iv p.toNat))
  (ivS2 BL ⟨_, _, _, _, _, _, rfl, h1.kept kW, h2.kept kW⟩ ⟨_, _, _, _, _, _, rfl, g1.kept kW, g2.kept kW⟩)
  (by intro x hx; simp only [List.mem_cons, List.not_mem_nil, or_false] at hx; rcases hx with rfl | rfl; exact la; exact lb) (by simp)
  (fun p1 p2 hall w1 k => by
    simp only [List.all_cons, List.all_nil, Bool.and_true, Bool.and_eq_true] at hall
    obtain ⟨oa, ra⟩ := iv_clean h1.small h2.small hall.1
    obtain ⟨ob, rb⟩ := iv_clean g1.small g2.small hall.2
    have hp : ((p.toNat : Nat) : Int) = p := Int.toNat_of_nonneg (by omega)
    exact isub1_c (p := p.toNat) oa ob (hT.kept (kW.trans k)) (by omega) (by omega) (blkIv_of ra (BA.kept k) (h1.kept (kW.trans k)) (h2.kept (kW.trans k))) (blkIv_of rb (BB.kept k) (g1.kept (kW.trans k)) (g2.kept (kW.trans k))) (by rw [hp]; exact cell_kept k cp))
  (rawO_iz subI_iz) (fun _ => rfl)
 generalize faceO p [a, b] (rawO (subI a.iv b.iv p.toNat)) = o at *
 have HF := Lib.hid hf
 have HW := Lib.hid hW
 have HK := Lib.hid kW
 have HR := Lib.hid BR
 clear hf hW kW BA BB BR BL cp h1 h2 g1 g2 hv hu la lb hT
 generalize a.lo.neg = n1 at *
 generalize a.lo.e = e1 at *
 generalize a.hi.neg = n2 at *
 generalize a.hi.e = e2 at *
 generalize b.lo.neg = n3 at *
 generalize b.lo.e = e3 at *
 generalize b.hi.neg = n4 at *
 generalize b.hi.e = e4 at *
 go_enter Tryz.func108, Tryz.ntmps108
 go_wp2_with (go_at_call 129; rw [← HW.out]; refine HF.out.mono ?_; rintro e w1 ⟨q, u, rfl, hd⟩; obtain ⟨A1, j1, k1', A2, j2, k2', rfl, z1, z2⟩ := ivR_split hd; have Z1 := Lib.hid z1; have Z2 := Lib.hid z2; have hb2 := HR.out.kept q; obtain ⟨hsz, c0, c1, c2, c3, c4, c5⟩ := hb2.facts; obtain ⟨f0, f1, f2, f3, f4, f5⟩ := hb2.free; have HRR := Lib.hid hb2; clear hd hb2 z1 z2)
 exact ret_iv2 (HRR.out.laid _ _ _ _ _ _) rfl rfl rfl ⟨ivW_kept (HK.out.trans q) (by omega), _, rfl, _, _, _, _, _, _, rfl, Z1.out.ivW HRR.out _ _ _ _ _ _, Z2.out.ivW HRR.out _ _ _ _ _ _⟩
theorem Mul_i {w : World} {v u : Value} {a b : RawI} {p : Int} (hv : IvR w v a) (hu : IvR w u b) (la : a.lens 17592186044416) (lb : b.lens 17592186044416) (hT : Tab w) :
 Calls Tryz.prog 109 #[v, u, .int .i64 p] w (RetIE (faceO p [a, b] (rawO (mulI a.iv b.iv p.toNat))) w) := by
 have hmf : ∀ (fn : Fn) (first cap : Array Value) (w : World), (Instr.makeFunc fn first cap).run Tryz.prog w = .ok (.func fn first cap) w := fun _ _ _ _ => rfl
 obtain ⟨A, l, c, A', l', c', rfl, h1, h2⟩ := ivR_split hv
 obtain ⟨B, j, e, B', j', e', rfl, g1, g2⟩ := ivR_split hu
 obtain ⟨W, hW, kW, BA, BB, cp, BR, BL⟩ := boxesA2 w (.bool a.lo.neg) (.slice A l c) (.int .i64 a.lo.e) (.bool a.hi.neg) (.slice A' l' c') (.int .i64 a.hi.e) (.bool b.lo.neg) (.slice B j e) (.int .i64 b.lo.e) (.bool b.hi.neg) (.slice B' j' e') (.int .i64 b.hi.e) (.int .i64 p)
 have hf := face_cA (w := W) (K := 140) (cap := #[.pointer (some ⟨w.heap.size, 0, none⟩), .pointer (some ⟨w.heap.size + 1, 0, none⟩), .pointer (some ⟨w.heap.size + 1 + 1, 0, none⟩)]) (p := p) (l := [a, b]) (o := rawO (mulI a.iv b.iv p.toNat))
  (ivS2 BL ⟨_, _, _, _, _, _, rfl, h1.kept kW, h2.kept kW⟩ ⟨_, _, _, _, _, _, rfl, g1.kept kW, g2.kept kW⟩)
  (by intro x hx; simp only [List.mem_cons, List.not_mem_nil, or_false] at hx; rcases hx with rfl | rfl; exact la; exact lb) (by simp)
  (fun p1 p2 hall w1 k => by
    simp only [List.all_cons, List.all_nil, Bool.and_true, Bool.and_eq_true] at hall
    obtain ⟨oa, ra⟩ := iv_clean h1.small h2.small hall.1
    obtain ⟨ob, rb⟩ := iv_clean g1.small g2.small hall.2
    have hp : ((p.toNat : Nat) : Int) = p := Int.toNat_of_nonneg (by omega)
    exact amul1_c (p := p.toNat) oa ob (hT.kept (kW.trans k)) (by omega) (by omega) (blkIv_of ra (BA.kept k) (h1.kept (kW.trans k)) (h2.kept (kW.trans k))) (blkIv_of rb (BB.kept k) (g1.kept (kW.trans k)) (g2.kept (kW.trans k))) (by rw [hp]; exact cell_kept k cp))
  (rawO_iz mulI_iz) (fun _ => rfl)
 generalize faceO p [a, b] (rawO (mulI a.iv b.iv p.toNat)) = o at *
 have HF := Lib.hid hf
 have HW := Lib.hid hW
 have HK := Lib.hid kW
 have HR := Lib.hid BR
 clear hf hW kW BA BB BR BL cp h1 h2 g1 g2 hv hu la lb hT
 generalize a.lo.neg = n1 at *
 generalize a.lo.e = e1 at *
 generalize a.hi.neg = n2 at *
 generalize a.hi.e = e2 at *
 generalize b.lo.neg = n3 at *
 generalize b.lo.e = e3 at *
 generalize b.hi.neg = n4 at *
 generalize b.hi.e = e4 at *
 go_enter Tryz.func109, Tryz.ntmps109
 go_wp2_with (go_at_call 129; rw [← HW.out]; refine HF.out.mono ?_; rintro e w1 ⟨q, u, rfl, hd⟩; obtain ⟨A1, j1, k1', A2, j2, k2', rfl, z1, z2⟩ := ivR_split hd; have Z1 := Lib.hid z1; have Z2 := Lib.hid z2; have hb2 := HR.out.kept q; obtain ⟨hsz, c0, c1, c2, c3, c4, c5⟩ := hb2.facts; obtain ⟨f0, f1, f2, f3, f4, f5⟩ := hb2.free; have HRR := Lib.hid hb2; clear hd hb2 z1 z2)
 exact ret_iv2 (HRR.out.laid _ _ _ _ _ _) rfl rfl rfl ⟨ivW_kept (HK.out.trans q) (by omega), _, rfl, _, _, _, _, _, _, rfl, Z1.out.ivW HRR.out _ _ _ _ _ _, Z2.out.ivW HRR.out _ _ _ _ _ _⟩
/-- A line of a tape. -/
structure Ln where
 op : Int
 a : Int
 b : Int
 k : RawI
/-- What lines stand for. -/
structure En where
 t : RawI
 x : List RawI
 u : List RawI
 p : List RawI
/-- How many lines an operation leans on. -/
def partsP (op : Int) : Int :=
 if op = 1 ∨ op = 2 ∨ op = 3 ∨ op = 4 ∨ op = 5 then 0 else if op = 6 ∨ op = 7 ∨ op = 8 ∨ op = 9 then 2 else if op = 10 ∨ op = 11 ∨ op = 12 ∨ op = 13 then 1 else -1
def belowP (n most : Int) : Bool := decide (0 ≤ n) && decide (n < most)
def sameI (a b : RawI) : Bool := sameR a.lo b.lo && sameR a.hi b.hi
/-- Whether a line may stand at a place, of so many states, inputs, parameters. -/
def mayL (l : Ln) (at' : Int) (x u p : Int) : Bool :=
 if l.op = 1 then mayI l.k && (decide (l.a = 0) && decide (l.b = 0)) else
 if sameI l.k rzI = false then false else
 if l.op = 2 then decide (l.a = 0) && decide (l.b = 0) else
 if l.op = 3 then belowP l.a x && decide (l.b = 0) else
 if l.op = 4 then belowP l.a u && decide (l.b = 0) else
 if l.op = 5 then belowP l.a p && decide (l.b = 0) else
 if l.op = 6 ∨ l.op = 7 ∨ l.op = 8 ∨ l.op = 9 then belowP l.a at' && belowP l.b at' else
 if l.op = 10 ∨ l.op = 11 ∨ l.op = 12 ∨ l.op = 13 then belowP l.a at' && decide (l.b = 0) else false
/-- .. each of a list, from place i on. -/
def mayLs (x u p : Int) : Nat → List Ln → Bool
 | _, [] => true
 | i, l :: ls => mayL l i x u p && mayLs x u p (i + 1) ls
def mayT (ls : List Ln) (outs : List Int) (x u p : Int) : Bool :=
 decide (ls.length ≤ 200) && decide (outs.length ≤ 200) && mayLs x u p 0 ls && outs.all fun n => belowP n ls.length
def mayE (e : En) : Bool := mayI e.t && e.x.all mayI && e.u.all mayI && e.p.all mayI
def roundI (a : Iv) (p : Nat) : Outc Iv := ends (dirD a.lo p false) (dirD a.hi p true)
/-- What an operation makes of values; ov: what expo.Over makes. -/
def oneI (ov : Iv → Nat → Outc Iv) (op : Int) (a b : Iv) (p : Nat) : Outc Iv :=
 if op = 6 then addI a b p else if op = 7 then subI a b p else if op = 8 then mulI a b p else if op = 9 then divI a b p else
 if op = 10 then negI a p else if op = 11 then sqrI a p else if op = 12 then sqrtI a p else ov a p
def atI (l : List RawI) (n : Int) : Iv := (l.getD n.toNat rzI).iv
/-- A line's value, out: the values of the lines above. -/
def lineI (ov : Iv → Nat → Outc Iv) (e : En) (p : Nat) (out : List RawI) (l : Ln) : Outc Iv :=
 if l.op = 1 then roundI l.k.iv p else if l.op = 2 then roundI e.t.iv p else if l.op = 3 then roundI (atI e.x l.a) p else
 if l.op = 4 then roundI (atI e.u l.a) p else if l.op = 5 then roundI (atI e.p l.a) p else oneI ov l.op (atI out l.a) (atI out l.b) p
/-- The values of lines, behind those of the lines above. -/
def linesI (ov : Iv → Nat → Outc Iv) (e : En) (p : Nat) : List RawI → List Ln → Outc (List RawI)
 | out, [] => ⟨out, 0⟩
 | out, l :: ls => if (lineI ov e p out l).k = 0 then linesI ov e p (out ++ [(lineI ov e p out l).v.raw]) ls else ⟨[], (lineI ov e p out l).k⟩
/-- What tape.Lines tells. -/
def tapeI (ov : Iv → Nat → Outc Iv) (ls : List Ln) (outs : List Int) (e : En) (p : Int) : Outc (List RawI) :=
 if 1 ≤ p ∧ p ≤ 300 ∧ mayT ls outs e.x.length e.u.length e.p.length = true ∧ mayE e = true then linesI ov e p.toNat [] ls else ⟨[], 1⟩
/-- What tape.Eval tells. -/
def evalI (ov : Iv → Nat → Outc Iv) (ls : List Ln) (outs : List Int) (e : En) (p : Int) : Outc (List RawI) :=
 if (tapeI ov ls outs e p).k = 0 then ⟨outs.map fun n => (tapeI ov ls outs e p).v.getD n.toNat rzI, 0⟩ else ⟨[], (tapeI ov ls outs e p).k⟩
theorem roundI_ok {a : Iv} (ha : a.Ok) {p : Nat} (hp : 1 ≤ p) : OkI (roundI a p) := by
 unfold roundI
 refine ends_okI (dirD_ok _ _ _) (dirD_ok _ _ _) fun k1 k2 => ?_
 have d1 := (dirD_down hp k1).le
 have d2 := (dirD_up hp k2).le
 have := ha.le
 grind
/-- Raw intervals that are clean ones. -/
def Cl (l : List RawI) : Prop := ∀ a ∈ l, a.iv.Ok ∧ a.iv.raw = a
theorem cl_raw {a : Iv} (h : a.Ok) : a.raw.iv.Ok ∧ a.raw.iv.raw = a.raw := by rw [Iv.raw_iv]; exact ⟨h, rfl⟩
theorem Cl.snoc {l : List RawI} {a : Iv} (h : Cl l) (ha : a.Ok) : Cl (l ++ [a.raw]) := by
 intro x hx
 rcases List.mem_append.1 hx with hx | hx
 ·exact h x hx
 ·simp at hx; subst hx; exact cl_raw ha
theorem rzI_iv : rzI.iv = iz := rfl
theorem Cl.at {l : List RawI} (h : Cl l) (n : Int) : (atI l n).Ok := by
 unfold atI
 rw [List.getD_eq_getElem?_getD]
 cases hi : l[n.toNat]? with
 | none => simp only [Option.getD_none]; rw [rzI_iv]; exact iz_ok
 | some a => simp only [Option.getD_some]; exact (h a (List.mem_of_getElem? hi)).1
structure En.Cl (e : En) : Prop where
 t : e.t.iv.Ok ∧ e.t.iv.raw = e.t
 x : Go.Proofs.YtgododcbmkpbjaaGreatDoor.Cl e.x
 u : Go.Proofs.YtgododcbmkpbjaaGreatDoor.Cl e.u
 p : Go.Proofs.YtgododcbmkpbjaaGreatDoor.Cl e.p
theorem oneI_ok {ov : Iv → Nat → Outc Iv} {op : Int} {a b : Iv} (ha : a.Ok) (hb : b.Ok) {p : Nat} (hp : 1 ≤ p) (hov : ¬ (6 ≤ op ∧ op ≤ 12) → OkI (ov a p)) : OkI (oneI ov op a b p) := by
 unfold oneI
 split
 ·exact addI_ok ha hb hp
 split
 ·exact subI_ok ha hb hp
 split
 ·exact mulI_ok hp
 split
 ·exact divI_ok hb hp
 split
 ·exact negI_ok ha hp
 split
 ·exact sqrI_ok hp
 split
 ·exact sqrtI_ok ha hp
 ·exact hov (by omega)
theorem lineI_ok {ov : Iv → Nat → Outc Iv} {e : En} {p : Nat} {out : List RawI} {l : Ln} (he : e.Cl) (ho : Go.Proofs.YtgododcbmkpbjaaGreatDoor.Cl out) (hk : l.op = 1 → l.k.iv.Ok) (hp : 1 ≤ p)
 (hov : ¬ (1 ≤ l.op ∧ l.op ≤ 12) → ∀ a, a.Ok → OkI (ov a p)) : OkI (lineI ov e p out l) := by
 unfold lineI
 split
 ·rename_i h; exact roundI_ok (hk h) hp
 split
 ·exact roundI_ok he.t.1 hp
 split
 ·exact roundI_ok (he.x.at _) hp
 split
 ·exact roundI_ok (he.u.at _) hp
 split
 ·exact roundI_ok (he.p.at _) hp
 ·exact oneI_ok (ho.at _) (ho.at _) hp (fun h => hov (by omega) _ (ho.at _))
theorem faceO_ok {p : Int} {l : List RawI} {o : Outc RawI} (p1 : 1 ≤ p) (p2 : p ≤ 2000) (h : l.all mayI = true) : faceO p l o = o := by unfold faceO; rw [if_pos ⟨p1, p2, h⟩]
theorem Add_k {w : World} {v u : Value} {a b : Iv} {p : Nat} (hv : IvC w v a) (hu : IvC w u b) (ha : a.Ok) (hb : b.Ok) (hT : Tab w) (p1 : 1 ≤ p) (p2 : p ≤ 2000) :
 Calls Tryz.prog 107 #[v, u, .int .i64 p] w (RetIE (rawO (addI a b p)) w) := by
 have h := Add_i (p := (p : Int)) hv hu (iv_lens ha) (iv_lens hb) hT
 rw [faceO_ok (by omega) (by omega) (by simp [mayI_raw ha, mayI_raw hb]), Iv.raw_iv, Iv.raw_iv, Int.toNat_natCast] at h
 exact h
theorem Sub_k {w : World} {v u : Value} {a b : Iv} {p : Nat} (hv : IvC w v a) (hu : IvC w u b) (ha : a.Ok) (hb : b.Ok) (hT : Tab w) (p1 : 1 ≤ p) (p2 : p ≤ 2000) :
 Calls Tryz.prog 108 #[v, u, .int .i64 p] w (RetIE (rawO (subI a b p)) w) := by
 have h := Sub_i (p := (p : Int)) hv hu (iv_lens ha) (iv_lens hb) hT
 rw [faceO_ok (by omega) (by omega) (by simp [mayI_raw ha, mayI_raw hb]), Iv.raw_iv, Iv.raw_iv, Int.toNat_natCast] at h
 exact h
theorem Mul_k {w : World} {v u : Value} {a b : Iv} {p : Nat} (hv : IvC w v a) (hu : IvC w u b) (ha : a.Ok) (hb : b.Ok) (hT : Tab w) (p1 : 1 ≤ p) (p2 : p ≤ 2000) :
 Calls Tryz.prog 109 #[v, u, .int .i64 p] w (RetIE (rawO (mulI a b p)) w) := by
 have h := Mul_i (p := (p : Int)) hv hu (iv_lens ha) (iv_lens hb) hT
 rw [faceO_ok (by omega) (by omega) (by simp [mayI_raw ha, mayI_raw hb]), Iv.raw_iv, Iv.raw_iv, Int.toNat_natCast] at h
 exact h
theorem limbs1 : limbs 1 = [1] := by rw [limbs_pos 1 (by decide)]; simp [limbs_zero]
def dm : Dy := ⟨true, 1, 0⟩
def dt : Dy := ⟨false, 1, 1⟩
def d1 : Dy := ⟨false, 1, 0⟩
def d4 : Dy := ⟨false, 1, 2⟩
theorem one_ok (n : Bool) (e : Int) (h1 : -1048576 ≤ e) (h2 : e ≤ 1048576) : (Dy.mk n 1 e).Ok := ⟨by simp [limbs1], fun h => absurd h (by simp), fun _ => rfl, h1, h2⟩
theorem dt_ok : dt.Ok := one_ok _ _ (by decide) (by decide)
theorem d1_ok : d1.Ok := one_ok _ _ (by decide) (by decide)
theorem fit_1 : fitD false 1 0 = ⟨d1, 0⟩ := fitD_self d1_ok
theorem fit_t : fitD false 2 0 = ⟨dt, 0⟩ := by
 have ht : tz 2 = 1 := tz_unique 2 1 1 rfl rfl
 unfold fitD
 rw [ht]
 rw [if_neg (by decide), if_neg (by simp [limbs1]), if_neg (by decide), if_neg (by decide)]
 rfl
def mt : Iv := ⟨dm, dt⟩
def R4 : Raw := ⟨false, [1], 2⟩
def opI (op : Int) (a b : Iv) (p : Nat) : Outc Iv := if op = 6 then addI a b p else if op = 7 then subI a b p else if op = 8 then mulI a b p else if op = 9 then divI a b p else negI a p
/-- An operation, where there is no error yet. -/
def doI (op : Int) (a b : Iv) (p : Nat) (e : Int) : Outc Iv := if e = 0 then opI op a b p else ⟨iz, e⟩
def two : Iv := pt dt
/-- A line's derivative: a, b, c the values of its lines and its own, da, db the derivatives; e the error so far. -/
def oneS (p : Nat) (op : Int) (a b c da db : Iv) (e : Int) : Outc Iv :=
 if op = 6 ∨ op = 7 ∨ op = 10 then doI op da db p e else
 if op = 8 then doI 6 (doI 8 da b p e).v (doI 8 a db p (doI 8 da b p e).k).v p (doI 8 a db p (doI 8 da b p e).k).k else
 if op = 9 then doI 9 (doI 7 da (doI 8 c db p e).v p (doI 8 c db p e).k).v b p (doI 7 da (doI 8 c db p e).v p (doI 8 c db p e).k).k else
 if op = 11 then doI 8 (doI 8 two a p e).v da p (doI 8 two a p e).k else
 if op = 12 then doI 9 da (doI 8 two c p e).v p (doI 8 two c p e).k else
 if op = 13 then doI 8 c da p e else ⟨iz, e⟩
/-- .. by each state. -/
def rowG (p : Nat) (op : Int) (a b c : Iv) : List RawI → List RawI → Int → List RawI × Int
 | da :: l, db :: m, e => ((oneS p op a b c da.iv db.iv e).v.raw :: (rowG p op a b c l m (oneS p op a b c da.iv db.iv e).k).1, (rowG p op a b c l m (oneS p op a b c da.iv db.iv e).k).2)
 | _, _, e => ([], e)
def derivS (p nx : Nat) (v : List RawI) (all : List (List RawI)) (l : Ln) : List RawI × Int :=
 if l.op = 1 ∨ l.op = 2 ∨ l.op = 4 ∨ l.op = 5 then (List.replicate nx rzI, 0) else
 if l.op = 3 then ((List.replicate nx rzI).set l.a.toNat (pt d1).raw, 0) else
 rowG p l.op (atI v l.a) (atI v l.b) (atI v all.length) (all.getD l.a.toNat []) (all.getD l.b.toNat []) 0
def gradS (p nx : Nat) (v : List RawI) : List (List RawI) → List Ln → Outc (List (List RawI))
 | all, [] => ⟨all, 0⟩
 | all, l :: ls => if (derivS p nx v all l).2 = 0 then gradS p nx v (all ++ [(derivS p nx v all l).1]) ls else ⟨[], (derivS p nx v all l).2⟩
/-- What slope.Grad tells: the outs' values, their derivatives. -/
def gradI (ov : Iv → Nat → Outc Iv) (ls : List Ln) (outs : List Int) (e : En) (p : Int) : Outc (List RawI × List (List RawI)) :=
 if (tapeI ov ls outs e p).k ≠ 0 then ⟨([], []), (tapeI ov ls outs e p).k⟩ else
 if (gradS p.toNat e.x.length (tapeI ov ls outs e p).v [] ls).k ≠ 0 then ⟨([], []), (gradS p.toNat e.x.length (tapeI ov ls outs e p).v [] ls).k⟩ else
 ⟨(outs.map fun n => (tapeI ov ls outs e p).v.getD n.toNat rzI, outs.map fun n => (gradS p.toNat e.x.length (tapeI ov ls outs e p).v [] ls).v.getD n.toNat []), 0⟩
/-- z times 2^e. -/
def dyz (z : Int) (e : Int) : Dy := (fitD (decide (z < 0)) z.natAbs e).v
/-- Small ones. -/
def SmZ (z : Int) (e : Int) : Prop := z.natAbs < 2 ^ 60 ∧ -40 ≤ e ∧ e ≤ 0
theorem sq_int (z : Int) : sq (decide (z < 0)) z.natAbs = (z : Rat) := by
 unfold sq
 by_cases h : z < 0
 ·rw [if_pos (by simpa using h)]
  obtain ⟨n, rfl⟩ : ∃ n : Nat, z = -(n : Int) := ⟨z.natAbs, by omega⟩
  rw [Int.natAbs_neg, Int.natAbs_natCast, Rat.intCast_neg]; rfl
 ·rw [if_neg (by simpa using h)]
  obtain ⟨n, rfl⟩ : ∃ n : Nat, z = (n : Int) := ⟨z.natAbs, by omega⟩
  rw [Int.natAbs_natCast]; rfl
theorem dyz_fit {z e : Int} (h : SmZ z e) : fitD (decide (z < 0)) z.natAbs e = ⟨dyz z e, 0⟩ := by
 obtain ⟨h1, h2, h3⟩ := h
 have hb := bl_le _ _ h1
 have := (fitD_small (neg := decide (z < 0)) (n := z.natAbs) (e := e) (by omega) (by omega) (by omega)).1
 unfold dyz
 generalize fitD (decide (z < 0)) z.natAbs e = o at *
 cases o with | mk v k => simp only at this; subst this; rfl
theorem dyz_ok (z e : Int) : (dyz z e).Ok := (fitD_ok _ _ _).1
theorem dyz_q {z e : Int} (h : SmZ z e) : (dyz z e).q = (z : Rat) * pw e := by
 have := fitD_q (neg := decide (z < 0)) (n := z.natAbs) (e := e) (by rw [dyz_fit h])
 rw [sq_int] at this
 exact this
theorem dyz_bl {z e : Int} {p : Nat} (h : z.natAbs < 2 ^ p) : bl (dyz z e).m ≤ p := by
 unfold dyz fitD
 by_cases h0 : z.natAbs = 0
 ·rw [if_pos h0]; show bl dz.m ≤ p; simp [dz, bl]
 ·rw [if_neg h0]
  have : bl (z.natAbs / 2 ^ tz z.natAbs) ≤ p := Nat.le_trans (bl_mono (Nat.div_le_self _ _)) (bl_le _ _ h)
  split
  ·show bl dz.m ≤ p; simp [dz, bl]
  ·split
   ·show bl dz.m ≤ p; simp [dz, bl]
   ·split
    ·show bl dz.m ≤ p; simp [dz, bl]
    ·exact this
theorem dyz_few {z e : Int} (h : SmZ z e) : Few (dyz z e) 128 100 := by
 obtain ⟨h1, h2, h3⟩ := h
 refine ⟨dyz_ok z e, Nat.le_trans (dyz_bl (p := 60) h1) (by decide), ?_, ?_⟩
 ·unfold dyz fitD
  by_cases h0 : z.natAbs = 0
  ·rw [if_pos h0]; decide
  ·rw [if_neg h0]
   split
   ·decide
   ·split
    ·decide
    ·split
     ·decide
     ·simp only [good]; omega
 ·unfold dyz fitD
  by_cases h0 : z.natAbs = 0
  ·rw [if_pos h0]; decide
  ·rw [if_neg h0]
   have ht : tz z.natAbs < bl z.natAbs := tz_lt _ _ h0 (lt_two_bl _)
   have hb := bl_le _ _ h1
   split
   ·decide
   ·split
    ·decide
    ·split
     ·decide
     ·simp only [good]; omega
theorem dyz_eq {d : Dy} {z e : Int} (h : d.Ok) (hz : SmZ z e) (hq : d.q = (z : Rat) * pw e) : d = dyz z e :=
 q_inj h (dyz_ok z e) (hq.trans (dyz_q hz).symm)
theorem dyz_sum {a b e : Int} (ha : SmZ a e) (hb : SmZ b e) (hab : SmZ (a + b) e) : sumD (dyz a e) (dyz b e) = ⟨dyz (a + b) e, 0⟩ := by
 obtain ⟨h1, h2, -⟩ := sumD_few (dyz_few ha) (dyz_few hb)
 have hq := sumD_q h1
 rw [dyz_q ha, dyz_q hb] at hq
 have he := dyz_eq h2 hab (by rw [hq, Rat.intCast_add]; grind)
 generalize sumD (dyz a e) (dyz b e) = o at *
 cases o with | mk v k => simp only at h1 he; subst h1 he; rfl
theorem dyz_mul {a b e f : Int} (ha : SmZ a e) (hb : SmZ b f) (hab : SmZ (a * b) (e + f)) : mulD (dyz a e) (dyz b f) = ⟨dyz (a * b) (e + f), 0⟩ := by
 obtain ⟨h1, h2, -⟩ := mulD_few (dyz_few ha) (dyz_few hb)
 have hq := mulD_q h1
 rw [dyz_q ha, dyz_q hb] at hq
 have he := dyz_eq h2 hab (by rw [hq, Rat.intCast_mul, pw_add]; grind)
 generalize mulD (dyz a e) (dyz b f) = o at *
 cases o with | mk v k => simp only at h1 he; subst h1 he; rfl
theorem dyz_neg {a e : Int} (ha : SmZ a e) : negD (dyz a e) = dyz (-a) e := by
 refine dyz_eq (negD_ok (dyz_ok a e)) ⟨by have := ha.1; omega, ha.2⟩ ?_
 rw [negD_q, dyz_q ha, Rat.intCast_neg]; grind
theorem dyz_addI {a b e : Int} {p : Nat} (ha : SmZ a e) (hb : SmZ b e) (hab : SmZ (a + b) e) (hp : (a + b).natAbs < 2 ^ p) : addI (pt (dyz a e)) (pt (dyz b e)) p = ⟨pt (dyz (a + b) e), 0⟩ := by
 unfold addI pt
 simp only
 rw [dyz_sum ha hb hab, rndD_exact (o := ⟨dyz (a + b) e, 0⟩) rfl (dyz_ok _ _) (dyz_bl hp), rndD_exact (o := ⟨dyz (a + b) e, 0⟩) rfl (dyz_ok _ _) (dyz_bl hp)]; rfl
theorem dyz_subI {a b e : Int} {p : Nat} (ha : SmZ a e) (hb : SmZ b e) (hab : SmZ (a - b) e) (hp : (a - b).natAbs < 2 ^ p) : subI (pt (dyz a e)) (pt (dyz b e)) p = ⟨pt (dyz (a - b) e), 0⟩ := by
 have hn : SmZ (-b) e := ⟨by have := hb.1; omega, hb.2⟩
 rw [Int.sub_eq_add_neg] at hab hp ⊢
 have := dyz_addI ha hn hab hp
 rw [← dyz_neg hb] at this
 exact this
theorem dyz_mulI {a b e f : Int} {p : Nat} (ha : SmZ a e) (hb : SmZ b f) (hab : SmZ (a * b) (e + f)) (hp : (a * b).natAbs < 2 ^ p) : mulI (pt (dyz a e)) (pt (dyz b f)) p = ⟨pt (dyz (a * b) (e + f)), 0⟩ := by
 have h := dyz_mul ha hb hab
 unfold mulI pt
 simp only
 rw [h, four_all rfl rfl rfl rfl, leastD_same _ _ (by simp), greatestD_same _ _ (by simp), dirD_exact (dyz_ok _ _) (dyz_bl hp), dirD_exact (dyz_ok _ _) (dyz_bl hp)]; rfl
theorem dyz_round {a e : Int} {p : Nat} (hp : a.natAbs < 2 ^ p) : roundI (pt (dyz a e)) p = ⟨pt (dyz a e), 0⟩ := by
 unfold roundI pt
 simp only
 rw [dirD_exact (dyz_ok _ _) (dyz_bl hp), dirD_exact (dyz_ok _ _) (dyz_bl hp)]; rfl
theorem dyz_one : dyz 1 0 = d1 := by
 have : fitD false 1 0 = ⟨d1, 0⟩ := fit_1
 unfold dyz
 exact congrArg Outc.v this
theorem lineI1 (ov : Iv → Nat → Outc Iv) (e : En) (p : Nat) (out : List RawI) (a b : Int) (k : RawI) : lineI ov e p out ⟨1, a, b, k⟩ = roundI k.iv p := rfl
theorem lineI3 (ov : Iv → Nat → Outc Iv) (e : En) (p : Nat) (out : List RawI) (a b : Int) (k : RawI) : lineI ov e p out ⟨3, a, b, k⟩ = roundI (atI e.x a) p := rfl
theorem lineI7 (ov : Iv → Nat → Outc Iv) (e : En) (p : Nat) (out : List RawI) (a b : Int) (k : RawI) : lineI ov e p out ⟨7, a, b, k⟩ = subI (atI out a) (atI out b) p := rfl
theorem lineI8 (ov : Iv → Nat → Outc Iv) (e : En) (p : Nat) (out : List RawI) (a b : Int) (k : RawI) : lineI ov e p out ⟨8, a, b, k⟩ = mulI (atI out a) (atI out b) p := rfl
theorem derivS1 (p nx : Nat) (v : List RawI) (all : List (List RawI)) (a b : Int) (k : RawI) : derivS p nx v all ⟨1, a, b, k⟩ = (List.replicate nx rzI, 0) := rfl
theorem derivS3 (p nx : Nat) (v : List RawI) (all : List (List RawI)) (a b : Int) (k : RawI) : derivS p nx v all ⟨3, a, b, k⟩ = ((List.replicate nx rzI).set a.toNat (pt d1).raw, 0) := rfl
theorem derivS7 (p nx : Nat) (v : List RawI) (all : List (List RawI)) (a b : Int) (k : RawI) : derivS p nx v all ⟨7, a, b, k⟩ = rowG p 7 (atI v a) (atI v b) (atI v all.length) (all.getD a.toNat []) (all.getD b.toNat []) 0 := rfl
theorem derivS8 (p nx : Nat) (v : List RawI) (all : List (List RawI)) (a b : Int) (k : RawI) : derivS p nx v all ⟨8, a, b, k⟩ = rowG p 8 (atI v a) (atI v b) (atI v all.length) (all.getD a.toNat []) (all.getD b.toNat []) 0 := rfl
theorem oneS7 (p : Nat) (a b c da db : Iv) : oneS p 7 a b c da db 0 = subI da db p := rfl
theorem oneS8 {p : Nat} {a b c da db x y : Iv} (h1 : mulI da b p = ⟨x, 0⟩) (h2 : mulI a db p = ⟨y, 0⟩) : oneS p 8 a b c da db 0 = addI x y p := by
 have e1 : doI 8 da b p 0 = ⟨x, 0⟩ := h1
 have e2 : doI 8 a db p 0 = ⟨y, 0⟩ := h2
 show doI 6 (doI 8 da b p 0).v (doI 8 a db p (doI 8 da b p 0).k).v p (doI 8 a db p (doI 8 da b p 0).k).k = _
 rw [e1]; simp only; rw [e2]; rfl
end Go.Proofs.YtgododcbmkpbjaaGreatDoor
namespace Go.Proofs.YtgododcbmkpbjaaGreatDoor
/-- A Dyad of the grain 2^-A, below 2^B. -/
structure Rg (d : Dy) (A B : Int) : Prop where
 ok : d.Ok
 lo : d.m ≠ 0 → -A ≤ d.e
 hi : d.m ≠ 0 → bl d.m + d.e ≤ B
theorem Rg.zero (A B : Int) : Rg dz A B := ⟨dz_ok, fun h => absurd rfl h, fun h => absurd rfl h⟩
theorem Rg.mono {d : Dy} {A B A' B' : Int} (h : Rg d A B) (hA : A ≤ A') (hB : B ≤ B') : Rg d A' B' := ⟨h.ok, fun h0 => by have := h.lo h0; omega, fun h0 => by have := h.hi h0; omega⟩
theorem Rg.neg {d : Dy} {A B : Int} (h : Rg d A B) : Rg (negD d) A B := by
 refine ⟨negD_ok h.ok, ?_, ?_⟩ <;> unfold negD <;> split <;> first | exact h.lo | exact h.hi
theorem fitD_rg {neg : Bool} {n : Nat} {e A B : Int} (h1 : n ≠ 0 → -A ≤ e) (h2 : n ≠ 0 → bl n + e ≤ B) (hb : bl n ≤ 4000) (hA : A ≤ 100000) (hB : B ≤ 100000) :
 (fitD neg n e).k = 0 ∧ Rg (fitD neg n e).v A B := by
 have ok := (fitD_ok neg n e).1
 by_cases h0 : n = 0
 ·subst h0; exact ⟨rfl, Rg.zero _ _⟩
 ·have h1 := h1 h0
  have h2 := h2 h0
  have ht : tz n < bl n := tz_lt n (bl n) h0 (lt_two_bl n)
  have hd : bl (n / 2 ^ tz n) = bl n - tz n := bl_div _ _
  have hl : (limbs (n / 2 ^ tz n)).length ≤ 64 := limbs_len (k := 64) (by omega)
  unfold fitD at ok ⊢
  rw [if_neg h0, if_neg (by omega), if_neg (by omega), if_neg (by omega)] at ok ⊢
  exact ⟨rfl, ok, fun _ => by show -A ≤ e + tz n; omega, fun _ => by show (bl (n / 2 ^ tz n) : Int) + (e + tz n) ≤ B; omega⟩
theorem cutD_rg {neg : Bool} {m : Nat} {e A B : Int} {rest : Bool} {p : Nat} {up : Bool} (h1 : m ≠ 0 → -A ≤ e) (h2 : m ≠ 0 → bl m + e ≤ B) (h0 : rest = true → p < bl m) (hp : p ≤ 2000) (hA : A ≤ 100000) (hB : B ≤ 99999) :
 (cutD neg m e rest p up).k = 0 ∧ Rg (cutD neg m e rest p up).v A (B + 1) := by
 unfold cutD
 have hb : bl (m / 2 ^ (bl m - p)) = bl m - (bl m - p) := bl_div _ _
 have h2' : cutM m rest p (up != neg) ≤ m / 2 ^ (bl m - p) + 1 := by
  unfold cutM cutN
  simp only
  split <;> omega
 have h3 := lt_two_bl (m / 2 ^ (bl m - p))
 have h6 : bl (cutM m rest p (up != neg)) ≤ bl (m / 2 ^ (bl m - p)) + 1 := bl_le _ _ (by
  have := Nat.two_pow_succ (bl (m / 2 ^ (bl m - p)))
  have := Nat.two_pow_pos (bl (m / 2 ^ (bl m - p)))
  generalize m / 2 ^ (bl m - p) = z at *
  omega)
 by_cases hm : m = 0
 ·have hr : rest = false := by
   cases rest with
   | false => rfl
   | true => have := h0 rfl; rw [hm, bl_zero] at this; omega
  subst hm hr
  have : cutM 0 false p (up != neg) = 0 := by unfold cutM cutN; simp [bl]
  rw [this]
  exact ⟨rfl, Rg.zero _ _⟩
 ·have := h1 hm
  have := h2 hm
  exact fitD_rg (fun _ => by omega) (fun _ => by omega) (by omega) hA (by omega)
theorem dirD_rg {d : Dy} {A B : Int} {p : Nat} {up : Bool} (h : Rg d A B) (hp : p ≤ 2000) (hA : A ≤ 100000) (hB : B ≤ 99999) : (dirD d p up).k = 0 ∧ Rg (dirD d p up).v A (B + 1) :=
 cutD_rg h.lo h.hi (fun h => by cases h) hp hA hB
theorem sumC_rg {a b : Dy} {A B : Int} (ha : Rg a A B) (hb : Rg b A B) (ma : a.m ≠ 0) (mb : b.m ≠ 0) (h : b.e ≤ a.e) (hA : A ≤ 100000) (hB : B ≤ 99990) (hAB : A + B ≤ 3900) : (sumC a b).k = 0 ∧ Rg (sumC a b).v A (B + 2) := by
 have a1 := ha.lo ma
 have a2 := ha.hi ma
 have b1 := hb.lo mb
 have b2 := hb.hi mb
 have hk : bl (2 ^ (a.e - b.e).toNat) ≤ (a.e - b.e).toNat + 1 := bl_le _ _ (Nat.pow_lt_pow_right (by decide) (by omega))
 have hm := mul_lt_bl (Nat.le_refl (bl a.m)) hk
 obtain ⟨M, hM⟩ : ∃ M, M = max (bl a.m + ((a.e - b.e).toNat + 1)) (bl b.m) := ⟨_, rfl⟩
 have hs : bl (a.m * 2 ^ (a.e - b.e).toNat + b.m) ≤ M + 1 := add_bl (by omega) (by omega)
 have hd : bl (a.m * 2 ^ (a.e - b.e).toNat - b.m) ≤ M + 1 := Nat.le_trans (bl_mono (Nat.le_trans (Nat.sub_le _ _) (Nat.le_add_right _ b.m))) hs
 have hd' : bl (b.m - a.m * 2 ^ (a.e - b.e).toNat) ≤ M + 1 := Nat.le_trans (bl_mono (Nat.le_trans (Nat.sub_le _ _) (Nat.le_add_left b.m (a.m * 2 ^ (a.e - b.e).toNat)))) hs
 have hM2 : (M : Int) + 1 + b.e ≤ B + 2 := by omega
 unfold sumC
 rw [if_neg (by omega)]
 split
 ·exact fitD_rg (fun _ => b1) (fun _ => by omega) (by omega) hA (by omega)
 ·split
  ·exact fitD_rg (fun _ => b1) (fun _ => by omega) (by omega) hA (by omega)
  ·exact fitD_rg (fun _ => b1) (fun _ => by omega) (by omega) hA (by omega)
theorem sumD_rg {x y : Dy} {A B : Int} (hx : Rg x A B) (hy : Rg y A B) (hA : A ≤ 100000) (hB : B ≤ 99990) (hAB : A + B ≤ 3900) : (sumD x y).k = 0 ∧ Rg (sumD x y).v A (B + 2) := by
 unfold sumD
 by_cases h1 : x.m = 0
 ·rw [if_pos h1]; exact ⟨rfl, hy.mono (Int.le_refl _) (by omega)⟩
 ·rw [if_neg h1]
  by_cases h2 : y.m = 0
  ·rw [if_pos h2]; exact ⟨rfl, hx.mono (Int.le_refl _) (by omega)⟩
  ·rw [if_neg h2]
   split
   ·exact sumC_rg hy hx h2 h1 (by omega) hA hB hAB
   ·exact sumC_rg hx hy h1 h2 (by omega) hA hB hAB
theorem mulD_rg {x y : Dy} {A B A' B' : Int} (hx : Rg x A B) (hy : Rg y A' B') (hA : A + A' ≤ 100000) (hB : B + B' ≤ 100000) (h : A + B + A' + B' ≤ 4000) : (mulD x y).k = 0 ∧ Rg (mulD x y).v (A + A') (B + B') := by
 by_cases h1 : x.m = 0
 ·unfold mulD; rw [h1, Nat.zero_mul]; exact ⟨rfl, Rg.zero _ _⟩
 ·by_cases h2 : y.m = 0
  ·unfold mulD; rw [h2, Nat.mul_zero]; exact ⟨rfl, Rg.zero _ _⟩
  ·have := hx.lo h1
   have := hx.hi h1
   have := hy.lo h2
   have := hy.hi h2
   have hb := mul_lt_bl (Nat.le_refl (bl x.m)) (Nat.le_refl (bl y.m))
   exact fitD_rg (fun _ => by omega) (fun _ => by omega) (by omega) hA hB
/-- Both ends of an interval. -/
structure RgI (a : Iv) (A B : Int) : Prop where
 lo : Rg a.lo A B
 hi : Rg a.hi A B
theorem RgI.mono {a : Iv} {A B A' B' : Int} (h : RgI a A B) (hA : A ≤ A') (hB : B ≤ B') : RgI a A' B' := ⟨h.lo.mono hA hB, h.hi.mono hA hB⟩
theorem RgI.pt {d : Dy} {A B : Int} (h : Rg d A B) : RgI (pt d) A B := ⟨h, h⟩
theorem RgI.zero (A B : Int) : RgI iz A B := ⟨Rg.zero _ _, Rg.zero _ _⟩
def GoodI (o : Outc Iv) (A B : Int) : Prop := o.k = 0 ∧ RgI o.v A B
theorem GoodI.mono {o : Outc Iv} {A B A' B' : Int} (h : GoodI o A B) (hA : A ≤ A') (hB : B ≤ B') : GoodI o A' B' := ⟨h.1, h.2.mono hA hB⟩
theorem ends_rg {lo hi : Outc Dy} {A B : Int} (h1 : lo.k = 0 ∧ Rg lo.v A B) (h2 : hi.k = 0 ∧ Rg hi.v A B) : GoodI (ends lo hi) A B := by
 unfold ends
 rw [Outc.bind_of _ _ h1.1, Outc.bind_of _ _ h2.1]
 exact ⟨rfl, h1.2, h2.2⟩
theorem rndD_rg {o : Outc Dy} {A B : Int} {p : Nat} {up : Bool} (h : o.k = 0 ∧ Rg o.v A B) (hp : p ≤ 2000) (hA : A ≤ 100000) (hB : B ≤ 99999) : (rndD o p up).k = 0 ∧ Rg (rndD o p up).v A (B + 1) := by
 unfold rndD
 rw [Outc.bind_of _ _ h.1]
 exact dirD_rg h.2 hp hA hB
theorem addI_rg {a b : Iv} {A B : Int} {p : Nat} (ha : RgI a A B) (hb : RgI b A B) (hp : p ≤ 2000) (hA : A ≤ 100000) (hB : B ≤ 99990) (hAB : A + B ≤ 3900) : GoodI (addI a b p) A (B + 3) := by
 have e : B + 3 = (B + 2) + 1 := by omega
 rw [e]
 exact ends_rg (rndD_rg (sumD_rg ha.lo hb.lo hA hB hAB) hp hA (by omega)) (rndD_rg (sumD_rg ha.hi hb.hi hA hB hAB) hp hA (by omega))
theorem subI_rg {a b : Iv} {A B : Int} {p : Nat} (ha : RgI a A B) (hb : RgI b A B) (hp : p ≤ 2000) (hA : A ≤ 100000) (hB : B ≤ 99990) (hAB : A + B ≤ 3900) : GoodI (subI a b p) A (B + 3) :=
 addI_rg (b := ⟨negD b.hi, negD b.lo⟩) ha ⟨hb.hi.neg, hb.lo.neg⟩ hp hA hB hAB
theorem roundI_rg {a : Iv} {A B : Int} {p : Nat} (ha : RgI a A B) (hp : p ≤ 2000) (hA : A ≤ 100000) (hB : B ≤ 99990) : GoodI (roundI a p) A (B + 1) :=
 ends_rg (dirD_rg ha.lo hp hA (by omega)) (dirD_rg ha.hi hp hA (by omega))
theorem least4_rg {x y z u : Dy} {A B : Int} (hx : Rg x A B) (hy : Rg y A B) (hz : Rg z A B) (hu : Rg u A B) : Rg (leastD x [x, y, z, u]) A B := by
 rcases least4_mem (x := x) (y := y) (z := z) (u := u) with h | h | h | h <;> rw [h] <;> assumption
theorem greatest4_rg {x y z u : Dy} {A B : Int} (hx : Rg x A B) (hy : Rg y A B) (hz : Rg z A B) (hu : Rg u A B) : Rg (greatestD x [x, y, z, u]) A B := by
 rcases greatest4_mem (x := x) (y := y) (z := z) (u := u) with h | h | h | h <;> rw [h] <;> assumption
theorem mulI_rg {a b : Iv} {A B A' B' : Int} {p : Nat} (ha : RgI a A B) (hb : RgI b A' B') (hp : p ≤ 2000) (hA : A + A' ≤ 100000) (hB : B + B' ≤ 99990) (h : A + B + A' + B' ≤ 4000) : GoodI (mulI a b p) (A + A') (B + B' + 1) := by
 obtain ⟨k1, r1⟩ := mulD_rg ha.lo hb.lo hA (by omega) h
 obtain ⟨k2, r2⟩ := mulD_rg ha.lo hb.hi hA (by omega) h
 obtain ⟨k3, r3⟩ := mulD_rg ha.hi hb.lo hA (by omega) h
 obtain ⟨k4, r4⟩ := mulD_rg ha.hi hb.hi hA (by omega) h
 unfold mulI
 rw [four_all k1 k2 k3 k4]
 exact ends_rg (dirD_rg (least4_rg r1 r2 r3 r4) hp hA (by omega)) (dirD_rg (greatest4_rg r1 r2 r3 r4) hp hA (by omega))
/-- A number lies in an interval. -/
def In (x : Rat) (a : Iv) : Prop := a.lo.q ≤ x ∧ x ≤ a.hi.q
theorem in_pt (d : Dy) : In d.q (pt d) := ⟨Rat.le_refl, Rat.le_refl⟩
theorem in_iz : In 0 iz := by rw [← dz_q]; exact in_pt dz
theorem add_in {a b : Iv} {x y : Rat} {p : Nat} (hp : 1 ≤ p) (hk : (addI a b p).k = 0) (hx : In x a) (hy : In y b) : In (x + y) (addI a b p).v := by
 obtain ⟨d1, d2⟩ := addI_spec hp hk
 have h1 := d1.le
 have h2 := d2.le
 obtain ⟨x1, x2⟩ := hx
 obtain ⟨y1, y2⟩ := hy
 exact ⟨by grind, by grind⟩
theorem sub_in {a b : Iv} {x y : Rat} {p : Nat} (hp : 1 ≤ p) (hk : (subI a b p).k = 0) (hx : In x a) (hy : In y b) : In (x - y) (subI a b p).v := by
 obtain ⟨d1, d2⟩ := subI_spec hp hk
 have h1 := d1.le
 have h2 := d2.le
 obtain ⟨x1, x2⟩ := hx
 obtain ⟨y1, y2⟩ := hy
 exact ⟨by grind, by grind⟩
theorem mul_in {a b : Iv} {x y : Rat} {p : Nat} (hp : 1 ≤ p) (hk : (mulI a b p).k = 0) (hx : In x a) (hy : In y b) : In (x * y) (mulI a b p).v := by
 obtain ⟨L, H, d1, d2, ⟨t1, t2, t3, t4⟩, ⟨u1, u2, u3, u4⟩, -, -⟩ := mulI_spec hp hk
 have h1 := d1.le
 have h2 := d2.le
 have b1 := bilin hx.1 hx.2 hy.1 hy.2 t1 t2 t3 t4
 have b2 := bilin' hx.1 hx.2 hy.1 hy.2 u1 u2 u3 u4
 exact ⟨by grind, by grind⟩
theorem roundI_in {a : Iv} {x : Rat} {p : Nat} (hp : 1 ≤ p) (hk : (roundI a p).k = 0) (hx : In x a) : In x (roundI a p).v := by
 unfold roundI at *
 obtain ⟨h1, h2, h3⟩ := ends_ok hk
 rw [h3]
 have := (dirD_down hp h1).le
 have := (dirD_up hp h2).le
 obtain ⟨x1, x2⟩ := hx
 exact ⟨by show (dirD a.lo p false).v.q ≤ x; grind, by show x ≤ (dirD a.hi p true).v.q; grind⟩
end Go.Proofs.YtgododcbmkpbjaaGreatDoor
