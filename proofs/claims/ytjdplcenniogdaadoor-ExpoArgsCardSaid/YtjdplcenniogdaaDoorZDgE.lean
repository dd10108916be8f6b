/- Contracts of package sluicewayref1, third part: MayDyad, Sign, Of. -/
import Derived.Test.YtjdplcenniogdaaDoorZDgD
import Derived.Test.YtjdplcenniogdaaDoorClaimTurnsp23
namespace Go.Proofs.YtjdplcenniogdaaDoor
open Go.RowKit

theorem mayD_out {neg : Bool} {m : List Nat} {e : Int} (h : mayN m = false ∨ e < -1048576 ∨ 1048576 < e) : mayD ⟨neg, m, e⟩ = false := by
  unfold mayD
  simp only
  split
  · rename_i h0
    have hm : mayN m = true := by unfold mayN; simp [h0]
    have he : ¬ e = 0 := by
      rcases h with h | h | h
      · rw [hm] at h; cases h
      · omega
      · omega
    simp [he]
  · rcases h with h | h | h
    · simp [h]
    · have : ¬ -1048576 ≤ e := by omega
      simp [this]
    · have : ¬ e ≤ 1048576 := by omega
      simp [this]

set_option maxHeartbeats 1000000 in
set_option maxRecDepth 100000 in
theorem qmay_c {w : World} {v : Value} {r : Raw} (hv : DyR w v r) (hl : r.m.length ≤ 17592186044416) :
    Calls Tryd.prog 9 #[v] w (RetK (.bool (mayD r)) w) := by
  obtain ⟨neg, m, e⟩ := r
  obtain ⟨s, rfl, hs, h1, h2⟩ := hv
  simp only at hs h1 h2 hl ⊢
  have hm := fun w1 (k : Kept w w1) => qmayN_c (hs.kept k) hl
  obtain ⟨hsm, A, c, rfl, hc, hA⟩ := hs
  have HM := Lib.hid hm
  have HO := Lib.hid (@mayD_out neg m e)
  clear hm
  obtain ⟨bm, hbm⟩ : ∃ b, mayN m = b := ⟨_, rfl⟩
  rw [hbm] at HM HO
  by_cases hbad : bm = false ∨ e < -1048576 ∨ 1048576 < e
  · rw [HO.out hbad]
    have hb2 : Hid (bm = false ∨ e < -1048576 ∨ 1048576 < e) := hbad
    clear HO hbad hA hsm hbm h1 h2
    generalize m.length = l at *
    rcases hb2.out with rfl | hb | hb
    · clear hb2
      go_enter Tryd.func9, Tryd.ntmps9
      go_wp2_with (go_at_call 36; refine (HM.out _ (kept_alloc _ _)).mono ?_; rintro e w1 ⟨rfl, q, rfl⟩)
      go_ret
      exact ⟨rfl, (kept_alloc _ _).drewN _⟩
    · clear hb2
      have d1 : decide (e < -1048576) = true := by simp [hb]
      cases bm <;> (
        go_enter Tryd.func9, Tryd.ntmps9
        go_wp2_with (go_at_call 36; refine (HM.out _ (kept_alloc _ _)).mono ?_; rintro e w1 ⟨rfl, q, rfl⟩)
        go_ret
        exact ⟨rfl, (kept_alloc _ _).drewN _⟩)
    · clear hb2
      have d1 : decide (e < -1048576) = false := by simp; omega
      have d2 : decide (1048576 < e) = true := by simp [hb]
      cases bm <;> (
        go_enter Tryd.func9, Tryd.ntmps9
        go_wp2_with (go_at_call 36; refine (HM.out _ (kept_alloc _ _)).mono ?_; rintro e w1 ⟨rfl, q, rfl⟩)
        go_ret
        exact ⟨rfl, (kept_alloc _ _).drewN _⟩)
  · obtain rfl : bm = true := by cases bm <;> simp_all
    have e1 : -1048576 ≤ e := by
      by_cases h : -1048576 ≤ e
      · exact h
      · exact absurd (.inr (.inl (by omega))) hbad
    have e2 : e ≤ 1048576 := by
      by_cases h : e ≤ 1048576
      · exact h
      · exact absurd (.inr (.inr (by omega))) hbad
    have d1 : decide (e < -1048576) = false := by simp; omega
    have d2 : decide (1048576 < e) = false := by simp; omega
    clear hbad HO
    unfold mayD
    simp only
    by_cases h0 : m.length = 0
    · rw [if_pos h0]
      clear hsm hA hbm
      rw [h0]
      have HL := Lib.hid h0
      clear h0 hl hc e1 e2 h1 h2
      cases neg <;> (
        go_enter Tryd.func9, Tryd.ntmps9
        go_wp2_with (go_at_call 36; rw [HL.out] at HM; refine (HM.out _ (kept_alloc _ _)).mono ?_; rintro e w1 ⟨rfl, q, rfl⟩)
        go_ret
        exact ⟨rfl, (kept_alloc _ _).drewN _⟩)
    · rw [if_neg h0, hbm, decide_eq_true e1, decide_eq_true e2, Bool.and_true, Bool.and_true, Bool.true_and]
      obtain ⟨b, off, rfl, hb, hcell⟩ := hA (by omega)
      have hc0 := hcell 0 (by omega)
      have hlt0 := nth_lt hsm 0
      have e0 : (((m.length : Nat) : Int) == 0) = false := by rw [beq_eq_false_iff_ne]; omega
      have hl0 : 0 < m.length := by omega
      clear hcell hA hsm h0 e1 e2 hbm
      have eand : bits .and .u64 ((nth m 0 : Nat) : Int) 1 = ((nth m 0 % 2 : Nat) : Int) := by
        have h := bits_and_u64_nat (nth m 0) 1 hlt0 (by omega)
        rw [Nat.and_one_is_mod] at h
        exact h
      have eb : (nth m 0 % 2 == 1) = (((nth m 0 % 2 : Nat) : Int) == 1) := by
        rcases Nat.mod_two_eq_zero_or_one (nth m 0) with h | h <;> rw [h] <;> rfl
      rw [eb]
      rw [Nat.add_zero] at hc0
      generalize nth m 0 % 2 = y at *
      generalize nth m 0 = x at *
      generalize m.length = l at *
      clear eb
      have HC := Lib.hid (fun w1 (k : Kept w w1) => (k.cell (p := ⟨b, off, none⟩) hb).trans hc0)
      clear hc0
      go_enter Tryd.func9, Tryd.ntmps9
      go_wp2_with (go_at_call 36; refine (HM.out _ (kept_alloc _ _)).mono ?_; rintro e w1 ⟨rfl, q, rfl⟩; have hcc := HC.out _ ((kept_alloc w (.cells #[.bool neg, .slice (some ⟨b, off, none⟩) l c, .int .i64 e] 24)).drewN q))
      go_ret
      exact ⟨rfl, (kept_alloc _ _).drewN _⟩

set_option maxHeartbeats 1000000 in
set_option maxRecDepth 100000 in
theorem qsign_c {w : World} {v : Value} {r : Raw} (hv : DyR w v r) (hl : r.m.length ≤ 17592186044416) :
    Calls Tryd.prog 37 #[v] w (RetK (.int .i64 (sgnR r)) w) := by
  have hm := fun w1 (k : Kept w w1) => qmay_c (hv.kept k) hl
  obtain ⟨neg, m, e⟩ := r
  obtain ⟨s, rfl, hs, h1, h2⟩ := hv
  obtain ⟨_, A, c, rfl, hc, _⟩ := hs
  simp only at hc h1 h2 hl ⊢
  unfold sgnR
  simp only
  have HM := Lib.hid hm
  clear hm
  generalize hb : mayD ⟨neg, m, e⟩ = bm at *
  cases bm
  · rw [if_pos (Or.inl rfl)]
    go_enter Tryd.func37, Tryd.ntmps37
    go_wp2_with (go_at_call 9; refine (HM.out _ (kept_alloc _ _)).mono ?_; rintro e w1 ⟨rfl, q⟩)
    go_ret
    exact ⟨rfl, (kept_alloc _ _).trans q⟩
  · clear hb
    generalize m.length = l at *
    by_cases h0 : l = 0
    · rw [if_pos (Or.inr h0)]
      subst h0
      clear hl hc
      go_enter Tryd.func37, Tryd.ntmps37
      go_wp2_with (go_at_call 9; refine (HM.out _ (kept_alloc _ _)).mono ?_; rintro e w1 ⟨rfl, q⟩; obtain ⟨_, c0, c1, c2, _⟩ := ((blk_new _ _ _ _).kept q).facts)
      go_ret
      exact ⟨rfl, (kept_alloc _ _).trans q⟩
    · rw [if_neg (by rintro (h | h); exact absurd h (by decide); exact h0 h)]
      have e0 : (((l : Nat) : Int) == 0) = false := by rw [beq_eq_false_iff_ne]; omega
      have HL := Lib.hid h0
      clear h0
      cases neg <;> (
        go_enter Tryd.func37, Tryd.ntmps37
        go_wp2_with (go_at_call 9; refine (HM.out _ (kept_alloc _ _)).mono ?_; rintro e w1 ⟨rfl, q⟩; obtain ⟨_, c0, c1, c2, _⟩ := ((blk_new _ _ _ _).kept q).facts)
        go_ret
        exact ⟨rfl, (kept_alloc _ _).trans q⟩)

namespace Dg

theorem RetLim.good {xs : List Nat} {w w' : World} {e : Ending} (h : RetLim xs w e w') : GoodEnd (fun u w => Lim w u xs) w e w' := by
  obtain ⟨v, he, hl, hk⟩ := h
  exact ⟨v, he, hk, hl⟩

/-- A number of any size: its sign, its digits, its exponent. -/
def DN (w : World) (v : Value) (b : Bool) (n : Nat) (e : Int) : Prop := ∃ A l c, v = .agg #[.bool b, .slice A l c, .int .i64 e] ∧ Lim w (.slice A l c) (limbs n)
theorem DN.kept {w w' : World} {v : Value} {b : Bool} {n : Nat} {e : Int} (h : DN w v b n e) (k : Kept w w') : DN w' v b n e := by
  obtain ⟨A, l, c, rfl, h⟩ := h; exact ⟨A, l, c, rfl, h.kept k⟩
def RetN (b : Bool) (n : Nat) (e : Int) (w : World) (x : Ending) (w' : World) : Prop := Kept w w' ∧ ∃ v, x = .returned v ∧ DN w' v b n e
theorem RetN.good {b : Bool} {n : Nat} {e : Int} {w w' : World} {x : Ending} (h : RetN b n e w x w') : GoodEnd (fun u w => DN w u b n e) w x w' := by
  obtain ⟨k, v, he, hl⟩ := h
  exact ⟨v, he, k, hl⟩
theorem Lim.shape {w : World} {v : Value} {xs : List Nat} (h : Lim w v xs) : ∃ A c, v = .slice A xs.length c := by
  obtain ⟨_, A, c, rfl, -, -⟩ := h; exact ⟨A, c, rfl⟩

/-- Its block. -/
def Blk (w : World) (b : Nat) (x y z : Value) : Prop := w.heap[b]? = some (.cells #[x, y, z] 54 (0, 0))
theorem Blk.facts {w : World} {b : Nat} {x y z : Value} (h : Blk w b x y z) : b < w.heap.size ∧ w.cell? ⟨b, 0, none⟩ = some x ∧ w.cell? ⟨b, 1, none⟩ = some y ∧ w.cell? ⟨b, 2, none⟩ = some z ∧
    w.frozen? ⟨b, 0, none⟩ = false ∧ w.frozen? ⟨b, 1, none⟩ = false ∧ w.frozen? ⟨b, 2, none⟩ = false :=
  ⟨(Array.getElem?_eq_some_iff.1 h).1, cell_of_block h 0 _ rfl, cell_of_block h 1 _ rfl, cell_of_block h 2 _ rfl, free_of_block h 0, free_of_block h 1, free_of_block h 2⟩
theorem Blk.kept {w w1 : World} {b : Nat} {x y z : Value} (h : Blk w b x y z) (k : Kept w w1) : Blk w1 b x y z :=
  (k.block b (Array.getElem?_eq_some_iff.1 h).1).trans h
theorem blk_new (w : World) (x y z : Value) : Blk (w.alloc (.cells #[x, y, z] 54)) w.heap.size x y z := heap_alloc_new _ _
theorem Blk.laid {w : World} {b : Nat} {x y z : Value} (h : Blk w b x y z) (x' y' z' : Value) : Blk (dyW w b x' y' z') b x' y' z' :=
  block_setCell (block_setCell (block_setCell h _) _) _
theorem ret_n {fn : Func} {R : Ending → World → Prop} {a : Act} {w : World} {b t : Nat} {x y z : Value} (h : Blk w b x y z)
    (hres : fn.results = #[.cell t 54]) (ht : a.tmps.getD t undef = .pointer (some ⟨b, 0, none⟩)) (hd : a.defers = []) (hR : R (.returned (.agg #[x, y, z])) w) :
    bodyPost Tryd.prog fn R .ret a w := by
  obtain ⟨_, c0, c1, c2, _⟩ := h.facts
  refine bodyPost_ret (v := .agg #[x, y, z]) ?_ hd hR
  have ht2 : a.tmps[t]?.getD undef = .pointer (some ⟨b, 0, none⟩) := by simpa using ht
  simp [results, hres, ht2, go_sem, c0, c1, c2]
/-- Digits don't hang on a block without digits. -/
theorem Lim.dyW {w : World} {s : Value} {xs : List Nat} {b2 : Nat} {T : TypeId} {x y z x' y' z' : Value} (h : Lim w s xs) (h0 : w.heap[b2]? = some (.cells #[x, y, z] T (0, 0))) (hx : ∀ n, ¬ x = .int .u32 n) (hy : ∀ n, ¬ y = .int .u32 n) (hz : ∀ n, ¬ z = .int .u32 n) :
    Lim (dyW w b2 x' y' z') s xs := by
  obtain ⟨hsm, A, c, rfl, hc, hA⟩ := h
  refine ⟨hsm, A, c, rfl, hc, fun hp => ?_⟩
  obtain ⟨b, off, rfl, hb, hcell⟩ := hA hp
  have n2 : ¬ b = b2 := by
    rintro rfl
    have h5 := hcell 0 hp
    simp only [World.cell?, h0] at h5
    rcases off with _ | _ | _ | off
    · simp at h5; exact hx _ h5
    · simp at h5; exact hy _ h5
    · simp at h5; exact hz _ h5
    · simp at h5
  have e : (Go.Proofs.YtjdplcenniogdaaDoor.dyW w b2 x' y' z').heap[b]? = w.heap[b]? := by
    unfold Go.Proofs.YtjdplcenniogdaaDoor.dyW
    rw [Below.heap_setCell _ _ _ _ n2, Below.heap_setCell _ _ _ _ n2, Below.heap_setCell _ _ _ _ n2]
  refine ⟨b, off, rfl, ?_, fun i hi => ?_⟩
  · unfold Go.Proofs.YtjdplcenniogdaaDoor.dyW; simpa [World.setCell] using hb
  · rw [← hcell i hi]
    simp only [World.cell?, e]

theorem box_dn (w : World) (x y z p q r : Value) : ∃ W, W = (w.alloc (.cells #[x, y, z] 24)).alloc (.cells #[p, q, r] 54) ∧
    Kept w W ∧ Go.Proofs.YtjdplcenniogdaaDoor.Blk W w.heap.size x y z ∧ Blk W (w.heap.size + 1) p q r := by
  refine ⟨_, rfl, (kept_alloc _ _).trans (kept_alloc _ _), blk_alloc (Go.Proofs.YtjdplcenniogdaaDoor.blk_new _ _ _ _) _, ?_⟩
  have := blk_new (w.alloc (.cells #[x, y, z] 24)) p q r
  simpa using this

set_option maxHeartbeats 2000000 in
set_option maxRecDepth 100000 in
theorem of_c {w : World} {v : Value} {r : Raw} (hv : DyR w v r) (hl : r.m.length ≤ 100000) :
    Calls Tryd.prog 39 #[v] w (RetN r.neg (Go.Proofs.YtjdplcenniogdaaDoor.val r.m) r.e w) := by
  obtain ⟨A, l, c, rfl, -, hs, -, -⟩ := hv.shape
  have C := Lib.hid (fun w1 (k : Kept w w1) => from_c (hs.kept k) hl)
  clear hv hs hl
  generalize Go.Proofs.YtjdplcenniogdaaDoor.val r.m = n at *
  generalize r.neg = b at *
  generalize r.e = e at *
  obtain ⟨W, hW, kW, BA, BB⟩ := box_dn w (.bool b) (.slice A l c) (.int .i64 e) (.bool false) (.slice none 0 0) (.int .i64 0)
  have HW := Lib.hid hW
  have K := Lib.hid kW
  have HA := Lib.hid BA
  have HB := Lib.hid BB
  clear hW kW BA BB
  go_enter Tryd.func39, Tryd.ntmps39
  go_wp2_with fail
  rw [← HW.out]
  refine region_lin1 (m := 8) (V := VL [
      (fun v _ => v = (.pointer (some ⟨w.heap.size, 0, none⟩))),
      (fun v _ => v = (.bool b)),
      (fun v _ => v = (.pointer (some ⟨w.heap.size, 1, none⟩))),
      (fun v _ => v = (.slice A l c)),
      (fun v wv => Lim wv v (limbs n)),
      (fun v _ => v = (.pointer (some ⟨w.heap.size, 2, none⟩))),
      (fun v _ => v = (.int .i64 e)),
      (fun v wv => DN wv v b n e)])
    (by kernel_rfl) rfl rfl rfl (by kernel_rfl) (by kernel_rfl) (by kernel_rfl) (by kernel_rfl) (mono_of _ ⟨mono_eq _, mono_eq _, mono_eq _, mono_eq _, fun v w w' k h => by first | exact h | exact h.kept k | exact ⟨h.1, h.2.kept k⟩, mono_eq _, mono_eq _, fun v w w' k h => by first | exact h | exact h.kept k | exact ⟨h.1, h.2.kept k⟩, trivial⟩) (steps_of ⟨
      (fun aF wF F => by
    have s1 : aF.tmps.getD 1 undef = (.pointer (some ⟨w.heap.size, 0, none⟩)) := F.old 1 (by kernel_rfl)
    exact step_val (by simp [Region.wanted]) (by go_simp) rfl),
      (fun aF wF F => by
    have s3 : aF.tmps.getD 3 undef = (.pointer (some ⟨w.heap.size, 0, none⟩)) := F.done 0 3 (by kernel_rfl) rfl
    have c0 := cell_at HA.out F.kept 0 _ rfl
    exact step_val (by simp [Region.wanted]) (by go_simp) rfl),
      (fun aF wF F => by
    have s1 : aF.tmps.getD 1 undef = (.pointer (some ⟨w.heap.size, 0, none⟩)) := F.old 1 (by kernel_rfl)
    exact step_val (by simp [Region.wanted]) (by go_simp) rfl),
      (fun aF wF F => by
    have s5 : aF.tmps.getD 5 undef = (.pointer (some ⟨w.heap.size, 1, none⟩)) := F.done 2 5 (by kernel_rfl) rfl
    have c0 := cell_at HA.out F.kept 1 _ rfl
    exact step_val (by simp [Region.wanted]) (by go_simp) rfl),
      (fun aF wF F => by
    have s6 : aF.tmps.getD 6 undef = (.slice A l c) := F.done 3 6 (by kernel_rfl) rfl
    exact step_good (by simp [Region.wanted]) (by go_simp) (C.out _ (K.out.trans F.kept)) (fun _ _ h => RetLim.good h) (fun _ _ h => h)),
      (fun aF wF F => by
    have s1 : aF.tmps.getD 1 undef = (.pointer (some ⟨w.heap.size, 0, none⟩)) := F.old 1 (by kernel_rfl)
    exact step_val (by simp [Region.wanted]) (by go_simp) rfl),
      (fun aF wF F => by
    have s8 : aF.tmps.getD 8 undef = (.pointer (some ⟨w.heap.size, 2, none⟩)) := F.done 5 8 (by kernel_rfl) rfl
    have c0 := cell_at HA.out F.kept 2 _ rfl
    exact step_val (by simp [Region.wanted]) (by go_simp) rfl),
      (fun aF wF F => by
    have s4 : aF.tmps.getD 4 undef = (.bool b) := F.done 1 4 (by kernel_rfl) rfl
    have s7 : (fun v wv => Lim wv v (limbs n)) (aF.tmps.getD 7 undef) wF := F.done 4 7 (by kernel_rfl) rfl
    have s9 : aF.tmps.getD 9 undef = (.int .i64 e) := F.done 6 9 (by kernel_rfl) rfl
    simp only [Array.getD_eq_getD_getElem?] at s4
    simp only [Array.getD_eq_getD_getElem?] at s9
    obtain ⟨X1, X2, ee⟩ := s7.shape; rw [ee] at s7; simp only [Array.getD_eq_getD_getElem?] at ee; exact step_val (by simp [Region.wanted]) (by go_simp) ⟨_, _, _, rfl, s7⟩),
      trivial⟩) ?_
  intro u w1 k1 hu
  have e3 : u 0 = (.pointer (some ⟨w.heap.size, 0, none⟩)) := hu 0 (by decide)
  have e4 : u 1 = (.bool b) := hu 1 (by decide)
  have e5 : u 2 = (.pointer (some ⟨w.heap.size, 1, none⟩)) := hu 2 (by decide)
  have e6 : u 3 = (.slice A l c) := hu 3 (by decide)
  have p7 := hu 4 (by decide)
  have e8 : u 5 = (.pointer (some ⟨w.heap.size, 2, none⟩)) := hu 5 (by decide)
  have e9 : u 6 = (.int .i64 e) := hu 6 (by decide)
  have p10 := hu 7 (by decide)
  clear hu
  simp only [puts, slotOf, if_true, Act.put, List.setIfInBounds_toArray, List.set_cons_zero, List.set_cons_succ, List.getElem?_toArray, List.getElem?_cons_zero, List.getElem?_cons_succ, Option.bind_some, e3, e4, e5, e6, e8, e9]
  clear e3 e4 e5 e6 e8 e9
  generalize u 4 = v7 at *
  try simp only [VL, List.getD_cons_zero, List.getD_cons_succ] at p7
  generalize u 7 = v10 at *
  try simp only [VL, List.getD_cons_zero, List.getD_cons_succ] at p10
  obtain ⟨A1, l1, c1, rfl, z1⟩ := p10
  have hx := HB.out.kept k1
  obtain ⟨-, x0, x1, x2, f0, f1, f2⟩ := hx.facts
  clear p7
  have Z := Lib.hid z1
  have HX := Lib.hid hx
  have KK := Lib.hid (K.out.trans k1)
  clear z1 hx k1
  go_wp2_with fail
  exact ret_n (HX.out.laid _ _ _) rfl rfl rfl ⟨dyW_kept KK.out (by omega), _, rfl, _, _, _, rfl, Z.out.dyW HX.out (by simp) (by simp) (by simp)⟩

end Dg
end Go.Proofs.YtjdplcenniogdaaDoor
