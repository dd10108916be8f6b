/- Ends of contracts with intervals, for regions. -/
import Derived.Test.YtgododcbmkpbjaaGreatDoorClaimSmeanp19
import Derived.Test.YtgododcbmkpbjaaGreatDoorClaimSmeanp21
set_option maxRecDepth 100000
set_option maxHeartbeats 16000000
namespace Go.Proofs.YtgododcbmkpbjaaGreatDoor
open Go.RowKit
/-- A block that holds the clean Dyad d. -/
def BlkD (w : World) (b : Nat) (d : Dy) : Prop := ∃ A l c, Blk w b (.bool d.neg) (.slice A l c) (.int .i64 d.e) ∧ DyR w (.agg #[.bool d.neg, .slice A l c, .int .i64 d.e]) d.raw
theorem BlkD.kept {w w' : World} {b : Nat} {d : Dy} (h : BlkD w b d) (k : Kept w w') : BlkD w' b d := by
 obtain ⟨A, l, c, h1, h2⟩ := h
 exact ⟨A, l, c, h1.kept k, h2.kept k⟩
theorem dyS_one {w : World} {s : Value} {d : Dy} (h : DyR w (.agg #[.bool d.neg, s, .int .i64 d.e]) d.raw) :
 DyS (w.alloc (.cells #[.bool d.neg, s, .int .i64 d.e] 30)) (.slice (some ⟨w.heap.size, 0, none⟩) 1 1) [d] := by
 refine ⟨_, 1, rfl, Nat.le_refl _, fun _ => ⟨_, _, rfl, fun i x hi => ?_⟩⟩
 have : i = 0 := by
  have := (List.getElem?_eq_some_iff.1 hi).1
  simp at this; exact this
 subst this
 simp at hi
 subst hi
 obtain ⟨_, c0, c1, c2, _⟩ := (blk_new w (.bool d.neg) s (.int .i64 d.e)).facts
 exact ⟨s, c0, c1, c2, h.kept (kept_alloc _ _)⟩
theorem dyS_one' {w : World} {s : Value} {d : Dy} {n : Nat} (hn : w.heap.size = n) (h : DyR w (.agg #[.bool d.neg, s, .int .i64 d.e]) d.raw) :
 DyS (w.alloc (.cells #[.bool d.neg, s, .int .i64 d.e] 30)) (.slice (some ⟨n, 0, none⟩) 1 1) [d] := by
 subst hn; exact dyS_one h
/-- A result's box. -/
theorem box1 (w : World) : ∃ W, W = w.alloc (.cells #[.bool false, .slice none 0 0, .int .i64 0] 30) ∧ Kept w W ∧ Blk W w.heap.size (.bool false) (.slice none 0 0) (.int .i64 0) ∧ W.heap.size = w.heap.size + 1 :=
 ⟨_, rfl, kept_alloc _ _, blk_new0 w, by simp⟩
theorem dirD_bad (d : Dy) (p : Nat) (up : Bool) : (dirD d p up).raw.k ≠ 0 → (dirD d p up).raw.v = rz := by
 intro h
 show ((dirD d p up).v).raw = rz
 rw [(dirD_ok d p up).2 h, dz_raw]
theorem directed1_c {w : World} {d : Dy} {p : Nat} {up : Bool} {bp bd bu : Nat} (hd : d.Ok) (hT : Tab w) (p1 : 1 ≤ p) (p2 : p ≤ 2000)
 (cp : w.cell? ⟨bp, 0, none⟩ = some (.int .i64 p)) (cd : BlkD w bd d) (cu : w.cell? ⟨bu, 0, none⟩ = some (.bool up)) :
 Calls Tryz.prog 161 #[.pointer (some ⟨bp, 0, none⟩), .pointer (some ⟨bd, 0, none⟩), .pointer (some ⟨bu, 0, none⟩)] w (Goes 183 (dirD d p up).raw w) := by
 obtain ⟨A, l, c, hb, hR⟩ := cd
 have x1 := hd.lo
 have x2 := hd.hi
 have hl := hd.len
 have hc := fun w1 (k : Kept w w1) => cut_c (v := .slice A l c) (m := d.m) (p := p) (e := d.e) d.neg false up (w := w1)
  (by
    obtain ⟨A', l', c', he, -, hlim, -, -⟩ := hR.shape
    injection he with he; injection he with he
    simp only [List.cons.injEq, and_true] at he
    have e1 := he.2.1
    rw [← e1] at hlim
    exact ⟨hlim.kept k, Nat.le_trans hl (by decide), by omega, by omega, p1, p2, hT.kept k⟩)
 have hm := fun w1 (k : Kept w w1) v (hv : DyS w1 v [d]) => rmay_c hv (by intro x hx; simp at hx; subst hx; exact hd) (by simp) (by omega : (1 : Int) ≤ (p : Int)) (by omega)
 obtain ⟨W, hW, kW, BR, sW⟩ := box1 w
 have hone := dyS_one' sW (hR.kept kW)
 have lp := lt_of_cell cp
 have lu := lt_of_cell cu
 simp only at lp lu
 have HC := Lib.hid hc
 have HM := Lib.hid hm
 have HO := Lib.hid hone
 have HB := Lib.hid hb
 have CP := Lib.hid cp
 have CU := Lib.hid cu
 obtain ⟨lb, b0, b1, b2, -⟩ := hb.facts
 clear hc hm hone hb hR hd hT x1 x2 hl p1 p2
 have ho : cutD d.neg d.m d.e false p up = dirD d p up := rfl
 rw [ho] at HC
 clear ho
 generalize dirD d p up = o at *
 have HK := Lib.hid kW
 have HR := Lib.hid BR
 have HW := Lib.hid hW
 clear hW kW BR sW
 generalize d.neg = nd at *
 generalize d.e = ed at *
 go_enter Tryz.func161, Tryz.ntmps161
 go_wp2_with (go_at_call 162; rw [← HW.out]; refine (HM.out _ (HK.out.trans (kept_alloc _ _)) _ HO.out).mono ?_; rintro e w1 ⟨rfl, q⟩; have K := Lib.hid (HK.out.trans ((kept_alloc _ _).trans q)); have hr := HR.out.kept ((kept_alloc _ _).trans q); have HR2 := Lib.hid hr; clear q hr b0 b1 b2 cp cu; have cp := cell_kept K.out CP.out; have cu := cell_kept K.out CU.out; obtain ⟨-, b0, b1, b2, -⟩ := (HB.out.kept K.out).facts)
 refine (HC.out _ K.out).mono ?_
 rintro e w2 ⟨q, ⟨h0, u, rfl, hd⟩ | ⟨h0, rfl⟩⟩
 ·obtain ⟨A', l', c', rfl, hd, g1, g2⟩ := dyR_parts hd
  have hr := HR2.out.kept q
  obtain ⟨_, r0, r1, r2, f0, f1, f2⟩ := hr.facts
  have HD := Lib.hid hd
  have H0 := Lib.hid h0
  have HR3 := Lib.hid hr
  have Q := Lib.hid q
  clear hd h0 hr q
  simp only []
  go_wp2_with fail
  exact ret_dy (HR3.out.laid _ _ _) rfl rfl rfl ⟨dyW_kept (K.out.trans Q.out) (Nat.le_refl _), .inl ⟨H0.out, _, rfl, (HD.out.dyW HR3.out (noLimb_bool _) (noLimb_slice _ _ _) (noLimb_i64 _)).dyR g1 g2⟩⟩
 ·exact ⟨rfl, K.out.trans q, .inr ⟨h0, rfl⟩⟩
theorem boxes4 (w : World) (x y z p u : Value) : ∃ W, W = (((w.alloc (.cells #[x, y, z] 30)).alloc (.cells #[p] 3)).alloc (.cells #[u] 4)).alloc (.cells #[.bool false, .slice none 0 0, .int .i64 0] 30) ∧
 Kept w W ∧ Blk W w.heap.size x y z ∧ W.cell? ⟨w.heap.size + 1, 0, none⟩ = some p ∧ W.cell? ⟨w.heap.size + 1 + 1, 0, none⟩ = some u ∧ Blk W (w.heap.size + 1 + 1 + 1) (.bool false) (.slice none 0 0) (.int .i64 0) :=
 ⟨_, rfl, (((kept_alloc _ _).trans (kept_alloc _ _)).trans (kept_alloc _ _)).trans (kept_alloc _ _), blk_alloc (blk_alloc (blk_alloc (blk_new _ _ _ _) _) _) _,
  cell_kept (kept_alloc _ _) (cell_kept (kept_alloc _ _) (new1 _ _ _ _)), cell_kept (kept_alloc _ _) (new2 _ _ _ _ _), blk_new3 _ _ _ _ _ _ _⟩
/-- The parts of a clean Dyad's value. -/
theorem dyR_split {w : World} {v : Value} {d : Dy} (h : DyR w v d.raw) : ∃ A l c, v = .agg #[.bool d.neg, .slice A l c, .int .i64 d.e] ∧ DyR w (.agg #[.bool d.neg, .slice A l c, .int .i64 d.e]) d.raw := by
 obtain ⟨A, l, c, rfl, -, -, -, -⟩ := h.shape
 exact ⟨A, l, c, rfl, h⟩
theorem directed_c {w : World} {v : Value} {d : Dy} {p : Nat} {up : Bool} (hv : DyR w v d.raw) (hd : d.Ok) (hT : Tab w) (p1 : 1 ≤ p) (p2 : p ≤ 2000) :
 Calls Tryz.prog 127 #[v, .int .i64 p, .bool up] w (RetE (dirD d p up).raw w) := by
 have hmf : ∀ (fn : Fn) (first cap : Array Value) (w : World), (Instr.makeFunc fn first cap).run Tryz.prog w = .ok (.func fn first cap) w := fun _ _ _ _ => rfl
 obtain ⟨A, l, c, rfl, hv⟩ := dyR_split hv
 obtain ⟨W, hW, kW, B0, cp, cu, BR⟩ := boxes4 w (.bool d.neg) (.slice A l c) (.int .i64 d.e) (.int .i64 p) (.bool up)
 have hf := face_cR (w := W) (K := 161) (cap := #[.pointer (some ⟨w.heap.size + 1, 0, none⟩), .pointer (some ⟨w.heap.size, 0, none⟩), .pointer (some ⟨w.heap.size + 1 + 1, 0, none⟩)]) (o := (dirD d p up).raw)
  (fun w1 k => directed1_c hd (hT.kept (kW.trans k)) p1 p2 (cell_kept k cp) ⟨A, l, c, B0.kept k, hv.kept (kW.trans k)⟩ (cell_kept k cu)) (dirD_bad d p up) (fun _ => rfl)
 have HF := Lib.hid hf
 have HW := Lib.hid hW
 have HK := Lib.hid kW
 have HR := Lib.hid BR
 clear hf hW kW B0 cp cu BR hv hd hT p1 p2
 generalize dirD d p up = o at *
 generalize d.neg = nd at *
 generalize d.e = ed at *
 go_enter Tryz.func127, Tryz.ntmps127
 go_wp2_with (go_at_call 160; rw [← HW.out]; refine HF.out.mono ?_; rintro e w1 ⟨q, u, rfl, hd⟩; obtain ⟨A', l', c', rfl, hd, g3, g4⟩ := dyR_parts hd; have HD := Lib.hid hd; have hb2 := HR.out.kept q; obtain ⟨_, c0, c1, c2, f0, f1, f2⟩ := hb2.facts; have HB2 := Lib.hid hb2; clear hd hb2)
 exact ret_dy2 (HB2.out.laid _ _ _) rfl rfl rfl ⟨dyW_kept (HK.out.trans q) (by omega), _, rfl, (HD.out.dyW HB2.out (noLimb_bool _) (noLimb_slice _ _ _) (noLimb_i64 _)).dyR g3 g4⟩
/-- Two blocks: a Dyad that came in, the result's. -/
theorem boxes1r (w : World) (x y z : Value) : ∃ W, W = (w.alloc (.cells #[x, y, z] 30)).alloc (.cells #[.bool false, .slice none 0 0, .int .i64 0] 30) ∧
 Kept w W ∧ Blk W w.heap.size x y z ∧ Blk W (w.heap.size + 1) (.bool false) (.slice none 0 0) (.int .i64 0) :=
 ⟨_, rfl, (kept_alloc _ _).trans (kept_alloc _ _), blk_alloc (blk_new _ _ _ _) _, blk_new1 _ _ _ _ _⟩
theorem Down_c {w : World} {v : Value} {d : Dy} {p : Nat} (hv : DyR w v d.raw) (hd : d.Ok) (hT : Tab w) (p1 : 1 ≤ p) (p2 : p ≤ 2000) :
 Calls Tryz.prog 101 #[v, .int .i64 p] w (RetE (dirD d p false).raw w) := by
 have hc := fun w1 (k : Kept w w1) => directed_c (up := false) (hv.kept k) hd (hT.kept k) p1 p2
 obtain ⟨A, l, c, rfl, hv⟩ := dyR_split hv
 obtain ⟨W, hW, kW, B0, BR⟩ := boxes1r w (.bool d.neg) (.slice A l c) (.int .i64 d.e)
 have HC := Lib.hid hc
 have HW := Lib.hid hW
 have HK := Lib.hid kW
 have HR := Lib.hid BR
 clear hc hW kW B0 BR hv hd hT p1 p2
 generalize dirD d p false = o at *
 generalize d.neg = nd at *
 generalize d.e = ed at *
 go_enter Tryz.func101, Tryz.ntmps101
 go_wp2_with (go_at_call 127; rw [← HW.out]; refine (HC.out _ HK.out).mono ?_; rintro e w1 ⟨q, u, rfl, hd⟩; obtain ⟨A', l', c', rfl, hd, g3, g4⟩ := dyR_parts hd; have HD := Lib.hid hd; have hb2 := HR.out.kept q; obtain ⟨_, c0, c1, c2, f0, f1, f2⟩ := hb2.facts; have HB2 := Lib.hid hb2; clear hd hb2)
 exact ret_dy2 (HB2.out.laid _ _ _) rfl rfl rfl ⟨dyW_kept (HK.out.trans q) (by omega), _, rfl, (HD.out.dyW HB2.out (noLimb_bool _) (noLimb_slice _ _ _) (noLimb_i64 _)).dyR g3 g4⟩
theorem Up_c {w : World} {v : Value} {d : Dy} {p : Nat} (hv : DyR w v d.raw) (hd : d.Ok) (hT : Tab w) (p1 : 1 ≤ p) (p2 : p ≤ 2000) :
 Calls Tryz.prog 102 #[v, .int .i64 p] w (RetE (dirD d p true).raw w) := by
 have hc := fun w1 (k : Kept w w1) => directed_c (up := true) (hv.kept k) hd (hT.kept k) p1 p2
 obtain ⟨A, l, c, rfl, hv⟩ := dyR_split hv
 obtain ⟨W, hW, kW, B0, BR⟩ := boxes1r w (.bool d.neg) (.slice A l c) (.int .i64 d.e)
 have HC := Lib.hid hc
 have HW := Lib.hid hW
 have HK := Lib.hid kW
 have HR := Lib.hid BR
 clear hc hW kW B0 BR hv hd hT p1 p2
 generalize dirD d p true = o at *
 generalize d.neg = nd at *
 generalize d.e = ed at *
 go_enter Tryz.func102, Tryz.ntmps102
 go_wp2_with (go_at_call 127; rw [← HW.out]; refine (HC.out _ HK.out).mono ?_; rintro e w1 ⟨q, u, rfl, hd⟩; obtain ⟨A', l', c', rfl, hd, g3, g4⟩ := dyR_parts hd; have HD := Lib.hid hd; have hb2 := HR.out.kept q; obtain ⟨_, c0, c1, c2, f0, f1, f2⟩ := hb2.facts; have HB2 := Lib.hid hb2; clear hd hb2)
 exact ret_dy2 (HB2.out.laid _ _ _) rfl rfl rfl ⟨dyW_kept (HK.out.trans q) (by omega), _, rfl, (HD.out.dyW HB2.out (noLimb_bool _) (noLimb_slice _ _ _) (noLimb_i64 _)).dyR g3 g4⟩
end Go.Proofs.YtgododcbmkpbjaaGreatDoor
namespace Go.Proofs.YtgododcbmkpbjaaGreatDoor
open Go.RowKit
/-- The value v reads in w as the raw interval a: six cells. -/
def IvR (w : World) (v : Value) (a : RawI) : Prop := ∃ x y z x' y' z', v = .agg #[x, y, z, x', y', z'] ∧ DyR w (.agg #[x, y, z]) a.lo ∧ DyR w (.agg #[x', y', z']) a.hi
theorem IvR.kept {w w' : World} {v : Value} {a : RawI} (h : IvR w v a) (k : Kept w w') : IvR w' v a := by
 obtain ⟨x, y, z, x', y', z', rfl, h1, h2⟩ := h
 exact ⟨x, y, z, x', y', z', rfl, h1.kept k, h2.kept k⟩
theorem rawR_split {w : World} {v : Value} {r : Raw} (h : DyR w v r) : ∃ A l c, v = .agg #[.bool r.neg, .slice A l c, .int .i64 r.e] ∧ DyR w (.agg #[.bool r.neg, .slice A l c, .int .i64 r.e]) r := by
 obtain ⟨A, l, c, rfl, -, -, -, -⟩ := h.shape
 exact ⟨A, l, c, rfl, h⟩
/-- An interval's value by its parts. -/
theorem ivR_split {w : World} {v : Value} {a : RawI} (h : IvR w v a) : ∃ A l c A' l' c', v = .agg #[.bool a.lo.neg, .slice A l c, .int .i64 a.lo.e, .bool a.hi.neg, .slice A' l' c', .int .i64 a.hi.e] ∧
 DyR w (.agg #[.bool a.lo.neg, .slice A l c, .int .i64 a.lo.e]) a.lo ∧ DyR w (.agg #[.bool a.hi.neg, .slice A' l' c', .int .i64 a.hi.e]) a.hi := by
 obtain ⟨x, y, z, x', y', z', rfl, h1, h2⟩ := h
 obtain ⟨A, l, c, e1, h1⟩ := rawR_split h1
 obtain ⟨A', l', c', e2, h2⟩ := rawR_split h2
 injection e1 with e1; injection e1 with e1
 injection e2 with e2; injection e2 with e2
 simp only [List.cons.injEq, and_true] at e1 e2
 obtain ⟨rfl, rfl, rfl⟩ := e1
 obtain ⟨rfl, rfl, rfl⟩ := e2
 exact ⟨A, l, c, A', l', c', rfl, h1, h2⟩
/-- An interval's block. -/
def BlkI (w : World) (b : Nat) (x y z x' y' z' : Value) : Prop := w.heap[b]? = some (.cells #[x, y, z, x', y', z'] 32 (0, 0))
theorem BlkI.facts {w : World} {b : Nat} {x y z x' y' z' : Value} (h : BlkI w b x y z x' y' z') : b < w.heap.size ∧ w.cell? ⟨b, 0, none⟩ = some x ∧ w.cell? ⟨b, 1, none⟩ = some y ∧ w.cell? ⟨b, 2, none⟩ = some z ∧
 w.cell? ⟨b, 3, none⟩ = some x' ∧ w.cell? ⟨b, 4, none⟩ = some y' ∧ w.cell? ⟨b, 5, none⟩ = some z' :=
 ⟨(Array.getElem?_eq_some_iff.1 h).1, cell_of_block h 0 _ rfl, cell_of_block h 1 _ rfl, cell_of_block h 2 _ rfl, cell_of_block h 3 _ rfl, cell_of_block h 4 _ rfl, cell_of_block h 5 _ rfl⟩
theorem BlkI.kept {w w1 : World} {b : Nat} {x y z x' y' z' : Value} (h : BlkI w b x y z x' y' z') (k : Kept w w1) : BlkI w1 b x y z x' y' z' :=
 (k.block b (Array.getElem?_eq_some_iff.1 h).1).trans h
theorem blkI_new (w : World) (x y z x' y' z' : Value) : BlkI (w.alloc (.cells #[x, y, z, x', y', z'] 32)) w.heap.size x y z x' y' z' := heap_alloc_new _ _
def RawI.lens (a : RawI) (k : Nat) : Prop := a.lo.m.length ≤ k ∧ a.hi.m.length ≤ k
theorem box1i (w : World) (x y z x' y' z' : Value) : ∃ W, W = w.alloc (.cells #[x, y, z, x', y', z'] 32) ∧ Kept w W ∧ BlkI W w.heap.size x y z x' y' z' :=
 ⟨_, rfl, kept_alloc _ _, blkI_new _ _ _ _ _ _ _⟩
theorem raw_small {w : World} {v : Value} {r : Raw} (h : DyR w v r) : Small r.m := by
 obtain ⟨s, -, hs, -, -⟩ := h; exact hs.1
theorem imay_c {w : World} {v : Value} {a : RawI} (hv : IvR w v a) (hl : a.lens 17592186044416) :
 Calls Tryz.prog 64 #[v] w (RetK (.bool (mayI a)) w) := by
 obtain ⟨A, l, c, A', l', c', rfl, h1, h2⟩ := ivR_split hv
 have m1 := fun w1 (k : Kept w w1) => may_c (h1.kept k) hl.1
 have m2 := fun w1 (k : Kept w w1) => may_c (h2.kept k) hl.2
 have hc : mayD a.lo = true → mayD a.hi = true → ∀ w1, Kept w w1 → Calls Tryz.prog 21 #[.agg #[.bool a.lo.neg, .slice A l c, .int .i64 a.lo.e], .agg #[.bool a.hi.neg, .slice A' l' c', .int .i64 a.hi.e]] w1 (RetK (.int .i64 (cmpQ a.lo.dy.q a.hi.dy.q)) w1) := by
  intro d1 d2 w1 k
  obtain ⟨e1, o1⟩ := mayD_clean (raw_small h1) d1
  obtain ⟨e2, o2⟩ := mayD_clean (raw_small h2) d2
  have g1 := h1.kept k
  have g2 := h2.kept k
  exact dcmp_c (x := a.lo.dy) (y := a.hi.dy) (by rw [e1]; exact g1) (by rw [e2]; exact g2) o1 o2
 unfold mayI
 have M1 := Lib.hid m1
 have M2 := Lib.hid m2
 have HC := Lib.hid hc
 clear m1 m2 hc h1 h2 hv hl
 generalize a.lo.neg = n1 at *
 generalize a.lo.e = e1 at *
 generalize a.hi.neg = n2 at *
 generalize a.hi.e = e2 at *
 generalize cmpQ a.lo.dy.q a.hi.dy.q = cc at *
 generalize mayD a.lo = b1 at *
 generalize mayD a.hi = b2 at *
 obtain ⟨W, hW, kW, BI⟩ := box1i w (.bool n1) (.slice A l c) (.int .i64 e1) (.bool n2) (.slice A' l' c') (.int .i64 e2)
 have HW := Lib.hid hW
 have HK := Lib.hid kW
 have HB := Lib.hid BI
 clear hW kW BI
 cases b1
 ·rw [Bool.false_and, Bool.false_and]
  go_enter Tryz.func64, Tryz.ntmps64
  go_wp2_with (go_at_call 42; rw [← HW.out]; refine (M1.out _ HK.out).mono ?_; rintro e w1 ⟨rfl, q⟩)
  go_ret
  exact ⟨rfl, HK.out.trans q⟩
 ·cases b2
  ·rw [Bool.and_false, Bool.false_and]
   go_enter Tryz.func64, Tryz.ntmps64
   go_wp2_with fail
   rw [← HW.out]
   refine (M1.out _ HK.out).mono ?_
   rintro e w1 ⟨rfl, q⟩
   have K := Lib.hid (HK.out.trans q)
   obtain ⟨-, c0, c1, c2, c3, c4, c5⟩ := (HB.out.kept q).facts
   have HB2 := Lib.hid (HB.out.kept q)
   clear q
   simp only []
   go_wp2_with fail
   refine (M2.out _ K.out).mono ?_
   rintro e w2 ⟨rfl, q⟩
   replace K := Lib.hid (K.out.trans q)
   clear c0 c1 c2 c3 c4 c5
   obtain ⟨-, c0, c1, c2, c3, c4, c5⟩ := (HB2.out.kept q).facts
   clear q
   simp only []
   go_wp2_with fail
   go_ret
   exact ⟨rfl, K.out⟩
  ·rw [Bool.and_true, Bool.true_and]
   have hc := HC.out rfl rfl
   clear HC
   have HC := Lib.hid hc
   clear hc
   obtain ⟨rb, hrb⟩ : ∃ rb, decide (cc ≤ 0) = rb := ⟨_, rfl⟩
   rw [hrb]
   go_enter Tryz.func64, Tryz.ntmps64
   go_wp2_with fail
   rw [← HW.out]
   refine (M1.out _ HK.out).mono ?_
   rintro e w1 ⟨rfl, q⟩
   have K := Lib.hid (HK.out.trans q)
   obtain ⟨-, c0, c1, c2, c3, c4, c5⟩ := (HB.out.kept q).facts
   have HB2 := Lib.hid (HB.out.kept q)
   clear q
   simp only []
   go_wp2_with fail
   refine (M2.out _ K.out).mono ?_
   rintro e w2 ⟨rfl, q⟩
   replace K := Lib.hid (K.out.trans q)
   clear c0 c1 c2 c3 c4 c5
   obtain ⟨-, c0, c1, c2, c3, c4, c5⟩ := (HB2.out.kept q).facts
   clear q
   simp only []
   go_wp2_with fail
   refine (HC.out _ K.out).mono ?_
   rintro e w3 ⟨rfl, q⟩
   replace K := Lib.hid (K.out.trans q)
   clear q
   simp only []
   go_wp2_with fail
   go_ret
   exact ⟨rfl, K.out⟩
/-- The value v reads in w as the clean interval a. -/
def IvC (w : World) (v : Value) (a : Iv) : Prop := IvR w v a.raw
theorem IvC.kept {w w' : World} {v : Value} {a : Iv} (h : IvC w v a) (k : Kept w w') : IvC w' v a := IvR.kept h k
theorem ivC_split {w : World} {v : Value} {a : Iv} (h : IvC w v a) : ∃ A l c A' l' c', v = .agg #[.bool a.lo.neg, .slice A l c, .int .i64 a.lo.e, .bool a.hi.neg, .slice A' l' c', .int .i64 a.hi.e] ∧
 DyR w (.agg #[.bool a.lo.neg, .slice A l c, .int .i64 a.lo.e]) a.lo.raw ∧ DyR w (.agg #[.bool a.hi.neg, .slice A' l' c', .int .i64 a.hi.e]) a.hi.raw := ivR_split h
theorem iv_lens {a : Iv} (h : a.Ok) : a.raw.lens 17592186044416 := ⟨by have := dy_len h.lo; show a.lo.raw.m.length ≤ _; omega, by have := dy_len h.hi; show a.hi.raw.m.length ≤ _; omega⟩
theorem imayT_c {w : World} {v : Value} {a : Iv} (hv : IvC w v a) (h : a.Ok) : Calls Tryz.prog 64 #[v] w (RetK (.bool true) w) := by
 have := imay_c hv (iv_lens h)
 rwa [mayI_raw h] at this
theorem box2ii (w : World) (x y z x' y' z' p q r p' q' r' : Value) : ∃ W, W = (w.alloc (.cells #[x, y, z, x', y', z'] 32)).alloc (.cells #[p, q, r, p', q', r'] 32) ∧ Kept w W ∧ BlkI W w.heap.size x y z x' y' z' ∧ BlkI W (w.heap.size + 1) p q r p' q' r' := by
 refine ⟨_, rfl, (kept_alloc _ _).trans (kept_alloc _ _), (blkI_new _ _ _ _ _ _ _).kept (kept_alloc _ _), ?_⟩
 have := blkI_new (w.alloc (.cells #[x, y, z, x', y', z'] 32)) p q r p' q' r'
 simpa using this
theorem cell_of_block' {w : World} {b : Nat} {cs : Array Value} {t : TypeId} (h : w.heap[b]? = some (.cells cs t (0, 0))) (i : Nat) : w.cell? ⟨b, i, none⟩ = cs[i]? := by
 simp [World.cell?, h]
/-- A block whose cells are no limbs does not matter to limbs. -/
theorem Lim.setBlock {w w' : World} {s : Value} {xs : List Nat} {b : Nat} {cs : Array Value} {t : TypeId} (h : Lim w s xs) (hb : w.heap[b]? = some (.cells cs t (0, 0))) (hn : ∀ (i : Nat) (v : Value), cs[i]? = some v → NoLimb v)
 (hs : w.heap.size ≤ w'.heap.size) (ho : ∀ k, k < w.heap.size → k ≠ b → w'.heap[k]? = w.heap[k]?) : Lim w' s xs := by
 obtain ⟨hsm, A, c, rfl, hc, hA⟩ := h
 refine ⟨hsm, A, c, rfl, hc, fun hp => ?_⟩
 obtain ⟨b1, off, rfl, hb1, hcell⟩ := hA hp
 have hne : b1 ≠ b := by
  rintro rfl
  have h5 := hcell 0 hp
  rw [cell_of_block' hb] at h5
  exact hn _ _ h5 _ rfl
 refine ⟨b1, off, rfl, Nat.lt_of_lt_of_le hb1 hs, fun i hi => ?_⟩
 rw [← hcell i hi]
 exact World.cell?_of_block (ho b1 hb1 hne)
def ivW (w : World) (b : Nat) (x y z x' y' z' : Value) : World :=
 (((((w.setCell ⟨b, 0, none⟩ x).setCell ⟨b, 1, none⟩ y).setCell ⟨b, 2, none⟩ z).setCell ⟨b, 3, none⟩ x').setCell ⟨b, 4, none⟩ y').setCell ⟨b, 5, none⟩ z'
theorem BlkI.laid {w : World} {b : Nat} {p q r p' q' r' : Value} (h : BlkI w b p q r p' q' r') (x y z x' y' z' : Value) : BlkI (ivW w b x y z x' y' z') b x y z x' y' z' :=
 block_setCell (block_setCell (block_setCell (block_setCell (block_setCell (block_setCell h _) _) _) _) _) _
theorem ivW_kept {w0 w : World} {b : Nat} {x y z x' y' z' : Value} (h : Kept w0 w) (h2 : w0.heap.size ≤ b) : Kept w0 (ivW w b x y z x' y' z') :=
 (((((h.setCell (p := ⟨b, 0, none⟩) h2 x).setCell (p := ⟨b, 1, none⟩) h2 y).setCell (p := ⟨b, 2, none⟩) h2 z).setCell (p := ⟨b, 3, none⟩) h2 x').setCell (p := ⟨b, 4, none⟩) h2 y').setCell (p := ⟨b, 5, none⟩) h2 z'
theorem ivW_other (w : World) (b k : Nat) (x y z x' y' z' : Value) (h : k ≠ b) : (ivW w b x y z x' y' z').heap[k]? = w.heap[k]? := by
 unfold ivW
 rw [Below.heap_setCell _ _ _ _ h, Below.heap_setCell _ _ _ _ h, Below.heap_setCell _ _ _ _ h, Below.heap_setCell _ _ _ _ h, Below.heap_setCell _ _ _ _ h, Below.heap_setCell _ _ _ _ h]
theorem BlkI.noLimb {w : World} {b : Nat} {n n' : Bool} {A A' : Option Addr} {l c l' c' : Nat} {e e' : Int} (_h : BlkI w b (.bool n) (.slice A l c) (.int .i64 e) (.bool n') (.slice A' l' c') (.int .i64 e')) :
 ∀ (i : Nat) (v : Value), (#[Value.bool n, .slice A l c, .int .i64 e, .bool n', .slice A' l' c', .int .i64 e'] : Array Value)[i]? = some v → NoLimb v := by
 intro i v hv
 rcases i with _ | _ | _ | _ | _ | _ | i
 ·simp at hv; subst hv; exact noLimb_bool _
 ·simp at hv; subst hv; exact noLimb_slice _ _ _
 ·simp at hv; subst hv; exact noLimb_i64 _
 ·simp at hv; subst hv; exact noLimb_bool _
 ·simp at hv; subst hv; exact noLimb_slice _ _ _
 ·simp at hv; subst hv; exact noLimb_i64 _
 ·simp at hv
theorem Lim.ivW {w : World} {s : Value} {xs : List Nat} {b : Nat} {n n' : Bool} {A A' : Option Addr} {l c l' c' : Nat} {e e' : Int} (h : Lim w s xs) (hb : BlkI w b (.bool n) (.slice A l c) (.int .i64 e) (.bool n') (.slice A' l' c') (.int .i64 e')) (x y z x' y' z' : Value) :
 Lim (Go.Proofs.YtgododcbmkpbjaaGreatDoor.ivW w b x y z x' y' z') s xs :=
 h.setBlock hb hb.noLimb (by simp [Go.Proofs.YtgododcbmkpbjaaGreatDoor.ivW, World.setCell]) (fun k _ hne => ivW_other _ _ _ _ _ _ _ _ _ hne)
theorem DyR.ivW {w : World} {v : Value} {r : Raw} {b : Nat} {n n' : Bool} {A A' : Option Addr} {l c l' c' : Nat} {e e' : Int} (h : DyR w v r) (hb : BlkI w b (.bool n) (.slice A l c) (.int .i64 e) (.bool n') (.slice A' l' c') (.int .i64 e')) (x y z x' y' z' : Value) :
 DyR (Go.Proofs.YtgododcbmkpbjaaGreatDoor.ivW w b x y z x' y' z') v r := by
 obtain ⟨s, rfl, hs, h1, h2⟩ := h
 exact ⟨s, rfl, hs.ivW hb _ _ _ _ _ _, h1, h2⟩
theorem BlkI.free {w : World} {b : Nat} {x y z x' y' z' : Value} (h : BlkI w b x y z x' y' z') : w.frozen? ⟨b, 0, none⟩ = false ∧ w.frozen? ⟨b, 1, none⟩ = false ∧ w.frozen? ⟨b, 2, none⟩ = false ∧ w.frozen? ⟨b, 3, none⟩ = false ∧ w.frozen? ⟨b, 4, none⟩ = false ∧ w.frozen? ⟨b, 5, none⟩ = false :=
 ⟨free_of_block h 0, free_of_block h 1, free_of_block h 2, free_of_block h 3, free_of_block h 4, free_of_block h 5⟩
/-- The end of a function whose result is the interval in a block. -/
theorem ret_iv {fn : Func} {R : Ending → World → Prop} {a : Act} {w : World} {b t : Nat} {x y z x' y' z' : Value} (h : BlkI w b x y z x' y' z')
 (hres : fn.results = #[.cell t 32]) (ht : a.tmps.getD t undef = .pointer (some ⟨b, 0, none⟩)) (hd : a.defers = []) (hR : R (.returned (.agg #[x, y, z, x', y', z'])) w) :
 bodyPost Tryz.prog fn R .ret a w := by
 obtain ⟨_, c0, c1, c2, c3, c4, c5⟩ := h.facts
 refine bodyPost_ret (v := .agg #[x, y, z, x', y', z']) ?_ hd hR
 have ht2 : a.tmps[t]?.getD undef = .pointer (some ⟨b, 0, none⟩) := by simpa using ht
 simp [results, hres, ht2, go_sem, c0, c1, c2, c3, c4, c5]
theorem ret_iv2 {fn : Func} {R : Ending → World → Prop} {a : Act} {w : World} {b t u : Nat} {x y z x' y' z' : Value} (h : BlkI w b x y z x' y' z')
 (hres : fn.results = #[.cell t 32, .tmp u]) (ht : a.tmps.getD t undef = .pointer (some ⟨b, 0, none⟩)) (hd : a.defers = [])
 (hR : R (.returned (.tuple #[.agg #[x, y, z, x', y', z'], a.tmps.getD u undef])) w) : bodyPost Tryz.prog fn R .ret a w := by
 obtain ⟨_, c0, c1, c2, c3, c4, c5⟩ := h.facts
 refine bodyPost_ret (v := .tuple #[.agg #[x, y, z, x', y', z'], a.tmps.getD u undef]) ?_ hd hR
 have ht2 : a.tmps[t]?.getD undef = .pointer (some ⟨b, 0, none⟩) := by simpa using ht
 simp [results, hres, ht2, go_sem, c0, c1, c2, c3, c4, c5]
/-- It returns an interval. -/
def RetI (a : RawI) (w : World) (e : Ending) (w' : World) : Prop := Kept w w' ∧ ∃ v, e = .returned v ∧ IvR w' v a
/-- It returns an interval and an error's number. -/
def RetIE (o : Outc RawI) (w : World) (e : Ending) (w' : World) : Prop := Kept w w' ∧ ∃ v, e = .returned (.tuple #[v, .int .i64 o.k]) ∧ IvR w' v o.v
theorem blkI_zero (w : World) : BlkI (w.alloc (.cells #[.bool false, .slice none 0 0, .int .i64 0, .bool false, .slice none 0 0, .int .i64 0] 32)) w.heap.size (.bool false) (.slice none 0 0) (.int .i64 0) (.bool false) (.slice none 0 0) (.int .i64 0) := heap_alloc_new _ _
theorem iof_c {w : World} {v : Value} {r : Raw} (hv : DyR w v r) : Calls Tryz.prog 14 #[v] w (RetI ⟨r, r⟩ w) := by
 have hv' := hv
 obtain ⟨A, l, c, rfl, hv⟩ := rawR_split hv
 have HV := Lib.hid hv
 clear hv hv'
 have hb1 := blkI_new (w.alloc (.cells #[.bool r.neg, .slice A l c, .int .i64 r.e] 30)) (.bool r.neg) (.slice A l c) (.int .i64 r.e) (.bool r.neg) (.slice A l c) (.int .i64 r.e)
 simp only [World.size_alloc] at hb1
 have HB := Lib.hid hb1
 clear hb1
 go_enter Tryz.func14, Tryz.ntmps14
 go_wp2_with fail
 exact ret_iv HB.out rfl rfl rfl ⟨(kept_alloc _ _).trans (kept_alloc _ _), _, rfl, _, _, _, _, _, _, rfl, HV.out.kept ((kept_alloc _ _).trans (kept_alloc _ _)), HV.out.kept ((kept_alloc _ _).trans (kept_alloc _ _))⟩
theorem RetIE.good {o : Outc RawI} {w w' : World} {e : Ending} (h : RetIE o w e w') : GoodEnd (fun u w => ∃ d, u = .tuple #[d, .int .i64 o.k] ∧ IvR w d o.v) w e w' := by
 obtain ⟨k, v, he, hl⟩ := h
 exact ⟨_, he, k, v, rfl, hl⟩
theorem RetI.good {a : RawI} {w w' : World} {e : Ending} (h : RetI a w e w') : GoodEnd (fun u w => IvR w u a) w e w' := by
 obtain ⟨k, v, he, hl⟩ := h
 exact ⟨v, he, k, hl⟩
section
variable {P : Program} {ops : Array Oper} {Q : Exit → Act → World → Prop} {i : Nat} {a : Act} {w : World} {V : Nat → Value → World → Prop} {o : Oper} {f : FuncId} {args : Array Value}
theorem sI {x : RawI} (hc : Calls P f args w (RetI x w)) (hp : ∀ v w', IvR w' v x → V i v w') (hw : Region.wanted o (yielded ops a.tmps) = true := by simp [Region.wanted]) (h : (execOp a.eval o).run P w = .ok (.enter f args) w := by go_simp) : StepOK P ops Q V i o a w :=
 step_good hw h hc (fun _ _ h => RetI.good h) hp
theorem sP {x : Outc RawI} (hc : Calls P f args w (RetIE x w)) (hp : ∀ v w', (∃ d, v = .tuple #[d, .int .i64 x.k] ∧ IvR w' d x.v) → V i v w') (hw : Region.wanted o (yielded ops a.tmps) = true := by simp [Region.wanted]) (h : (execOp a.eval o).run P w = .ok (.enter f args) w := by go_simp) : StepOK P ops Q V i o a w :=
 step_good hw h hc (fun _ _ h => RetIE.good h) hp
end
end Go.Proofs.YtgododcbmkpbjaaGreatDoor
