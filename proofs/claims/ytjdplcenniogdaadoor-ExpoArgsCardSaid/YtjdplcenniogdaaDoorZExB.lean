/- Contracts of package expo: side.round, near. -/
import Derived.Test.YtjdplcenniogdaaDoorZExA
import Derived.Test.YtjdplcenniogdaaDoorClaimTurnsp26
import Derived.Test.YtjdplcenniogdaaDoorZExQ
import Derived.Test.YtjdplcenniogdaaDoorClaimTurnsp20
namespace Go.Proofs.YtjdplcenniogdaaDoor
open Go.RowKit

/-- A side's block. -/
def SBlk (w : World) (b : Nat) (p : Nat) (up : Bool) : Prop := w.heap[b]? = some (.cells #[.int .i64 (p : Int), .bool up] 61 (0, 0))
theorem SBlk.kept {w w1 : World} {b p : Nat} {up : Bool} (h : SBlk w b p up) (k : Kept w w1) : SBlk w1 b p up := (k.block b (Array.getElem?_eq_some_iff.1 h).1).trans h
theorem SBlk.facts {w : World} {b p : Nat} {up : Bool} (h : SBlk w b p up) : b < w.heap.size ∧ w.cell? ⟨b, 0, none⟩ = some (.int .i64 (p : Int)) ∧ w.cell? ⟨b, 1, none⟩ = some (.bool up) :=
  ⟨(Array.getElem?_eq_some_iff.1 h).1, cell_of_block h 0 _ rfl, cell_of_block h 1 _ rfl⟩
theorem SBlk.dyW {w : World} {b c p : Nat} {up : Bool} (h : SBlk w b p up) (hne : ¬ b = c) (x y z : Value) : SBlk (dyW w c x y z) b p up := by
  show (((w.setCell _ _).setCell _ _).setCell _ _).heap[b]? = _
  rw [Below.heap_setCell _ _ _ _ hne, Below.heap_setCell _ _ _ _ hne, Below.heap_setCell _ _ _ _ hne]
  exact h
theorem box_s (w : World) (p : Nat) (up : Bool) (x y z : Value) : ∃ W, W = ((w.alloc (.cells #[.int .i64 (p : Int), .bool up] 61)).alloc (.cells #[x, y, z] 24)).alloc (.cells #[.bool false, .slice none 0 0, .int .i64 0] 24) ∧
    Kept w W ∧ SBlk W w.heap.size p up ∧ Blk W (w.heap.size + 1) x y z ∧ Blk W (w.heap.size + 1 + 1) (.bool false) (.slice none 0 0) (.int .i64 0) := by
  refine ⟨_, rfl, ((kept_alloc _ _).trans (kept_alloc _ _)).trans (kept_alloc _ _), ?_, ?_, blk_new2' _ _ _ _ _ _⟩
  · exact SBlk.kept (SBlk.kept (show SBlk (w.alloc _) _ _ _ from heap_alloc_new _ _) (kept_alloc _ _)) (kept_alloc _ _)
  · exact (blk_new1 _ _ _ _ _).kept (kept_alloc _ _)

set_option maxHeartbeats 2000000 in
set_option maxRecDepth 100000 in
theorem xroundU {w : World} {v : Value} {p : Nat} {d : Dy} (hv : DyR w v d.raw) (ok : d.Ok) (p1 : 1 ≤ p) (p2 : p ≤ 2000) (hT : Tab w) :
    Calls Tryd.prog 43 #[.agg #[.int .i64 (p : Int), .bool true], v] w (RetD (rndS p true d).raw w) := by
  have C := Lib.hid (fun w1 v1 (k : Kept w w1) (h : DyR w1 v1 d.raw) => Up_c h ok (hT.kept k) p1 p2)
  obtain ⟨A, l, c, rfl, hs⟩ := dyR_split hv
  have HS := Lib.hid hs
  clear hv hs hT ok p1 p2
  have hd : rndS p true d = (dirD d p true).v := rfl
  rw [hd]
  obtain ⟨o, ho⟩ : ∃ o, o = (dirD d p true).raw := ⟨_, rfl⟩
  rw [← ho] at C
  have hr : (dirD d p true).v.raw = o.v := by rw [ho]; rfl
  rw [hr]
  clear hr ho hd
  generalize d.raw = r at *
  generalize d.neg = n1 at *
  generalize d.e = e at *
  obtain ⟨W, hW, kW, BS, BA, BR⟩ := box_s w p true (.bool n1) (.slice A l c) (.int .i64 e)
  have HW := Lib.hid hW
  have K := Lib.hid kW
  have HB := Lib.hid BR
  obtain ⟨-, s0, s1⟩ := BS.facts
  obtain ⟨-, a0, a1, a2, -⟩ := BA.facts
  clear hW kW BR
  go_enter Tryd.func43, Tryd.ntmps43
  go_upto_region 1 with fail
  rw [← HW.out]
  go_wp2_with fail
  refine (C.out _ _ K.out (HS.out.kept K.out)).mono ?_
  rintro ee w1 ⟨q, u, rfl, hd⟩
  simp only []
  have KK := Lib.hid (K.out.trans q)
  have HD := Lib.hid hd
  replace HB := Lib.hid (HB.out.kept q)
  clear q hd a0 a1 a2 s0 s1
  go_wp2_with fail
  refine (xsure_c HD.out).mono ?_
  rintro ee w2 ⟨q, v2, rfl, hd2⟩
  obtain ⟨A', l', c', rfl, -, hd, g1, g2⟩ := hd2.shape
  replace KK := Lib.hid (KK.out.trans q)
  replace HB := Lib.hid (HB.out.kept q)
  replace HD := Lib.hid hd
  clear q hd hd2
  obtain ⟨-, x0, x1, x2, f0, f1, f2⟩ := HB.out.facts
  simp only []
  go_wp2_with fail
  exact ret_dy (HB.out.laid _ _ _) rfl rfl rfl ⟨dyW_kept KK.out (by omega), _, rfl, (HD.out.dyW HB.out (noLimb_bool _) (noLimb_slice _ _ _) (noLimb_i64 _)).dyR g1 g2⟩
set_option maxHeartbeats 2000000 in
set_option maxRecDepth 100000 in
theorem xroundD {w : World} {v : Value} {p : Nat} {d : Dy} (hv : DyR w v d.raw) (ok : d.Ok) (p1 : 1 ≤ p) (p2 : p ≤ 2000) (hT : Tab w) :
    Calls Tryd.prog 43 #[.agg #[.int .i64 (p : Int), .bool false], v] w (RetD (rndS p false d).raw w) := by
  have C := Lib.hid (fun w1 v1 (k : Kept w w1) (h : DyR w1 v1 d.raw) => Down_c h ok (hT.kept k) p1 p2)
  obtain ⟨A, l, c, rfl, hs⟩ := dyR_split hv
  have HS := Lib.hid hs
  clear hv hs hT ok p1 p2
  have hd : rndS p false d = (dirD d p false).v := rfl
  rw [hd]
  obtain ⟨o, ho⟩ : ∃ o, o = (dirD d p false).raw := ⟨_, rfl⟩
  rw [← ho] at C
  have hr : (dirD d p false).v.raw = o.v := by rw [ho]; rfl
  rw [hr]
  clear hr ho hd
  generalize d.raw = r at *
  generalize d.neg = n1 at *
  generalize d.e = e at *
  obtain ⟨W, hW, kW, BS, BA, BR⟩ := box_s w p false (.bool n1) (.slice A l c) (.int .i64 e)
  have HW := Lib.hid hW
  have K := Lib.hid kW
  have HB := Lib.hid BR
  obtain ⟨-, s0, s1⟩ := BS.facts
  obtain ⟨-, a0, a1, a2, -⟩ := BA.facts
  clear hW kW BR
  go_enter Tryd.func43, Tryd.ntmps43
  go_upto_region 1 with fail
  rw [← HW.out]
  go_wp2_with fail
  refine (C.out _ _ K.out (HS.out.kept K.out)).mono ?_
  rintro ee w1 ⟨q, u, rfl, hd⟩
  simp only []
  have KK := Lib.hid (K.out.trans q)
  have HD := Lib.hid hd
  replace HB := Lib.hid (HB.out.kept q)
  clear q hd a0 a1 a2 s0 s1
  go_wp2_with fail
  refine (xsure_c HD.out).mono ?_
  rintro ee w2 ⟨q, v2, rfl, hd2⟩
  obtain ⟨A', l', c', rfl, -, hd, g1, g2⟩ := hd2.shape
  replace KK := Lib.hid (KK.out.trans q)
  replace HB := Lib.hid (HB.out.kept q)
  replace HD := Lib.hid hd
  clear q hd hd2
  obtain ⟨-, x0, x1, x2, f0, f1, f2⟩ := HB.out.facts
  simp only []
  go_wp2_with fail
  exact ret_dy (HB.out.laid _ _ _) rfl rfl rfl ⟨dyW_kept KK.out (by omega), _, rfl, (HD.out.dyW HB.out (noLimb_bool _) (noLimb_slice _ _ _) (noLimb_i64 _)).dyR g1 g2⟩
theorem xround_c {w : World} {v : Value} {p : Nat} {up : Bool} {d : Dy} (hv : DyR w v d.raw) (ok : d.Ok) (p1 : 1 ≤ p) (p2 : p ≤ 2000) (hT : Tab w) :
    Calls Tryd.prog 43 #[.agg #[.int .i64 (p : Int), .bool up], v] w (RetD (rndS p up d).raw w) := by
  cases up
  · exact xroundD hv ok p1 p2 hT
  · exact xroundU hv ok p1 p2 hT

end Go.Proofs.YtjdplcenniogdaaDoor
