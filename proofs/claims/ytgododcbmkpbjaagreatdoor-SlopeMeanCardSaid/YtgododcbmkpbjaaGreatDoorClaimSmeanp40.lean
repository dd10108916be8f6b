/- SlopeLines: of a sum of states with numbers the derivatives are the numbers. -/
import Derived.Test.YtgododcbmkpbjaaGreatDoorClaimSmeanp19
import Derived.Test.YtgododcbmkpbjaaGreatDoorClaimSmeanp22
import Derived.Test.YtgododcbmkpbjaaGreatDoorClaimSmeanp30
import Derived.Test.YtgododcbmkpbjaaGreatDoorClaimSmeanp32
import Derived.Test.YtgododcbmkpbjaaGreatDoorClaimSmeanp39
set_option maxRecDepth 100000
set_option maxHeartbeats 16000000
namespace Go.Proofs.YtgododcbmkpbjaaGreatDoor
open Go.RowKit
theorem dof_z {w : World} {z : Int} (hz : z.natAbs ≤ 100000) {e : Int} (e1 : -40 ≤ e) (e2 : e ≤ 0) (hT : Tab w) : Calls Tryz.prog 13 #[.int .i64 z, .int .i64 e] w (RetE ⟨(dyz z e).raw, 0⟩ w) := by
 have hf := dyz_fit (smZ hz e1 e2)
 by_cases h : z < 0
 ·obtain ⟨n, rfl⟩ : ∃ n : Nat, z = -(n : Int) := ⟨z.natAbs, by omega⟩
  have := Of_neg (w := w) (k := n) (e := e) (by omega) (by omega) (by omega) (by omega) hT
  rw [decide_eq_true h, Int.natAbs_neg, Int.natAbs_natCast] at hf
  rw [hf] at this
  exact this
 ·obtain ⟨n, rfl⟩ : ∃ n : Nat, z = (n : Int) := ⟨z.natAbs, by omega⟩
  have := Of_pos (w := w) (k := n) (e := e) (by omega) (by omega) (by omega) hT
  rw [decide_eq_false h, Int.natAbs_natCast] at hf
  rw [hf] at this
  exact this
theorem RetGr.good {o : Outc (List RawI × List (List RawI))} {w w' : World} {e : Ending} (h : RetGr o w e w') : GoodEnd (fun u w => ∃ a b, u = .tuple #[a, b, .int .i64 o.k] ∧ IvS w a o.v.1 ∧ RowsS w b o.v.2) w e w' := by
 obtain ⟨k, a, b, he, h1, h2⟩ := h
 exact ⟨_, he, k, a, b, rfl, h1, h2⟩
/-- What Grad's three answers are. -/
def GrV (o : Outc (List RawI × List (List RawI))) (w : World) (u : Value) : Prop := ∃ a b, u = .tuple #[a, b, .int .i64 o.k] ∧ IvS w a o.v.1 ∧ RowsS w b o.v.2
theorem GrV.kept {o : Outc (List RawI × List (List RawI))} {w w' : World} {u : Value} (h : GrV o w u) (k : Kept w w') : GrV o w' u := by
 obtain ⟨a, b, e, h1, h2⟩ := h
 exact ⟨a, b, e, h1.kept k, h2.kept k⟩
theorem dyz9 : (dyz 9 0).raw = ⟨false, [9], 0⟩ := by
 have hl := limbs_one 9 (by decide) (by decide)
 have h : fitD false 9 0 = ⟨⟨false, 9, 0⟩, 0⟩ := fitD_self (d := ⟨false, 9, 0⟩) ⟨by rw [hl]; decide, fun h => absurd h (by decide), fun _ => rfl, by decide, by decide⟩
 have h2 : dyz 9 0 = ⟨false, 9, 0⟩ := congrArg Outc.v h
 rw [h2]; unfold Dy.raw; rw [hl]
theorem dyz6 : (dyz 6 0).raw = ⟨false, [3], 1⟩ := by
 have hl := limbs_one 3 (by decide) (by decide)
 have ht : tz 6 = 1 := tz_unique 6 1 3 rfl rfl
 have h : fitD false 6 0 = ⟨⟨false, 3, 1⟩, 0⟩ := by
  unfold fitD
  rw [ht, if_neg (by decide), if_neg (by show ¬ 64 < (limbs 3).length; rw [hl]; decide), if_neg (by decide), if_neg (by decide)]
  rfl
 have h2 : dyz 6 0 = ⟨false, 3, 1⟩ := congrArg Outc.v h
 rw [h2]; unfold Dy.raw; rw [hl]
theorem lnOk_t10 : LnOk t10L := by
 intro l hl
 unfold t10L at hl
 simp only [List.mem_cons, List.not_mem_nil, or_false] at hl
 rcases hl with rfl | rfl
 ·exact ⟨by decide, by decide, by show (0 : Nat) ≤ 17592186044416; decide, by show (0 : Nat) ≤ 17592186044416; decide⟩
 ·exact ⟨by decide, by decide, by show (0 : Nat) ≤ 17592186044416; decide, by show (0 : Nat) ≤ 17592186044416; decide⟩
theorem rzI_lens : rzI.lens 17592186044416 := ⟨by show (0 : Nat) ≤ 17592186044416; decide, by show (0 : Nat) ≤ 17592186044416; decide⟩
theorem lens_t10 : EnLens t10E := ⟨rzI_lens, (by
 intro a ha
 unfold t10E at ha
 simp only [List.mem_cons, List.not_mem_nil, or_false] at ha
 subst ha
 exact iv_lens (pt_ok (dyz_ok 3 0))), (by intro a ha; cases ha), (by intro a ha; cases ha), by decide, by decide, by decide⟩
theorem lens_t0 : EnLens ⟨rzI, [], [], []⟩ := ⟨rzI_lens, (by intro a ha; cases ha), (by intro a ha; cases ha), (by intro a ha; cases ha), by decide, by decide, by decide⟩
theorem lnS_blk {w : World} {b : Nat} {cs : Array Value} {T : TypeId} {ls : List Ln} (h : w.heap[b]? = some (.cells cs T (0, 0))) (hc : RowC (CellL w) cs.toList ls) : LnS w (.slice (some ⟨b, 0, none⟩) ls.length ls.length) ls := by
 refine ⟨_, _, rfl, Nat.le_refl _, fun _ => ⟨b, 0, rfl, fun i a hi => ?_⟩⟩
 obtain ⟨cc, ⟨x, y, z, x', y', z', rfl, hI⟩, hj⟩ := hc.at CellL.len i a hi
 rw [Nat.zero_add]
 have hcl : ∀ (j : Nat) u, cs.toList[j]? = some u → w.cell? ⟨b, j, none⟩ = some u := fun j u hu => cell_of_block h j u (by rwa [Array.getElem?_toList] at hu)
 exact ⟨hcl _ _ (hj 0 (by decide)), hcl _ _ (hj 1 (by decide)), hcl _ _ (hj 2 (by decide)), x, y, z, x', y', z', hcl _ _ (hj 3 (by decide)), hcl _ _ (hj 4 (by decide)), hcl _ _ (hj 5 (by decide)), hcl _ _ (hj 6 (by decide)), hcl _ _ (hj 7 (by decide)), hcl _ _ (hj 8 (by decide)), hI⟩
theorem insS_one {w : World} {b : Nat} {T : TypeId} {n : Int} (h : w.heap[b]? = some (.cells #[.int .i64 n] T (0, 0))) : InS w (.slice (some ⟨b, 0, none⟩) 1 1) [n] :=
 ⟨_, _, rfl, Nat.le_refl _, fun _ => ⟨b, 0, rfl, fun i a hi => by
  rcases i with _ | i
  ·cases hi; exact cell_of_block h 0 _ rfl
  ·simp at hi⟩⟩
theorem cellL_z (w : World) (op a b : Int) : CellL w [.int .i64 op, .int .i64 a, .int .i64 b, .bool false, .slice none 0 0, .int .i64 0, .bool false, .slice none 0 0, .int .i64 0] ⟨op, a, b, rzI⟩ := ⟨_, _, _, _, _, _, rfl, ivR_zero w⟩
/-- The boxes of told's tape. -/
theorem boxT10 (w : World) : ∃ V, V = ((w.alloc (.cells #[.int .i64 3, .int .i64 0, .int .i64 0, .bool false, .slice none 0 0, .int .i64 0, .bool false, .slice none 0 0, .int .i64 0, .int .i64 8, .int .i64 0, .int .i64 0, .bool false, .slice none 0 0, .int .i64 0, .bool false, .slice none 0 0, .int .i64 0] 41)).alloc
 (.cells #[.int .i64 1] 3)).alloc (.cells #[.slice (some ⟨w.heap.size, 0, none⟩) 2 2, .slice (some ⟨w.heap.size + 1, 0, none⟩) 1 1] 27) ∧ Kept w V ∧
 V.heap[w.heap.size + 1 + 1]? = some (.cells #[.slice (some ⟨w.heap.size, 0, none⟩) 2 2, .slice (some ⟨w.heap.size + 1, 0, none⟩) 1 1] 27 (0, 0)) ∧
 TpR V (.agg #[.slice (some ⟨w.heap.size, 0, none⟩) 2 2, .slice (some ⟨w.heap.size + 1, 0, none⟩) 1 1]) t10L [1] := by
 obtain ⟨w1, h1⟩ : ∃ w1, w1 = w.alloc (.cells #[.int .i64 3, .int .i64 0, .int .i64 0, .bool false, .slice none 0 0, .int .i64 0, .bool false, .slice none 0 0, .int .i64 0, .int .i64 8, .int .i64 0, .int .i64 0, .bool false, .slice none 0 0, .int .i64 0, .bool false, .slice none 0 0, .int .i64 0] 41) := ⟨_, rfl⟩
 have k1 : Kept w w1 := by rw [h1]; exact kept_alloc _ _
 have s1 : w1.heap.size = w.heap.size + 1 := by rw [h1]; simp
 have b1 := (congrArg (fun v : World => v.heap[w.heap.size]?) h1).trans (heap_alloc_new _ _)
 rw [← h1]
 obtain ⟨w2, h2⟩ : ∃ w2, w2 = w1.alloc (.cells #[.int .i64 1] 3) := ⟨_, rfl⟩
 have k2 : Kept w1 w2 := by rw [h2]; exact kept_alloc _ _
 have s2 : w2.heap.size = w.heap.size + 1 + 1 := by rw [h2, ← s1]; simp
 have b2 := (congrArg (fun v : World => v.heap[w1.heap.size]?) h2).trans (heap_alloc_new _ _)
 rw [← h2]
 refine ⟨_, rfl, (k1.trans k2).trans (kept_alloc _ _), ?_, _, _, rfl, ?_, ?_⟩
 ·rw [← s2]; exact heap_alloc_new _ _
 ·have hb := blk_kept b1 (k2.trans (kept_alloc w2 (.cells #[.slice (some ⟨w.heap.size, 0, none⟩) 2 2, .slice (some ⟨w.heap.size + 1, 0, none⟩) 1 1] 27)))
  exact lnS_blk hb (RowC.append (RowC.one (cellL_z _ 3 0 0)) (RowC.one (cellL_z _ 8 0 0)))
 ·have hb := blk_kept b2 (kept_alloc w2 (.cells #[.slice (some ⟨w.heap.size, 0, none⟩) 2 2, .slice (some ⟨w.heap.size + 1, 0, none⟩) 1 1] 27))
  rw [s1] at hb
  exact insS_one hb
theorem lim_new {w : World} {b n : Nat} {T : TypeId} (hn : n < 18446744073709551616) (h : w.heap[b]? = some (.cells #[.int .u64 (n : Int)] T (0, 0))) : Lim w (.slice (some ⟨b, 0, none⟩) 1 1) [n] := by
 refine ⟨fun x hx => by simp at hx; omega, some ⟨b, 0, none⟩, 1, rfl, Nat.le_refl _, fun _ => ⟨b, 0, rfl, (Array.getElem?_eq_some_iff.1 h).1, fun i hi => ?_⟩⟩
 have hi : i < 1 := hi
 obtain rfl : i = 0 := by omega
 exact cell_of_block h 0 _ rfl
/-- Sums, differences, products. -/
def S678 (op : Int) : Prop := op = 6 ∨ op = 7 ∨ op = 8
theorem ops678 : OpsC S678 :=
 ⟨fun _ _ _ _ _ _ _ => Add_k, fun _ _ _ _ _ _ _ => Sub_k, fun _ _ _ _ _ _ _ => Mul_k, fun h => absurd h (by unfold S678; decide), fun h => absurd h (by unfold S678; decide), fun h => absurd h (by unfold S678; decide), fun h => absurd h (by unfold S678; decide)⟩
/-- Tapes of these alone. -/
def Op678 (ls : List Ln) : Prop := ∀ l ∈ ls, l.op = 1 ∨ l.op = 3 ∨ l.op = 6 ∨ l.op = 7 ∨ l.op = 8
theorem Op678.s {ls : List Ln} (h : Op678 ls) : ∀ l ∈ ls, 6 ≤ l.op → l.op ≤ 12 → S678 l.op := fun l hl h6 _ => by
 have := h l hl
 unfold S678
 omega
theorem Op678.d {ls : List Ln} (h : Op678 ls) : ∀ l ∈ ls, DerS S678 l.op := fun l hl n hn => by
 rcases h l hl with e | e | e | e | e <;> rw [e] at hn <;> (unfold S678; simp [needs] at hn <;> omega)
theorem told10_c {w : World} (hT : Tab w) : Calls Tryz.prog 12 #[] w (RetK (.bool true) w) := by
 have T := Lib.hid hT
 have O10 : Op678 t10L := by intro l hl; unfold t10L at hl; simp only [List.mem_cons, List.not_mem_nil, or_false] at hl; rcases hl with rfl | rfl <;> simp
 obtain ⟨d3, hd3⟩ : ∃ d, d = dyz 3 0 := ⟨_, rfl⟩
 have C1 := Lib.hid (fun w1 (k : Kept w w1) => show Calls Tryz.prog 13 #[.int .i64 3, .int .i64 0] w1 (RetE ⟨d3.raw, 0⟩ w1) by rw [hd3]; exact dof_z (z := 3) (e := 0) (by decide) (by decide) (by decide) (hT.kept k))
 have C2 := Lib.hid (fun w1 (k : Kept w w1) vt ve (ht : TpR w1 vt t10L [1]) (he : EnR w1 ve ⟨rzI, [(pt d3).raw], [], []⟩) => show Calls Tryz.prog 15 #[vt, ve, .int .i64 20] w1 (RetGr ⟨([(pt (dyz 9 0)).raw], [[(pt (dyz 6 0)).raw]]), 0⟩ w1) by
  have h := grad_c (ov := fun _ _ => ⟨iz, 0⟩) (p := 20) ht (e := t10E) (by rw [hd3] at he; exact he) lnOk_t10 lens_t10 (by decide) (hT.kept k) (by intro l hl; unfold t10L at hl; simp only [List.mem_cons, List.not_mem_nil, or_false] at hl; rcases hl with rfl | rfl <;> (intro h; exact absurd h (by decide))) ops678 O10.s O10.d
  rw [t10_grad] at h
  exact h)
 have C3 := Lib.hid (fun w1 (k : Kept w w1) vt ve (ht : TpR w1 vt t10L [1]) (he : EnR w1 ve ⟨rzI, [], [], []⟩) => show Calls Tryz.prog 15 #[vt, ve, .int .i64 20] w1 (RetGr ⟨([], []), 1⟩ w1) by
  have h := grad_c (ov := fun _ _ => ⟨iz, 0⟩) (p := 20) ht he lnOk_t10 lens_t0 (by decide) (hT.kept k) (by intro l hl; unfold t10L at hl; simp only [List.mem_cons, List.not_mem_nil, or_false] at hl; rcases hl with rfl | rfl <;> (intro h; exact absurd h (by decide))) ops678 O10.s O10.d
  rw [t10_none] at h
  exact h)
 have G9 := Lib.hid (show (pt (dyz 9 0)).raw = ⟨⟨false, [9], 0⟩, ⟨false, [9], 0⟩⟩ by show RawI.mk (dyz 9 0).raw (dyz 9 0).raw = _; rw [dyz9])
 have G6 := Lib.hid (show (pt (dyz 6 0)).raw = ⟨⟨false, [3], 1⟩, ⟨false, [3], 1⟩⟩ by show RawI.mk (dyz 6 0).raw (dyz 6 0).raw = _; rw [dyz6])
 rw [G9.out, G6.out] at C2
 clear hd3 hT G9 G6 O10
 go_enter Tryz.func12, Tryz.ntmps12
 go_wp2_with fail
 refine (C1.out _ (Below.refl _ _)).mono ?_
 rintro e w1 ⟨q, u, rfl, hd⟩
 obtain ⟨A1, l1, c1, rfl, hd⟩ := dyR_split hd
 simp only []
 obtain ⟨V1, hV1, kV1, hb1, lV1⟩ := boxD w1 (.bool d3.neg) (.slice A1 l1 c1) (.int .i64 d3.e)
 have HV := Lib.hid hV1
 have K := Lib.hid (q.trans kV1)
 have B1 := Lib.hid hb1
 have D1 := Lib.hid (hd.kept kV1)
 clear hV1 hb1 hd q kV1
 go_upto_region 2 with fail
 rw [← HV.out]
 clear HV
 obtain ⟨V2, hV2, kV2, hb2, ht2⟩ := boxT10 V1
 have HV := Lib.hid hV2
 have B2 := Lib.hid hb2
 have T2 := Lib.hid ht2
 have KX := Lib.hid kV2
 clear hV2 hb2 ht2 kV2
 go_upto_region 3 with fail
 rw [← HV.out]
 clear HV
 replace K := Lib.hid (K.out.trans KX.out)
 replace D1 := Lib.hid (D1.out.kept KX.out)
 replace B1 := Lib.hid (B1.out.kept KX.out)
 clear KX
 generalize V1.heap.size + 1 + 1 = n3 at *
 generalize w1.heap.size = n1 at *
 refine region_lin (m := 13) (V := VL [(vE (.agg #[.slice (some ⟨V1.heap.size, 0, none⟩) 2 2, .slice (some ⟨V1.heap.size + 1, 0, none⟩) 1 1])), (vE (.agg #[.bool d3.neg, .slice A1 l1 c1, .int .i64 d3.e])), (fun v wv => IvR wv v ((pt d3).raw)), (fun v wv => IvS wv v [(pt d3).raw]), (fun v wv => EnR wv v ⟨rzI, [(pt d3).raw], [], []⟩), (fun v wv => GrV ⟨([⟨⟨false, [9], 0⟩, ⟨false, [9], 0⟩⟩], [[⟨⟨false, [3], 1⟩, ⟨false, [3], 1⟩⟩]]), 0⟩ wv v), (fun v wv => GrV ⟨([⟨⟨false, [9], 0⟩, ⟨false, [9], 0⟩⟩], [[⟨⟨false, [3], 1⟩, ⟨false, [3], 1⟩⟩]]), 0⟩ wv v), (fun v wv => IvS wv v [⟨⟨false, [9], 0⟩, ⟨false, [9], 0⟩⟩]), (fun v wv => RowsS wv v [[⟨⟨false, [3], 1⟩, ⟨false, [3], 1⟩⟩]]), (vE (.int .i64 0)), (fun v wv => IvS wv v [⟨⟨false, [9], 0⟩, ⟨false, [9], 0⟩⟩]), (fun v wv => RowsS wv v [[⟨⟨false, [3], 1⟩, ⟨false, [3], 1⟩⟩]]), (vE (.int .i64 0))])
  (by kernel_rfl) rfl (by kernel_rfl) (by kernel_rfl) (by kernel_rfl) (mono_of _ ⟨mE, mE, fun v w w' k h => by first | exact h | exact h.kept k | exact ⟨h.1, h.2.kept k⟩, fun v w w' k h => by first | exact h | exact h.kept k | exact ⟨h.1, h.2.kept k⟩, fun v w w' k h => by first | exact h | exact h.kept k | exact ⟨h.1, h.2.kept k⟩, fun v w w' k h => by first | exact h | exact h.kept k | exact ⟨h.1, h.2.kept k⟩, fun v w w' k h => by first | exact h | exact h.kept k | exact ⟨h.1, h.2.kept k⟩, fun v w w' k h => by first | exact h | exact h.kept k | exact ⟨h.1, h.2.kept k⟩, fun v w w' k h => by first | exact h | exact h.kept k | exact ⟨h.1, h.2.kept k⟩, mE, fun v w w' k h => by first | exact h | exact h.kept k | exact ⟨h.1, h.2.kept k⟩, fun v w w' k h => by first | exact h | exact h.kept k | exact ⟨h.1, h.2.kept k⟩, mE, trivial⟩) (steps_of ⟨
    (fun aF wF F => by have s3 : aF.tmps.getD 3 undef = (.pointer (some ⟨n3, 0, none⟩)) := F.o 3; have c0 := cell_at B2.out F.kept 0 _ rfl; have c1 := cell_at B2.out F.kept 1 _ rfl; exact sv rfl), (fun aF wF F => by have s1 : aF.tmps.getD 1 undef = (.pointer (some ⟨n1, 0, none⟩)) := F.o 1; have c0 := cell_at B1.out F.kept 0 _ rfl; have c1 := cell_at B1.out F.kept 1 _ rfl; have c2 := cell_at B1.out F.kept 2 _ rfl; exact sv rfl), (fun aF wF F => by have s21 := F.v 1 21; exact sI (iof_c (D1.out.kept F.kept)) fun _ _ h => h), (fun aF wF F => by have s22 := F.p 2 22; obtain ⟨P1, t1, k1, P2, t2, k2, ee, v1', v2'⟩ := ivR_split s22; simp only [Array.getD_eq_getD_getElem?] at ee; exact step_new (by simp [Region.wanted]) (by first | (go_simp; done) | (go_simp; rfl)) (kept_alloc _ _) (ivS_new1 ⟨_, _, _, _, _, _, rfl, v1', v2'⟩)), (fun aF wF F => by have s23 := F.p 3 23; have hs := s23; obtain ⟨A9, c9, e9, -, -⟩ := s23; rw [e9] at hs; simp only [Array.getD_eq_getD_getElem?] at e9; exact step_val (by simp [Region.wanted]) (by go_simp) ⟨_, _, _, _, _, _, _, _, _, rfl, ivR_zero _, hs, ivS_nil _, ivS_nil _⟩), (fun aF wF F => by have s20 := F.v 0 20; have s24 := F.p 4 24; exact step_good (by simp [Region.wanted]) (by go_simp) (C2.out _ (K.out.trans F.kept) _ _ (T2.out.kept F.kept) s24) (fun _ _ h => RetGr.good h) (fun _ _ h => h)), (fun aF wF F => by have s25 := F.p 5 25; exact step_val (by simp [Region.wanted]) rfl s25), (fun aF wF F => by have s19 := F.p 6 19; obtain ⟨a, b, ee, h1, h2⟩ := s19; exact step_val (by simp [Region.wanted]) (by go_simp) h1), (fun aF wF F => by have s19 := F.p 6 19; obtain ⟨a, b, ee, h1, h2⟩ := s19; exact step_val (by simp [Region.wanted]) (by go_simp) h2), (fun aF wF F => by have s19 := F.p 6 19; exact sw (by obtain ⟨a, b, ee, h1, h2⟩ := s19; go_simp) rfl), (fun aF wF F => by have s26 := F.p 7 26; exact step_val (by simp [Region.wanted]) rfl s26), (fun aF wF F => by have s27 := F.p 8 27; exact step_val (by simp [Region.wanted]) rfl s27), (fun aF wF F => by have s28 := F.v 9 28; exact sv rfl),
    trivial⟩) ?_
 intro u w2 q hu
 have p22 := hp hu 2
 have p23 := hp hu 3
 have p24 := hp hu 4
 have p25 := hp hu 5
 have p19 := hp hu 6
 have p26 := hp hu 7
 have p27 := hp hu 8
 have p4 := hp hu 10
 have p5 := hp hu 11
 simp only [puts, slotOf, if_true, Act.put, z1, z2, z3, z4, z5, z6, z7, hv hu 0, hv hu 1, hv hu 9, hv hu 12]
 clear hu
 generalize u 2 = v22 at *
 generalize u 3 = v23 at *
 generalize u 4 = v24 at *
 generalize u 5 = v25 at *
 generalize u 6 = v19 at *
 generalize u 7 = v26 at *
 generalize u 8 = v27 at *
 generalize u 10 = v4 at *
 generalize u 11 = v5 at *
 clear p19 p22 p23 p24 p25 p26 p27
 obtain ⟨A4, c4, rfl, -, h4⟩ := p4
 obtain ⟨b4, o4, rfl, g4⟩ := h4 (by simp)
 obtain ⟨x0, x1, x2, x3, x4, x5, s0, s1, s2, s3, s4, s5, hI4⟩ := g4 0 _ rfl
 obtain ⟨A5, c5, rfl, -, h5⟩ := p5
 obtain ⟨b5, o5, rfl, g5⟩ := h5 (by simp)
 obtain ⟨s, hs, hS⟩ := g5 0 _ rfl
 obtain ⟨A6, c6, rfl, -, h6⟩ := hS
 obtain ⟨b6, o6, rfl, g6⟩ := h6 (by simp)
 obtain ⟨y0, y1, y2, y3, y4, y5, r0, r1, r2, r3, r4, r5, hI6⟩ := g6 0 _ rfl
 rw [Nat.zero_mul, Nat.add_zero] at s0 s1 s2 r0 r1 r2
 rw [Nat.add_zero] at hs
 have E0 := Lib.hid (And.intro s0 (And.intro s1 s2))
 have E6 := Lib.hid (And.intro r0 (And.intro r1 r2))
 have ES := Lib.hid hs
 obtain ⟨_, _, _, _, _, _, hh4, d4, -⟩ := hI4
 simp only [Value.agg.injEq, List.cons.injEq, Array.mk.injEq, and_true] at hh4
 obtain ⟨rfl, rfl, rfl, rfl, rfl, rfl⟩ := hh4
 obtain ⟨_, _, _, _, _, _, hh6, d6, -⟩ := hI6
 simp only [Value.agg.injEq, List.cons.injEq, Array.mk.injEq, and_true] at hh6
 obtain ⟨rfl, rfl, rfl, rfl, rfl, rfl⟩ := hh6
 have D4 := Lib.hid d4
 have D6 := Lib.hid d6
 clear s0 s1 s2 s3 s4 s5 r0 r1 r2 r3 r4 r5 d4 d6 h4 h5 h6 g4 g5 g6 hs
 obtain ⟨e0, e1⟩ := cells2 (blk_kept B2.out q)
 replace K := Lib.hid (K.out.trans q)
 have TT2 := Lib.hid (T2.out.kept q)
 clear B1 B2 D1 T2 q
 go_wp2_with fail
 refine (C3.out _ K.out _ _ TT2.out ⟨_, _, _, _, _, _, _, _, _, rfl, ivR_zero _, ivS_nil _, ivS_nil _, ivS_nil _⟩).mono ?_
 rintro e w3 ⟨q3, a, b, rfl, -, -⟩
 replace K := Lib.hid (K.out.trans q3)
 have F0 := Lib.hid (show w3.cell? ⟨b4, o4, none⟩ = some x0 ∧ w3.cell? ⟨b4, o4 + 1, none⟩ = some x1 ∧ w3.cell? ⟨b4, o4 + 2, none⟩ = some x2 from
  ⟨(q3.cell (p := ⟨b4, o4, none⟩) (lt_of_cell E0.out.1)).trans E0.out.1, (q3.cell (p := ⟨b4, o4 + 1, none⟩) (lt_of_cell E0.out.2.1)).trans E0.out.2.1, (q3.cell (p := ⟨b4, o4 + 2, none⟩) (lt_of_cell E0.out.2.2)).trans E0.out.2.2⟩)
 have F6 := Lib.hid (show w3.cell? ⟨b6, o6, none⟩ = some y0 ∧ w3.cell? ⟨b6, o6 + 1, none⟩ = some y1 ∧ w3.cell? ⟨b6, o6 + 2, none⟩ = some y2 from
  ⟨(q3.cell (p := ⟨b6, o6, none⟩) (lt_of_cell E6.out.1)).trans E6.out.1, (q3.cell (p := ⟨b6, o6 + 1, none⟩) (lt_of_cell E6.out.2.1)).trans E6.out.2.1, (q3.cell (p := ⟨b6, o6 + 2, none⟩) (lt_of_cell E6.out.2.2)).trans E6.out.2.2⟩)
 have FS := Lib.hid ((q3.cell (p := ⟨b5, o5, none⟩) (lt_of_cell ES.out)).trans ES.out)
 replace D4 := Lib.hid (D4.out.kept q3)
 replace D6 := Lib.hid (D6.out.kept q3)
 clear E0 E6 ES TT2 q3 e0 e1 C1 C2 C3
 simp only []
 go_upto_region 5 with fail
 refine region_seq (m := 48) (V := VL [(vE (.int .i64 0)), (vE (.bool true)), (vE (.bool true)), (vE (.int .i64 0)), (vE (.bool true)), (vE (.bool true)), (vE (.bool true)), (vE (.slice (some ⟨b4, o4, none⟩) 1 c4)), (vE (.int .i64 1)), (vE (.bool true)), (vE (.bool true)), (vE (.bool true)), (vE (.slice (some ⟨b4, o4, none⟩) 1 c4)), (vE (.pointer (some ⟨b4, o4, none⟩))), (vE (.pointer (some ⟨b4, o4, none⟩))), (vE (.agg #[x0, x1, x2])), (fun v wv => ∃ b, v = .slice (some ⟨b, 0, none⟩) 1 1 ∧ Lim wv (.slice (some ⟨b, 0, none⟩) 1 1) [9]), (fun v wv => DyR wv v ⟨false, [9], 0⟩), (vE (.bool true)), (vE (.bool true)), (vE (.bool true)), (vE (.slice (some ⟨b5, o5, none⟩) 1 c5)), (vE (.int .i64 1)), (vE (.bool true)), (vE (.bool true)), (vE (.bool true)), (vE (.slice (some ⟨b5, o5, none⟩) 1 c5)), (vE (.pointer (some ⟨b5, o5, none⟩))), (vE (.slice (some ⟨b6, o6, none⟩) 1 c6)), (vE (.int .i64 1)), (vE (.bool true)), (vE (.bool true)), (vE (.bool true)), (vE (.slice (some ⟨b5, o5, none⟩) 1 c5)), (vE (.pointer (some ⟨b5, o5, none⟩))), (vE (.slice (some ⟨b6, o6, none⟩) 1 c6)), (vE (.pointer (some ⟨b6, o6, none⟩))), (vE (.pointer (some ⟨b6, o6, none⟩))), (vE (.agg #[y0, y1, y2])), (fun v wv => ∃ b, v = .slice (some ⟨b, 0, none⟩) 1 1 ∧ Lim wv (.slice (some ⟨b, 0, none⟩) 1 1) [3]), (fun v wv => DyR wv v ⟨false, [3], 1⟩), (vE (.bool true)), (vE (.bool true)), (vE (.bool true)), (vE (.int .i64 1)), (vE (.bool true)), (vE (.bool true)), (vE (.bool true))])
  rfl (by kernel_rfl) (by kernel_rfl) (by kernel_rfl) (mono_of _ ⟨mE, mE, mE, mE, mE, mE, mE, mE, mE, mE, mE, mE, mE, mE, mE, mE, fun v w w' k h => by obtain ⟨b, h1, h2⟩ := h; exact ⟨b, h1, h2.kept k⟩, mD, mE, mE, mE, mE, mE, mE, mE, mE, mE, mE, mE, mE, mE, mE, mE, mE, mE, mE, mE, mE, mE, fun v w w' k h => by obtain ⟨b, h1, h2⟩ := h; exact ⟨b, h1, h2.kept k⟩, mD, mE, mE, mE, mE, mE, mE, mE, trivial⟩) (steps_of ⟨
   (fun aF wF F => by have s2 : aF.tmps.getD 2 undef = (.int .i64 0) := F.o 2; exact sv rfl), (fun aF wF F => by have s36 := F.v 0 36; exact sv rfl), (fun aF wF F => by have s37 := F.v 1 37; exact sv rfl), (fun aF wF F => by have s6 : aF.tmps.getD 6 undef = (.int .i64 0) := F.o 6; have sg := F.v 2 38; exact step_val ((wanted_guard rfl rfl sg).trans rfl) (by go_simp) rfl), (fun aF wF F => by have s39 := F.v 3 39; have sg := F.v 2 38; exact step_val ((wanted_guard rfl rfl sg).trans rfl) (by go_simp) rfl), (fun aF wF F => by have s38 := F.v 2 38; have s40 := F.v 4 40; exact sv rfl), (fun aF wF F => by have s41 := F.v 5 41; exact sv rfl), (fun aF wF F => by have s4 : aF.tmps.getD 4 undef = (.slice (some ⟨b4, o4, none⟩) 1 c4) := F.o 4; have sg := F.v 6 42; exact step_val ((wanted_guard rfl rfl sg).trans rfl) (by go_simp) rfl), (fun aF wF F => by have s43 := F.v 7 43; have sg := F.v 6 42; exact step_val ((wanted_guard rfl rfl sg).trans rfl) (by go_simp) rfl), (fun aF wF F => by have s44 := F.v 8 44; have sg := F.v 6 42; exact step_val ((wanted_guard rfl rfl sg).trans rfl) (by go_simp) rfl), (fun aF wF F => by have s42 := F.v 6 42; have s45 := F.v 9 45; exact sv rfl), (fun aF wF F => by have s46 := F.v 10 46; exact sv rfl), (fun aF wF F => by have s4 : aF.tmps.getD 4 undef = (.slice (some ⟨b4, o4, none⟩) 1 c4) := F.o 4; have sg := F.v 11 47; exact step_val ((wanted_guard rfl rfl sg).trans rfl) (by go_simp) rfl), (fun aF wF F => by have s48 := F.v 12 48; have sg := F.v 11 47; exact step_val ((wanted_guard rfl rfl sg).trans rfl) (by go_simp) rfl), (fun aF wF F => by have s49 := F.v 13 49; have sg := F.v 11 47; exact step_val ((wanted_guard rfl rfl sg).trans rfl) (by go_simp) rfl), (fun aF wF F => by have s50 := F.v 14 50; have sg := F.v 11 47; exact step_val ((wanted_guard rfl rfl sg).trans rfl) (by (have n0 := (F.kept.cell (p := ⟨b4, o4, none⟩) (lt_of_cell F0.out.1)).trans F0.out.1; have n1 := (F.kept.cell (p := ⟨b4, o4 + 1, none⟩) (lt_of_cell F0.out.2.1)).trans F0.out.2.1; have n2 := (F.kept.cell (p := ⟨b4, o4 + 2, none⟩) (lt_of_cell F0.out.2.2)).trans F0.out.2.2; go_simp)) rfl), (fun aF wF F => by have sg := F.v 11 47; exact step_new ((wanted_guard rfl rfl sg).trans rfl) (by first | (go_simp; done) | (go_simp; rfl)) (kept_alloc _ _) ⟨_, rfl, lim_new (n := 9) (T := 60) (by decide) (heap_alloc_new _ _)⟩), (fun aF wF F => by have s52 := F.p 16 52; have sg := F.v 11 47; obtain ⟨b, ee, hh⟩ := s52; simp only [Array.getD_eq_getD_getElem?] at ee; exact step_val ((wanted_guard rfl rfl sg).trans rfl) (by go_simp) ⟨_, rfl, hh, by decide, by decide⟩), (fun aF wF F => by have s51 := F.v 15 51; have s53 := F.p 17 53; have sg := F.v 11 47; exact step_good ((wanted_guard rfl rfl sg).trans rfl) (by go_simp) (dsame_c (D4.out.kept F.kept) s53 (by decide)) (fun _ _ h => RetK.good h) (fun _ _ h => h)), (fun aF wF F => by have s47 := F.v 11 47; have s54 := F.v 18 54; exact sv rfl), (fun aF wF F => by have s55 := F.v 19 55; exact sv rfl), (fun aF wF F => by have s5 : aF.tmps.getD 5 undef = (.slice (some ⟨b5, o5, none⟩) 1 c5) := F.o 5; have sg := F.v 20 56; exact step_val ((wanted_guard rfl rfl sg).trans rfl) (by go_simp) rfl), (fun aF wF F => by have s57 := F.v 21 57; have sg := F.v 20 56; exact step_val ((wanted_guard rfl rfl sg).trans rfl) (by go_simp) rfl), (fun aF wF F => by have s58 := F.v 22 58; have sg := F.v 20 56; exact step_val ((wanted_guard rfl rfl sg).trans rfl) (by go_simp) rfl), (fun aF wF F => by have s56 := F.v 20 56; have s59 := F.v 23 59; exact sv rfl), (fun aF wF F => by have s60 := F.v 24 60; exact sv rfl), (fun aF wF F => by have s5 : aF.tmps.getD 5 undef = (.slice (some ⟨b5, o5, none⟩) 1 c5) := F.o 5; have sg := F.v 25 61; exact step_val ((wanted_guard rfl rfl sg).trans rfl) (by go_simp) rfl), (fun aF wF F => by have s62 := F.v 26 62; have sg := F.v 25 61; exact step_val ((wanted_guard rfl rfl sg).trans rfl) (by go_simp) rfl), (fun aF wF F => by have s63 := F.v 27 63; have sg := F.v 25 61; exact step_val ((wanted_guard rfl rfl sg).trans rfl) (by (have n0 := (F.kept.cell (p := ⟨b5, o5, none⟩) (lt_of_cell FS.out)).trans FS.out; go_simp)) rfl), (fun aF wF F => by have s64 := F.v 28 64; have sg := F.v 25 61; exact step_val ((wanted_guard rfl rfl sg).trans rfl) (by go_simp) rfl), (fun aF wF F => by have s65 := F.v 29 65; have sg := F.v 25 61; exact step_val ((wanted_guard rfl rfl sg).trans rfl) (by go_simp) rfl), (fun aF wF F => by have s61 := F.v 25 61; have s66 := F.v 30 66; exact sv rfl), (fun aF wF F => by have s67 := F.v 31 67; exact sv rfl), (fun aF wF F => by have s5 : aF.tmps.getD 5 undef = (.slice (some ⟨b5, o5, none⟩) 1 c5) := F.o 5; have sg := F.v 32 68; exact step_val ((wanted_guard rfl rfl sg).trans rfl) (by go_simp) rfl), (fun aF wF F => by have s69 := F.v 33 69; have sg := F.v 32 68; exact step_val ((wanted_guard rfl rfl sg).trans rfl) (by go_simp) rfl), (fun aF wF F => by have s70 := F.v 34 70; have sg := F.v 32 68; exact step_val ((wanted_guard rfl rfl sg).trans rfl) (by (have n0 := (F.kept.cell (p := ⟨b5, o5, none⟩) (lt_of_cell FS.out)).trans FS.out; go_simp)) rfl), (fun aF wF F => by have s71 := F.v 35 71; have sg := F.v 32 68; exact step_val ((wanted_guard rfl rfl sg).trans rfl) (by go_simp) rfl), (fun aF wF F => by have s72 := F.v 36 72; have sg := F.v 32 68; exact step_val ((wanted_guard rfl rfl sg).trans rfl) (by go_simp) rfl), (fun aF wF F => by have s73 := F.v 37 73; have sg := F.v 32 68; exact step_val ((wanted_guard rfl rfl sg).trans rfl) (by (have n0 := (F.kept.cell (p := ⟨b6, o6, none⟩) (lt_of_cell F6.out.1)).trans F6.out.1; have n1 := (F.kept.cell (p := ⟨b6, o6 + 1, none⟩) (lt_of_cell F6.out.2.1)).trans F6.out.2.1; have n2 := (F.kept.cell (p := ⟨b6, o6 + 2, none⟩) (lt_of_cell F6.out.2.2)).trans F6.out.2.2; go_simp)) rfl), (fun aF wF F => by have sg := F.v 32 68; exact step_new ((wanted_guard rfl rfl sg).trans rfl) (by first | (go_simp; done) | (go_simp; rfl)) (kept_alloc _ _) ⟨_, rfl, lim_new (n := 3) (T := 60) (by decide) (heap_alloc_new _ _)⟩), (fun aF wF F => by have s75 := F.p 39 75; have sg := F.v 32 68; obtain ⟨b, ee, hh⟩ := s75; simp only [Array.getD_eq_getD_getElem?] at ee; exact step_val ((wanted_guard rfl rfl sg).trans rfl) (by go_simp) ⟨_, rfl, hh, by decide, by decide⟩), (fun aF wF F => by have s74 := F.v 38 74; have s76 := F.p 40 76; have sg := F.v 32 68; exact step_good ((wanted_guard rfl rfl sg).trans rfl) (by go_simp) (dsame_c (D6.out.kept F.kept) s76 (by decide)) (fun _ _ h => RetK.good h) (fun _ _ h => h)), (fun aF wF F => by have s68 := F.v 32 68; have s77 := F.v 41 77; exact sv rfl), (fun aF wF F => by have s78 := F.v 42 78; exact sv rfl), (fun aF wF F => by have s9 : aF.tmps.getD 9 undef = (.int .i64 1) := F.o 9; have sg := F.v 43 79; exact step_val ((wanted_guard rfl rfl sg).trans rfl) (by go_simp) rfl), (fun aF wF F => by have s80 := F.v 44 80; have sg := F.v 43 79; exact step_val ((wanted_guard rfl rfl sg).trans rfl) (by go_simp) rfl), (fun aF wF F => by have s79 := F.v 43 79; have s81 := F.v 45 81; exact sv rfl), (fun aF wF F => by have s82 := F.v 46 82; exact sv rfl),
   trivial⟩) ?_
 intro u w4 q hu
 have p52 := hp hu 16
 have p53 := hp hu 17
 have p75 := hp hu 39
 have p76 := hp hu 40
 simp only [puts, slotOf, if_true, Act.put, z1, z2, z3, z4, z5, z6, z7, hv hu 0, hv hu 1, hv hu 2, hv hu 3, hv hu 4, hv hu 5, hv hu 6, hv hu 7, hv hu 8, hv hu 9, hv hu 10, hv hu 11, hv hu 12, hv hu 13, hv hu 14, hv hu 15, hv hu 18, hv hu 19, hv hu 20, hv hu 21, hv hu 22, hv hu 23, hv hu 24, hv hu 25, hv hu 26, hv hu 27, hv hu 28, hv hu 29, hv hu 30, hv hu 31, hv hu 32, hv hu 33, hv hu 34, hv hu 35, hv hu 36, hv hu 37, hv hu 38, hv hu 41, hv hu 42, hv hu 43, hv hu 44, hv hu 45, hv hu 46, hv hu 47]
 clear hu
 generalize u 16 = v52 at *
 generalize u 17 = v53 at *
 generalize u 39 = v75 at *
 generalize u 40 = v76 at *
 go_wp2_with fail
 go_ret
 exact ⟨rfl, K.out.trans q⟩
/-- A line as a value. -/
def LnV (l : Ln) (w : World) (v : Value) : Prop := ∃ c, v = .agg c.toArray ∧ CellL w c l
theorem LnV.kb {l : Ln} {w w' : World} {X : List Nat} {v : Value} (h : LnV l w v) (k : KB w X w') : LnV l w' v := by
 obtain ⟨c, e, h⟩ := h
 exact ⟨c, e, h.kb k⟩
theorem LnV.kept {l : Ln} {w w' : World} {v : Value} (h : LnV l w v) (k : Kept w w') : LnV l w' v := h.kb (k.kb [])
theorem i64w {a b : Int} (h : wrap64 a = b) : IntKind.i64.wrap a = b := by
 rw [IntKind.wrap_i64]
 unfold wrap64 at h
 exact h
theorem nb_of (p : Int) (c m : Nat) (hm : 0 < m) (hs : c + m ≤ 1000) : ∃ n : Nat, wrap64 ((c : Int) + wrap64 ((IntKind.u64.wrap p).tmod (m : Int))) = (n : Int) ∧ c ≤ n ∧ n < c + m := by
 rw [IntKind.wrap_u64]
 have h0 : 0 ≤ p % 18446744073709551616 := Int.emod_nonneg _ (by decide)
 rw [Int.tmod_eq_emod_of_nonneg h0]
 have h1 : 0 ≤ p % 18446744073709551616 % (m : Int) := Int.emod_nonneg _ (by omega)
 have h2 : p % 18446744073709551616 % (m : Int) < m := Int.emod_lt_of_pos _ (by omega)
 generalize p % 18446744073709551616 % (m : Int) = x at *
 refine ⟨(c + x).toNat, ?_, by omega, by omega⟩
 unfold wrap64
 omega
end Go.Proofs.YtgododcbmkpbjaaGreatDoor
