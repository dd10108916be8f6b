/- SlopeMean: between two numbers a polynomial's values differ by no more than its derivative there. -/
import Derived.Test.YtgododcbmkpbjaaGreatDoorClaimSmeanp40
import Derived.Test.YtgododcbmkpbjaaGreatDoorClaimSmeanp41
import Derived.Test.YtgododcbmkpbjaaGreatDoorClaimSmeanp42
import Derived.Test.YtgododcbmkpbjaaGreatDoorClaimSmeanp43
import Derived.Deep.DeepCutAuto
import Derived.Deep.CutBlock
set_option maxRecDepth 100000
set_option maxHeartbeats 16000000
namespace Go.Proofs.YtgododcbmkpbjaaGreatDoor
open Go.RowKit
/-- An append's row is not disturbed by a store into a block that is neither its own nor new. -/
theorem AppV.low2 {base : Nat} {T : TypeId} {s : Nat} {v : Value} {n : Nat} {C : World → List Value → Prop} (hC : StabC C) {hs b : Nat} {w w' : World} {v' : Value} (h : AppV base T s v n C hs w v') (k : KB w [b] w') (hb : b ∉ ownL v) (hl : b < hs) : AppV base T s v n C hs w' v' := by
 obtain ⟨⟨xs, h1, h2⟩, g', e, h3⟩ := h
 refine ⟨⟨xs, h1.kb k (fun g hg hm => ?_), hC _ _ _ _ k h2⟩, g', e, h3⟩
 simp at hm
 subst hm
 rw [e] at hg
 injection hg with hg
 subst hg
 rcases h3 with h3 | h3
 ·exact hb (mem_ownL.2 h3)
 ·omega
theorem AppJ.laid2 {base : Nat} {T : TypeId} {s : Nat} {v : Value} {n : Nat} {xs : List Value} {n' : Nat} {C : World → List Value → Prop} {b : Nat} {cs : Array Value} {o : Nat} {TB : TypeId} {hs : Nat} {l0 l1 l2 : Bool} {w : World} {v' x : Value} (hC : StabC C) (h : AppJ base T s v n xs n' C b cs o TB hs l0 l1 l2 w) (h0 : l0 = true) (h1 : l1 = true) (hl : l2 = false) (ha : AppV base T s v n' C hs w v') (hb : b ∉ ownL v) (hbs : b < hs) (ho : cs[o]? = some x) (hx : NoLimb x) :
 AppJ base T s v n xs n' C b cs o TB hs l0 l1 true (w.setCell ⟨b, o, none⟩ v') ∧ KB w [b] (w.setCell ⟨b, o, none⟩ v') := by
 have hcell := cell_of_block (h.2.1 hl) o x ho
 have hk : KB w [b] (w.setCell ⟨b, o, none⟩ v') := (KB.refl w _).setCell (by simp) hcell hx v'
 exact ⟨⟨fun e => (by rw [h1] at e; cases e), fun e => (by cases e), fun _ => ⟨h0, h1, v', block_setCell (h.2.1 hl) _, ha.low2 hC hk hb hbs⟩⟩, hk⟩
/-- A number's remainder, less a constant. -/
def kzm (m c z : Int) : Int := (IntKind.u64.wrap z).tmod m - c
theorem kzm_eq (z : Int) {m c : Int} (hm : 0 < m) (hm2 : m ≤ 1000) (hc : 0 ≤ c) (hc2 : c ≤ m) : wrap64 (wrap64 ((IntKind.u64.wrap z).tmod m) - c) = kzm m c z ∧ -c ≤ kzm m c z ∧ kzm m c z < m - c := by
 unfold kzm
 rw [IntKind.wrap_u64]
 have h0 : 0 ≤ z % 18446744073709551616 := Int.emod_nonneg _ (by decide)
 rw [Int.tmod_eq_emod_of_nonneg h0]
 have h1 : 0 ≤ z % 18446744073709551616 % m := Int.emod_nonneg _ (by omega)
 have h2 : z % 18446744073709551616 % m < m := Int.emod_lt_of_pos _ hm
 generalize z % 18446744073709551616 % m = x at *
 unfold wrap64
 omega
/-- The roots. -/
def rk (l : List Int) (i : Nat) : Int := kzm 17 8 (l.getD i 0)
theorem rk_b (l : List Int) (i : Nat) : (rk l i).natAbs ≤ 8 := by
 have h := (kzm_eq (l.getD i 0) (m := 17) (c := 8) (by decide) (by decide) (by decide) (by decide)).2
 unfold rk
 omega
/-- What has been made so far: the tape. -/
structure SmS (B bt : Nat) (w0 : World) (r : Nat → Int) (i : Nat) (vL : Value) (w : World) : Prop where
 L : ∃ xs, OwnG w B 41 9 vL (3 * i + 1) xs ∧ RowL (smL r i) w xs
 t : w.heap[bt]? = some (.cells #[vL, .slice none 0 0] 27 (0, 0))
 nb : bt ∉ ownL vL
 k : Kept w0 w
theorem SmS.kept {B bt : Nat} {w0 : World} {r : Nat → Int} {i : Nat} {vL : Value} {w w' : World} (h : SmS B bt w0 r i vL w) (q : Kept w w') : SmS B bt w0 r i vL w' := by
 obtain ⟨xs, h1, h2⟩ := h.L
 exact ⟨⟨xs, h1.kept q, stab_L _ _ _ [] _ (q.kb []) h2⟩, blk_kept h.t q, h.nb, h.k.trans q⟩
/-- The lines of a round. -/
def l3M (dl : Dy) (la m : Nat) : List Ln := [⟨1, 0, 0, (pt dl).raw⟩, ⟨7, 0, m, rzI⟩, ⟨8, la, (m : Int) + 1, rzI⟩]
theorem l3M_row {w : World} {dl : Dy} {la m : Nat} {x0 x1 x2 x3 x4 x5 : Value} (h : IvR w (.agg #[x0, x1, x2, x3, x4, x5]) (pt dl).raw) :
 RowL (l3M dl la m) w [.int .i64 1, .int .i64 0, .int .i64 0, x0, x1, x2, x3, x4, x5, .int .i64 7, .int .i64 0, .int .i64 (m : Int), .bool false, .slice none 0 0, .int .i64 0, .bool false, .slice none 0 0, .int .i64 0, .int .i64 8, .int .i64 (la : Int), .int .i64 ((m : Int) + 1), .bool false, .slice none 0 0, .int .i64 0, .bool false, .slice none 0 0, .int .i64 0] :=
 RowC.append (R := CellL w) (l := [⟨1, 0, 0, (pt dl).raw⟩]) (m := [⟨7, 0, m, rzI⟩, ⟨8, la, (m : Int) + 1, rzI⟩]) (xs := [.int .i64 1, .int .i64 0, .int .i64 0, x0, x1, x2, x3, x4, x5]) (RowC.one ⟨_, _, _, _, _, _, rfl, h⟩)
  (RowC.append (R := CellL w) (l := [⟨7, 0, m, rzI⟩]) (m := [⟨8, la, (m : Int) + 1, rzI⟩]) (xs := [.int .i64 7, .int .i64 0, .int .i64 (m : Int), .bool false, .slice none 0 0, .int .i64 0, .bool false, .slice none 0 0, .int .i64 0]) (RowC.one (cellL_z _ 7 0 m)) (RowC.one (cellL_z _ 8 la (m + 1))))
theorem smL_snoc (r : Nat → Int) (i : Nat) {la m : Nat} (h1 : la = 3 * i) (h2 : m = 3 * i + 1) : smL r (i + 1) = smL r i ++ l3M (dyz (r i) (-3)) la m := by
 subst h1 h2
 rw [smL]
 unfold l3M
 simp only [Int.natCast_add, Int.natCast_mul, Int.cast_ofNat_Int, List.append_cancel_left_eq, List.cons.injEq, Ln.mk.injEq, and_true, true_and]
 omega
theorem mm_facts {m i n : Nat} (h : m = 3 * i + 1) (hi : i < n) (hn : n ≤ 5) : m + 3 ≤ 1000 ∧ wrap64 ((m : Int) + 1) = (m : Int) + 1 ∧ wrap64 ((m : Int) + 2) = (m : Int) + 2 := by
 unfold wrap64
 omega
theorem dup {A B G : Prop} (a : G → A) (b : G → B) (g : G) : A ∧ B := ⟨a g, b g⟩
theorem rle_of {a b : Rat} (h : ¬ a ≤ b) : b ≤ a := by grind
theorem w3_of {i : Nat} (h : i + 1 ≤ 5) : wrap64 ((3 * (i + 1) : Nat) : Int) = ((3 * (i + 1) : Nat) : Int) := by unfold wrap64; omega
/-- The first line, and the tape's box. -/
theorem boxLT (w : World) : ∃ V, V = (w.alloc (.cells #[.int .i64 3, .int .i64 0, .int .i64 0, .bool false, .slice none 0 0, .int .i64 0, .bool false, .slice none 0 0, .int .i64 0] 41)).alloc (.cells #[.slice (some ⟨w.heap.size, 0, none⟩) 1 1, .slice none 0 0] 27) ∧
 V.heap.size = w.heap.size + 2 ∧ ∀ r, SmS w.heap.size (w.heap.size + 1) w r 0 (.slice (some ⟨w.heap.size, 0, none⟩) 1 1) V := by
 refine ⟨_, rfl, by simp, fun r => ?_⟩
 have k1 := kept_alloc w (.cells #[.int .i64 3, .int .i64 0, .int .i64 0, .bool false, .slice none 0 0, .int .i64 0, .bool false, .slice none 0 0, .int .i64 0] 41)
 obtain ⟨V1, hV1⟩ : ∃ V1, V1 = w.alloc (.cells #[.int .i64 3, .int .i64 0, .int .i64 0, .bool false, .slice none 0 0, .int .i64 0, .bool false, .slice none 0 0, .int .i64 0] 41) := ⟨_, rfl⟩
 have hs : V1.heap.size = w.heap.size + 1 := by rw [hV1]; simp
 have hb := heap_alloc_new w (.cells #[.int .i64 3, .int .i64 0, .int .i64 0, .bool false, .slice none 0 0, .int .i64 0, .bool false, .slice none 0 0, .int .i64 0] 41)
 rw [← hV1] at k1 hb ⊢
 have k2 := kept_alloc V1 (.cells #[.slice (some ⟨w.heap.size, 0, none⟩) 1 1, .slice none 0 0] 27)
 have hnl : ∀ u ∈ [Value.int .i64 3, .int .i64 0, .int .i64 0, .bool false, .slice none 0 0, .int .i64 0, .bool false, .slice none 0 0, .int .i64 0], NoLimb u ∧ u.oneCell' = true := by
  intro u hu
  simp only [List.mem_cons, List.not_mem_nil, or_false] at hu
  rcases hu with rfl | rfl | rfl | rfl | rfl | rfl | rfl | rfl | rfl <;> first | exact ⟨noLimb_i64 _, rfl⟩ | exact ⟨noLimb_bool _, rfl⟩ | exact ⟨noLimb_slice _ _ _, rfl⟩
 refine ⟨⟨[.int .i64 3, .int .i64 0, .int .i64 0, .bool false, .slice none 0 0, .int .i64 0, .bool false, .slice none 0 0, .int .i64 0], OwnG.kept (w := V1) ⟨?_, fun u hu => (hnl u hu).1, fun u hu => (hnl u hu).2, ?_⟩ k2, RowC.one (cellL_z _ 3 0 0)⟩, ?_, ?_, k1.trans k2⟩
 ·exact ⟨rfl, .inr ⟨w.heap.size, 1, _, rfl, Nat.le_refl _, hb, Nat.le_refl _, by unfold maxLen; omega, rfl, rfl⟩⟩
 ·intro g hg
  simp [Value.ownBlock] at hg
  subst hg
  exact ⟨_, _, hb, fun u hu => (hnl u (by simpa using hu)).1⟩
 ·have := heap_alloc_new V1 (.cells #[.slice (some ⟨w.heap.size, 0, none⟩) 1 1, .slice none 0 0] 27)
  rwa [hs] at this
 ·rw [mem_ownL]
  simp [Value.ownBlock]
theorem smL_all (P : Ln → Prop) (r : Nat → Int) (h3 : P ⟨3, 0, 0, rzI⟩) (h1 : ∀ i, P ⟨1, 0, 0, (pt (dyz (r i) (-3))).raw⟩) (h7 : ∀ a b : Int, P ⟨7, a, b, rzI⟩) (h8 : ∀ a b : Int, P ⟨8, a, b, rzI⟩) : ∀ (n : Nat) (l : Ln), l ∈ smL r n → P l
 | 0, l, h => by
   simp only [smL, List.mem_cons, List.not_mem_nil, or_false] at h
   subst h; exact h3
 | n + 1, l, h => by
   rw [smL, List.mem_append] at h
   rcases h with h | h
   ·exact smL_all P r h3 h1 h7 h8 n l h
   ·simp only [List.mem_cons, List.not_mem_nil, or_false] at h
    rcases h with rfl | rfl | rfl
    ·exact h1 _
    ·exact h7 _ _
    ·exact h8 _ _
theorem smL_ok (r : Nat → Int) (n : Nat) : LnOk (smL r n) :=
 smL_all (fun l => -9223372036854775808 ≤ l.op ∧ l.op ≤ 9223372036854775807 ∧ l.k.lens 17592186044416) r ⟨by simp, by simp, rzI_lens⟩ (fun _ => ⟨by simp, by simp, iv_lens (pt_ok (dyz_ok _ _))⟩) (fun _ _ => ⟨by simp, by simp, rzI_lens⟩) (fun _ _ => ⟨by simp, by simp, rzI_lens⟩) n
theorem smL_13 (r : Nat → Int) (n : Nat) : ∀ l ∈ smL r n, l.op ≠ 13 :=
 smL_all (fun l => l.op ≠ 13) r (by simp) (fun _ => by simp) (fun _ _ => by simp) (fun _ _ => by simp) n
theorem smL_678 (r : Nat → Int) (n : Nat) : Op678 (smL r n) := fun l hl =>
 smL_all (fun l => l.op = 1 ∨ l.op = 3 ∨ l.op = 6 ∨ l.op = 7 ∨ l.op = 8) r (by simp) (fun _ => by simp) (fun _ _ => by simp) (fun _ _ => by simp) n l hl
theorem smE_lens {I : Iv} (h : I.Ok) : EnLens (smE I) :=
 ⟨rzI_lens, (by intro a ha; simp only [smE, List.mem_cons, List.not_mem_nil, or_false] at ha; subst ha; exact iv_lens h), (by intro a ha; cases ha), (by intro a ha; cases ha), by show 1 ≤ 1000000000; decide, by show 0 ≤ 1000000000; decide, by show 0 ≤ 1000000000; decide⟩
/-- The calls of Grad and Eval. -/
theorem sm_gc {w : World} {vt ve : Value} {r : Nat → Int} {n p : Nat} {I : Iv} (hI : SmI I r p) (hn : n ≤ 5) (ht : TpR w vt (smL r n) [3 * (n : Int)]) (he : EnR w ve (smE I)) (hT : Tab w) :
 Calls Tryz.prog 15 #[vt, ve, .int .i64 (p : Int)] w (RetGr ⟨([(smW p I r n).raw], [[(smD p I r n).raw]]), 0⟩ w) := by
 have h := grad_c (ov := fun _ _ => ⟨iz, 0⟩) (p := (p : Int)) ht he (smL_ok r n) (smE_lens hI.ok) (by rw [smL_len]; omega) hT (fun ll hl h => absurd h (smL_13 r n ll hl)) ops678 (smL_678 r n).s (smL_678 r n).d
 rw [sm_gradI _ hI hn] at h
 exact h
theorem sm_ec {w : World} {vt ve : Value} {r : Nat → Int} {n : Nat} {I : Iv} (hI : SmI I r 200) (hn : n ≤ 5) (ht : TpR w vt (smL r n) [3 * (n : Int)]) (he : EnR w ve (smE I)) (hT : Tab w) :
 Calls Tryz.prog 19 #[vt, ve, .int .i64 200] w (RetLs ⟨[(smW 200 I r n).raw], 0⟩ w) := by
 have h := eval_c (ov := fun _ _ => ⟨iz, 0⟩) (p := ((200 : Nat) : Int)) ht he (smL_ok r n) (smE_lens hI.ok) (by rw [smL_len]; omega) (by simp) hT (fun ll hl h => absurd h (smL_13 r n ll hl)) ops678 (smL_678 r n).s
 rw [sm_eval _ hI hn] at h
 exact h
theorem RetLs.good {o : Outc (List RawI)} {w w' : World} {e : Ending} (h : RetLs o w e w') : GoodEnd (fun u w => ∃ d, u = .tuple #[d, .int .i64 o.k] ∧ IvS w d o.v) w e w' := by
 obtain ⟨k, v, he, hl⟩ := h
 exact ⟨_, he, k, v, rfl, hl⟩
/-- The one interval of a row. -/
theorem ivS_one {w : World} {v : Value} {lo hi : Raw} (h : IvS w v [⟨lo, hi⟩]) : ∃ b o c x0 x1 x2 x3 x4 x5, v = .slice (some ⟨b, o, none⟩) 1 c ∧ (w.cell? ⟨b, o, none⟩ = some x0 ∧ w.cell? ⟨b, o + 1, none⟩ = some x1 ∧ w.cell? ⟨b, o + 2, none⟩ = some x2 ∧
 w.cell? ⟨b, o + 3, none⟩ = some x3 ∧ w.cell? ⟨b, o + 4, none⟩ = some x4 ∧ w.cell? ⟨b, o + 5, none⟩ = some x5) ∧ DyR w (.agg #[x0, x1, x2]) lo ∧ DyR w (.agg #[x3, x4, x5]) hi := by
 obtain ⟨A, c, rfl, -, h1⟩ := h
 obtain ⟨b, o, rfl, h2⟩ := h1 (by simp)
 obtain ⟨x0, x1, x2, x3, x4, x5, s0, s1, s2, s3, s4, s5, y0, y1, y2, y3, y4, y5, e, d1, d2⟩ := h2 0 _ rfl
 rw [Nat.zero_mul, Nat.add_zero] at s0 s1 s2 s3 s4 s5
 simp only [Value.agg.injEq, Array.mk.injEq, List.cons.injEq, and_true] at e
 obtain ⟨rfl, rfl, rfl, rfl, rfl, rfl⟩ := e
 exact ⟨b, o, c, _, _, _, _, _, _, rfl, ⟨s0, s1, s2, s3, s4, s5⟩, d1, d2⟩
def C6 (w : World) (b o : Nat) (x0 x1 x2 x3 x4 x5 : Value) : Prop := w.cell? ⟨b, o, none⟩ = some x0 ∧ w.cell? ⟨b, o + 1, none⟩ = some x1 ∧ w.cell? ⟨b, o + 2, none⟩ = some x2 ∧
    w.cell? ⟨b, o + 3, none⟩ = some x3 ∧ w.cell? ⟨b, o + 4, none⟩ = some x4 ∧ w.cell? ⟨b, o + 5, none⟩ = some x5
theorem C6.kept {w w' : World} {b o : Nat} {x0 x1 x2 x3 x4 x5 : Value} (h : C6 w b o x0 x1 x2 x3 x4 x5) (k : Kept w w') : C6 w' b o x0 x1 x2 x3 x4 x5 := by
 obtain ⟨h0, h1, h2, h3, h4, h5⟩ := h
 have hb := lt_of_cell h0
 exact ⟨(k.cell (p := ⟨b, o, none⟩) hb).trans h0, (k.cell (p := ⟨b, o + 1, none⟩) hb).trans h1, (k.cell (p := ⟨b, o + 2, none⟩) hb).trans h2, (k.cell (p := ⟨b, o + 3, none⟩) hb).trans h3, (k.cell (p := ⟨b, o + 4, none⟩) hb).trans h4, (k.cell (p := ⟨b, o + 5, none⟩) hb).trans h5⟩
theorem cellK {w w' : World} {b o : Nat} {v : Value} (h : w.cell? ⟨b, o, none⟩ = some v) (k : Kept w w') : w'.cell? ⟨b, o, none⟩ = some v := (k.cell (p := ⟨b, o, none⟩) (lt_of_cell h)).trans h
theorem KB.dyW {W w : World} {X : List Nat} {b : Nat} {x y z : Value} (h : KB W X w) (hb : Blk w b x y z) (hx : NoLimb x) (hy : NoLimb y) (hz : NoLimb z) (hX : b ∈ X) (x' y' z' : Value) : KB W X (Go.Proofs.YtgododcbmkpbjaaGreatDoor.dyW w b x' y' z') := by
 have h1 := h.setCell hX (cell_of_block hb 0 x rfl) hx x'
 have b1 := block_setCell (i := 0) hb x'
 have h2 := h1.setCell hX (cell_of_block b1 1 y rfl) hy y'
 have b2 := block_setCell (i := 1) b1 y'
 exact h2.setCell hX (cell_of_block b2 2 z rfl) hz z'
/-- What is reckoned with the two numbers. -/
theorem sm_pack {r : Nat → Int} {x y : Int} {n p : Nat} (hr : ∀ i, (r i).natAbs ≤ 8) (hx : x.natAbs ≤ 16) (hy : y.natAbs ≤ 16) (hxy : (dyz x (-3)).q ≤ (dyz y (-3)).q) (hn : n ≤ 5) (p1 : 20 ≤ p) (p2 : p ≤ 300) :
 ∃ (ux uy wd zd lo hi : Dy) (gv : List RawI) (D : Iv),
   (∀ w vt ve, TpR w vt (smL r n) [3 * (n : Int)] → EnR w ve (smE ⟨dyz x (-3), dyz y (-3)⟩) → Tab w → Calls Tryz.prog 15 #[vt, ve, .int .i64 (p : Int)] w (RetGr ⟨(gv, [[D.raw]]), 0⟩ w)) ∧
   (∀ w vt ve, TpR w vt (smL r n) [3 * (n : Int)] → EnR w ve (smE (pt (dyz x (-3)))) → Tab w → Calls Tryz.prog 19 #[vt, ve, .int .i64 200] w (RetLs ⟨[(pt ux).raw], 0⟩ w)) ∧
   (∀ w vt ve, TpR w vt (smL r n) [3 * (n : Int)] → EnR w ve (smE (pt (dyz y (-3)))) → Tab w → Calls Tryz.prog 19 #[vt, ve, .int .i64 200] w (RetLs ⟨[(pt uy).raw], 0⟩ w)) ∧
   (∀ w v u, DyR w v (dyz y (-3)).raw → DyR w u (dyz x (-3)).raw → Tab w → Calls Tryz.prog 22 #[v, u] w (RetE ⟨wd.raw, 0⟩ w)) ∧
   (∀ w v u, DyR w v uy.raw → DyR w u ux.raw → Tab w → Calls Tryz.prog 22 #[v, u] w (RetE ⟨zd.raw, 0⟩ w)) ∧
   (∀ w v u, DyR w v D.lo.raw → DyR w u wd.raw → Tab w → Calls Tryz.prog 23 #[v, u] w (RetE ⟨lo.raw, 0⟩ w)) ∧
   (∀ w v u, DyR w v D.hi.raw → DyR w u wd.raw → Tab w → Calls Tryz.prog 23 #[v, u] w (RetE ⟨hi.raw, 0⟩ w)) ∧
   (∃ k1 : Int, decide (k1 ≤ 0) = true ∧ ∀ w v u, DyR w v lo.raw → DyR w u zd.raw → Calls Tryz.prog 21 #[v, u] w (RetK (.int .i64 k1) w)) ∧
   (∃ k2 : Int, decide (k2 ≤ 0) = true ∧ ∀ w v u, DyR w v zd.raw → DyR w u hi.raw → Calls Tryz.prog 21 #[v, u] w (RetK (.int .i64 k2) w)) := by
 obtain ⟨E, hE⟩ : ∃ E : Int, E = -3 * ((n : Int) + 1) := ⟨_, rfl⟩
 have fx := fZ_small hr hx hn
 have fy := fZ_small hr hy hn
 have zx : SmZ (fZ r x n) E := ⟨lt_pow fx (by decide), by omega, by omega⟩
 have zy : SmZ (fZ r y n) E := ⟨lt_pow fy (by decide), by omega, by omega⟩
 have zn : SmZ (-(fZ r x n)) E := ⟨by have := zx.1; omega, by omega, by omega⟩
 have zz : SmZ (fZ r y n - fZ r x n) E := ⟨by have := fx; have := fy; omega, by omega, by omega⟩
 have sx := smZ8 (z := x) (by omega)
 have sy := smZ8 (z := y) (by omega)
 have sw := smZ8 (z := y - x) (by omega)
 have hI := smI_of (p := p) hr hx hy hxy p1 p2
 have hIx := smI_of (p := 200) hr hx hx Rat.le_refl (by decide) (by decide)
 have hIy := smI_of (p := 200) hr hy hy Rat.le_refl (by decide) (by decide)
 have hD := (sm_d hI (x := (dyz x (-3)).q) (y := (dyz y (-3)).q) ⟨Rat.le_refl, hxy⟩ ⟨hxy, Rat.le_refl⟩ n hn).1
 have hw : Rg (dyz (y - x) (-3)) 3 3 := dyz_rg sw (by decide) (by have := bl_small (n := (y - x).natAbs) (k := 6) (by omega); omega) (by decide) (by decide)
 obtain ⟨kl, rl⟩ := mulD_rg hD.lo hw (by omega) (by omega) (by omega)
 obtain ⟨kh, rh⟩ := mulD_rg hD.hi hw (by omega) (by omega) (by omega)
 have eW : sumD (dyz y (-3)) (negD (dyz x (-3))) = ⟨dyz (y - x) (-3), 0⟩ := by
  rw [dyz_neg sx, dyz_sum sy ⟨by have := sx.1; omega, by decide, by decide⟩ (by rw [← Int.sub_eq_add_neg]; exact sw), ← Int.sub_eq_add_neg]
 have eZ : sumD (dyz (fZ r y n) E) (negD (dyz (fZ r x n) E)) = ⟨dyz (fZ r y n - fZ r x n) E, 0⟩ := by
  rw [dyz_neg zx, dyz_sum zy zn (by rw [← Int.sub_eq_add_neg]; exact zz), ← Int.sub_eq_add_neg]
 have hm := sm_mean (p := p) hr hx hy hxy p1 p2 hn
 rw [← hE] at hm
 have qz : (dyz (fZ r y n - fZ r x n) E).q = (dyz (fZ r y n) E).q - (dyz (fZ r x n) E).q := by
  rw [dyz_q zz, dyz_q zy, dyz_q zx, Rat.intCast_sub]; grind
 have qw : (dyz (y - x) (-3)).q = (dyz y (-3)).q - (dyz x (-3)).q := by
  rw [dyz_q sw, dyz_q sy, dyz_q sx, Rat.intCast_sub]; grind
 have ql := mulD_q kl
 have qh := mulD_q kh
 rw [qw] at ql qh
 refine ⟨dyz (fZ r x n) E, dyz (fZ r y n) E, dyz (y - x) (-3), dyz (fZ r y n - fZ r x n) E, _, _, _, smD p ⟨dyz x (-3), dyz y (-3)⟩ r n, fun w vt ve h1 h2 h3 => sm_gc hI hn h1 h2 h3, fun w vt ve h1 h2 h3 => ?_, fun w vt ve h1 h2 h3 => ?_, fun w v u h1 h2 h3 => ?_, fun w v u h1 h2 h3 => ?_,
  fun w v u h1 h2 h3 => ?_, fun w v u h1 h2 h3 => ?_, ⟨_, decide_eq_true (cmpQ_le.2 ?_), fun w v u h1 h2 => dcmp_c h1 h2 rl.ok (dyz_ok _ _)⟩, ⟨_, decide_eq_true (cmpQ_le.2 ?_), fun w v u h1 h2 => dcmp_c h1 h2 (dyz_ok _ _) rh.ok⟩⟩
 ·have h := sm_ec hIx hn h1 h2 h3
  rwa [show (Iv.mk (dyz x (-3)) (dyz x (-3))) = pt (dyz x (-3)) from rfl, smW_exact hr hx n hn, ← hE] at h
 ·have h := sm_ec hIy hn h1 h2 h3
  rwa [show (Iv.mk (dyz y (-3)) (dyz y (-3))) = pt (dyz y (-3)) from rfl, smW_exact hr hy n hn, ← hE] at h
 ·have h := Sub_c h1 h2 (dyz_ok _ _) (dyz_ok _ _) h3
  rwa [eW] at h
 ·have h := Sub_c h1 h2 (dyz_ok _ _) (dyz_ok _ _) h3
  rwa [eZ] at h
 ·have h := Mul_c h1 h2 hD.lo.ok (dyz_ok _ _) h3
  rw [k0 kl] at h
  exact h
 ·have h := Mul_c h1 h2 hD.hi.ok (dyz_ok _ _) h3
  rw [k0 kh] at h
  exact h
 ·rw [ql, qz]; exact hm.1
 ·rw [qh, qz]; exact hm.2
theorem smean_c {w : World} {vl : Value} {l : List Int} {a b p : Int} (hl : InS w vl l) (hT : Tab w) :
 Calls Tryz.prog 5 #[vl, .int .i64 a, .int .i64 b, .int .i64 p] w (RetK (.bool true) w) := by
 have T := Lib.hid hT
 have HL := Lib.hid hl
 obtain ⟨A, c, rfl, -, -⟩ := hl
 clear hT
 generalize hl1 : l.length = n at *
 have H1 := Lib.hid hl1
 clear hl1
 obtain ⟨bits, hbits, m1, m2⟩ := nb_of p 20 61 (by decide) (by decide)
 have hb' : wrap64 (20 + wrap64 ((IntKind.u64.wrap p).tmod 61)) = (bits : Int) := hbits
 clear hbits
 go_enter Tryz.func5, Tryz.ntmps5
 go_upto_region 2 with fail
 rw [hb']
 clear hb'
 by_cases h5 : (5 : Int) < n
 ·go_wp2_with fail
  refine (told10_c T.out).mono ?_
  rintro e w1 ⟨rfl, q⟩
  simp only []
  go_wp2_with fail
  go_ret
  exact ⟨rfl, q⟩
 have n5 : n ≤ 5 := by omega
 obtain ⟨W, hW, sW, hS⟩ := boxLT w
 have HW := Lib.hid hW
 have HS := Lib.hid (hS (rk l))
 have SW := Lib.hid sW
 clear hW sW hS
 go_upto_region 5 with fail
 rw [← HW.out]
 clear HW
 have N5 := Lib.hid n5
 have TLT := T.out.lt
 generalize hbt : w.heap.size + 1 = bt at *
 have HBT := Lib.hid hbt
 clear hbt h5 n5
 generalize hB0 : w.heap.size = B0 at *
 have HB0 := Lib.hid hB0
 clear hB0
 go_wp2_with fail
 go_loopw [11, 12] (fun vl vi wr => ∃ (i : Nat) (vL : Value), i ≤ n ∧ vi = .int .i64 i ∧ vl = .int .i64 ((3 * i : Nat) : Int) ∧ SmS B0 bt w (rk l) i vL wr) (fun _ vi _ => (n - intOf vi).toNat)
 case atStart => exact ⟨0, _, Nat.zero_le _, rfl, rfl, HS.out⟩
 case round =>
  obtain ⟨i, vL, hi, rfl, rfl, hst⟩ := hrel
  have S0 := Lib.hid hst
  clear hst HS
  by_cases hin : i < n
  ·obtain ⟨A1, c1, e1, -, hA⟩ := HL.out
   injection e1 with e1 e2 e3
   subst e1
   obtain ⟨bl, ol, rfl, hl0⟩ := hA (by have := H1.out; omega)
   obtain ⟨zl, hzl⟩ : ∃ z, l[i]? = some z := ⟨_, List.getElem?_eq_getElem (by have := H1.out; omega)⟩
   have cl := hl0 i zl hzl
   have cl1 := (S0.out.k.cell (p := ⟨bl, ol + i, none⟩) (lt_of_cell cl)).trans cl
   have hkl : kzm 17 8 zl = rk l i := by unfold rk; rw [List.getD_eq_getElem?_getD, hzl]; rfl
   have hk1 := (kzm_eq zl (m := 17) (c := 8) (by decide) (by decide) (by decide) (by decide)).1.trans hkl
   clear hA hl0 hzl cl hkl e2 e3
   obtain ⟨dl, hdl⟩ : ∃ d, d = dyz (rk l i) (-3) := ⟨_, rfl⟩
   have OL := Lib.hid (fun w1 (k : Kept wr w1) => show Calls Tryz.prog 13 #[.int .i64 (rk l i), .int .i64 (-3)] w1 (RetE ⟨dl.raw, 0⟩ w1) by
    rw [hdl]; exact dof_z (by have := rk_b l i; omega) (by decide) (by decide) (T.out.kept (S0.out.k.trans k)))
   have DL := Lib.hid hdl
   clear hdl
   obtain ⟨m, hm⟩ : ∃ m, m = 3 * i + 1 := ⟨_, rfl⟩
   obtain ⟨la, hla⟩ : ∃ la, la = 3 * i := ⟨_, rfl⟩
   have HM := Lib.hid hm
   have HLA := Lib.hid hla
   rw [← hla]
   clear hm hla
   go_wp2_with fail
   refine (OL.out _ (Below.refl _ _)).mono ?_
   rintro e w1 ⟨q, u, rfl, hd⟩
   obtain ⟨P1, t1, k1, rfl, hd⟩ := dyR_split hd
   simp only []
   obtain ⟨V1, hV1, kV1, hb1, lV1⟩ := boxD w1 (.bool dl.neg) (.slice P1 t1 k1) (.int .i64 dl.e)
   have HV := Lib.hid hV1
   have K := Lib.hid (q.trans kV1)
   have B1 := Lib.hid hb1
   have D1 := Lib.hid (hd.kept kV1)
   have S1 := Lib.hid (S0.out.kept K.out)
   have lw1 := Nat.lt_of_lt_of_le (Nat.lt_of_lt_of_le (show bt < wr.heap.size from (Array.getElem?_eq_some_iff.1 S0.out.t).1) q.size) (Nat.le_of_lt lV1)
   have lb1 : bt < w1.heap.size := Nat.lt_of_lt_of_le (Array.getElem?_eq_some_iff.1 S0.out.t).1 q.size
   have lq := q.size
   clear hV1 hb1 hd cl1 q kV1 hk1 OL
   go_upto_region 12 with fail
   rw [← HV.out]
   clear HV
   generalize w1.heap.size = b13 at *
   obtain ⟨xL, hxL, hrL⟩ := S1.out.L
   rw [← HM.out] at hxL
   obtain ⟨AL, cL, rfl, -⟩ := hxL.shape
   have HXL := Lib.hid hxL
   have HRL := Lib.hid hrL
   obtain ⟨g0, g1⟩ := cells2 S1.out.t
   have bL : ∀ g ∈ ownL (.slice AL m cL), g < wr.heap.size := fun g hg => (S0.out.L.elim fun _ h => (h.1.lt g (mem_ownL.1 hg)).1)
   clear hxL hrL
   go_upto_region 13 with fail
   obtain ⟨hm3, hw1, hw2⟩ := mm_facts HM.out hin N5.out
   have HW2 := Lib.hid hw2
   have HW1 := Lib.hid (i64w hw1)
   clear hw2 hw1
   have OLT : ∀ y ∈ ownL (.slice AL m cL), y < V1.heap.size := fun y hy => (HXL.out.lt y (mem_ownL.1 hy)).1
   have NBT : bt ∉ ownL (.slice AL m cL) := S1.out.nb
   have LBB : B0 ≤ V1.heap.size := by rw [← HB0.out]; exact S1.out.k.size
   have N13 : b13 ∉ bt :: ownL (.slice AL m cL) := by
    intro hm
    rcases List.mem_cons.1 hm with h | h
    ·omega
    ·have := bL _ h; omega
   clear g0 g1 bL
   refine region_linX (m := 15) (J := fun L w => KB V1 (bt :: ownL (.slice AL m cL)) w ∧ (fun L w' => AppJ B0 41 9 (.slice AL m cL) m xL (m + 3) (RowL (smL (rk l) i ++ l3M dl la m)) bt #[.slice AL m cL, .slice none 0 0] 0 27 V1.heap.size (L 1) (L 12) (L 14) w') L w) (l := [(vP bt 0), (vE (.slice AL m cL)), (vE (.agg #[.bool dl.neg, .slice P1 t1 k1, .int .i64 dl.e])), (fun v wv => IvR wv v ((pt dl).raw)), (fun v wv => LnV ⟨1, 0, 0, (pt dl).raw⟩ wv v), (vE (.int .i64 (m : Int))), (vE (.agg #[.int .i64 7, .int .i64 0, .int .i64 (m : Int), .bool false, .slice none 0 0, .int .i64 0, .bool false, .slice none 0 0, .int .i64 0])), (vE (.int .i64 (la : Int))), (vE (.int .i64 (m : Int))), (vE (.int .i64 ((m : Int) + 1))), (vE (.agg #[.int .i64 8, .int .i64 (la : Int), .int .i64 ((m : Int) + 1), .bool false, .slice none 0 0, .int .i64 0, .bool false, .slice none 0 0, .int .i64 0])), (fun v wv => SrcR (RowL (l3M dl la m)) V1.heap.size 3 wv v), (fun v wv => AppV B0 41 9 (.slice AL m cL) (m + 3) (RowL (smL (rk l) i ++ l3M dl la m)) V1.heap.size wv v), (vP bt 0), (fun v _ => True)])
    (by kernel_rfl) rfl (by kernel_rfl) (by kernel_rfl) (by kernel_rfl) ⟨mE, mE, mE, fun v w w' k h => by first | exact h | exact h.kept k | exact ⟨h.1, h.2.kept k⟩, fun v w w' k h => by first | exact h | exact h.kept k | exact ⟨h.1, h.2.kept k⟩, mE, mE, mE, mE, mE, mE, fun v w w' k h => h.kept (stab_L _) k, fun v w w' k h => h.kept (stab_L _) k, mE, fun v w w' k h => by first | exact h | exact h.kept k | exact ⟨h.1, h.2.kept k⟩, trivial⟩ ⟨(KB.refl _ _).drew, (by exact AppJ.first rfl (HXL.out.kept (Below.refl _ _).drew) S1.out.t)⟩ (⟨
      (fun LF aF wF F => by have FK : KB V1 (bt :: ownL (.slice AL m cL)) wF := F.frame.1; have fj := F.frame.2; refine .inl ⟨fun wq kq => ⟨FK.step kq, by first | exact AppJ.kept (stab_L _) kq fj | exact AppJ.seen (stab_L _) kq fj⟩, ?_⟩; have s10 : aF.tmps.getD 10 undef = (.pointer (some ⟨bt, 0, none⟩)) := F.o 10; exact sv rfl), (fun LF aF wF F => by have FK : KB V1 (bt :: ownL (.slice AL m cL)) wF := F.frame.1; have fj := F.frame.2; refine .inl ⟨fun wq kq => ⟨FK.step kq, by first | exact AppJ.kept (stab_L _) kq fj | exact AppJ.seen (stab_L _) kq fj⟩, ?_⟩; have s70 := F.v 0 70; exact sw (by (have hb := AppJ.box fj F.yet; have c6 := cell_of_block hb 0 (.slice AL m cL) rfl; go_simp)) rfl), (fun LF aF wF F => by have FK : KB V1 (bt :: ownL (.slice AL m cL)) wF := F.frame.1; have fj := F.frame.2; refine .inl ⟨fun wq kq => ⟨FK.step kq, by first | exact AppJ.kept (stab_L _) kq fj | exact AppJ.seen (stab_L _) kq fj⟩, ?_⟩; have s13 : aF.tmps.getD 13 undef = (.pointer (some ⟨b13, 0, none⟩)) := F.o 13; have c0 := cell_atX B1.out FK N13 0 _ rfl; have c1 := cell_atX B1.out FK N13 1 _ rfl; have c2 := cell_atX B1.out FK N13 2 _ rfl; exact sv rfl), (fun LF aF wF F => by have FK : KB V1 (bt :: ownL (.slice AL m cL)) wF := F.frame.1; have fj := F.frame.2; refine .inl ⟨fun wq kq => ⟨FK.step kq, by first | exact AppJ.kept (stab_L _) kq fj | exact AppJ.seen (stab_L _) kq fj⟩, ?_⟩; have s72 := F.v 2 72; exact sI (iof_c (D1.out.kb FK)) fun _ _ h => h), (fun LF aF wF F => by have FK : KB V1 (bt :: ownL (.slice AL m cL)) wF := F.frame.1; have fj := F.frame.2; refine .inl ⟨fun wq kq => ⟨FK.step kq, by first | exact AppJ.kept (stab_L _) kq fj | exact AppJ.seen (stab_L _) kq fj⟩, ?_⟩; have s73 := F.p 3 73; obtain ⟨P1, t1, k1, P2, t2, k2, ee, v1', v2'⟩ := ivR_split s73; simp only [Array.getD_eq_getD_getElem?] at ee; exact step_val (by simp [Region.wanted]) (by first | (go_simp; done) | (go_simp; rfl)) ⟨[_, _, _, _, _, _, _, _, _], rfl, _, _, _, _, _, _, rfl, _, _, _, _, _, _, rfl, v1', v2'⟩), (fun LF aF wF F => by have FK : KB V1 (bt :: ownL (.slice AL m cL)) wF := F.frame.1; have fj := F.frame.2; refine .inl ⟨fun wq kq => ⟨FK.step kq, by first | exact AppJ.kept (stab_L _) kq fj | exact AppJ.seen (stab_L _) kq fj⟩, ?_⟩; have s15 : aF.tmps.getD 15 undef = (.int .i64 (m : Int)) := F.o 15; exact sv rfl), (fun LF aF wF F => by have FK : KB V1 (bt :: ownL (.slice AL m cL)) wF := F.frame.1; have fj := F.frame.2; refine .inl ⟨fun wq kq => ⟨FK.step kq, by first | exact AppJ.kept (stab_L _) kq fj | exact AppJ.seen (stab_L _) kq fj⟩, ?_⟩; have s75 := F.v 5 75; simp only [Array.getD_eq_getD_getElem?] at s75; exact sv rfl), (fun LF aF wF F => by have FK : KB V1 (bt :: ownL (.slice AL m cL)) wF := F.frame.1; have fj := F.frame.2; refine .inl ⟨fun wq kq => ⟨FK.step kq, by first | exact AppJ.kept (stab_L _) kq fj | exact AppJ.seen (stab_L _) kq fj⟩, ?_⟩; have s11 : aF.tmps.getD 11 undef = (.int .i64 (la : Int)) := F.o 11; exact sv rfl), (fun LF aF wF F => by have FK : KB V1 (bt :: ownL (.slice AL m cL)) wF := F.frame.1; have fj := F.frame.2; refine .inl ⟨fun wq kq => ⟨FK.step kq, by first | exact AppJ.kept (stab_L _) kq fj | exact AppJ.seen (stab_L _) kq fj⟩, ?_⟩; have s15 : aF.tmps.getD 15 undef = (.int .i64 (m : Int)) := F.o 15; exact sv rfl), (fun LF aF wF F => by have FK : KB V1 (bt :: ownL (.slice AL m cL)) wF := F.frame.1; have fj := F.frame.2; refine .inl ⟨fun wq kq => ⟨FK.step kq, by first | exact AppJ.kept (stab_L _) kq fj | exact AppJ.seen (stab_L _) kq fj⟩, ?_⟩; have s78 := F.v 8 78; exact sw (by (have hw1 := HW1.out; go_simp)) rfl), (fun LF aF wF F => by have FK : KB V1 (bt :: ownL (.slice AL m cL)) wF := F.frame.1; have fj := F.frame.2; refine .inl ⟨fun wq kq => ⟨FK.step kq, by first | exact AppJ.kept (stab_L _) kq fj | exact AppJ.seen (stab_L _) kq fj⟩, ?_⟩; have s77 := F.v 7 77; have s79 := F.v 9 79; simp only [Array.getD_eq_getD_getElem?] at s77; simp only [Array.getD_eq_getD_getElem?] at s79; exact sv rfl), (fun LF aF wF F => by have FK : KB V1 (bt :: ownL (.slice AL m cL)) wF := F.frame.1; have fj := F.frame.2; refine .inl ⟨fun wq kq => ⟨FK.step kq, by first | exact AppJ.kept (stab_L _) kq fj | exact AppJ.seen (stab_L _) kq fj⟩, ?_⟩; have s74 := F.p 4 74; have s76 := F.v 6 76; have s80 := F.v 10 80; simp only [Array.getD_eq_getD_getElem?] at s76; simp only [Array.getD_eq_getD_getElem?] at s80; obtain ⟨cc, ee, x0, x1, x2, x3, x4, x5, rfl, hI⟩ := s74; simp only [Array.getD_eq_getD_getElem?] at ee; exact step_new (by simp [Region.wanted]) (by first | (go_simp; done) | (go_simp; rfl)) (kept_alloc _ _) ⟨_, l3M_row (hI.kept (kept_alloc _ _)), srcC_new FK.size rfl⟩), (fun LF aF wF F => by have FK : KB V1 (bt :: ownL (.slice AL m cL)) wF := F.frame.1; have fj := F.frame.2; refine .inr ?_; have s71 := F.v 1 71; have s81 := F.p 11 81; obtain ⟨v', w', hr, hg, hk, hv⟩ := app_ln 25 (AppJ.own fj F.yet) (stab_L _ _ _ _ _ FK HRL.out) s81 rfl (by decide) hm3 (Nat.le_trans LBB FK.size); exact stepG_set (by simp [Region.wanted]) (exec_append _ _ _ rfl s71 rfl hr) ⟨FK.trans hk (fun y hy => .inl (List.mem_cons_of_mem _ hy)), AppJ.did fj F.yet hg NBT⟩ (stab_of _ ⟨.inr vS, .inr vS, .inr vS, .inr (fun u h => by first | exact h.kb hk | exact h.kb (stab_L _) hk OLT), .inr (fun u h => by first | exact h.kb hk | exact h.kb (stab_L _) hk OLT), .inr vS, .inr vS, .inr vS, .inr vS, .inr vS, .inr vS, .inr (fun u h => by first | exact h.kb hk | exact h.kb (stab_L _) hk OLT), .inl rfl, .inr vS, .inr (fun u h => h), trivial⟩) (hv.mono FK.size)), (fun LF aF wF F => by have FK : KB V1 (bt :: ownL (.slice AL m cL)) wF := F.frame.1; have fj := F.frame.2; refine .inl ⟨fun wq kq => ⟨FK.step kq, by first | exact AppJ.kept (stab_L _) kq fj | exact AppJ.seen (stab_L _) kq fj⟩, ?_⟩; have s10 : aF.tmps.getD 10 undef = (.pointer (some ⟨bt, 0, none⟩)) := F.o 10; exact sv rfl), (fun LF aF wF F => by have FK : KB V1 (bt :: ownL (.slice AL m cL)) wF := F.frame.1; have fj := F.frame.2; refine .inr ?_; have s82 := F.p 12 82; have s83 := F.v 13 83; obtain ⟨⟨xs8, ho8, hc8⟩, hap8⟩ := s82; obtain ⟨A8, c8, e8, -⟩ := ho8.shape; rw [e8] at ho8 hap8; simp only [Array.getD_eq_getD_getElem?] at e8; have hbk := AppJ.boxed fj F.yet; have cb := cell_of_block hbk 0 _ rfl; have fb := free_of_block hbk 0; have hl := AppJ.laid2 (stab_L _) fj (F.wait 1 (by kernel_rfl)) (F.wait 12 (by kernel_rfl)) F.yet ⟨⟨xs8, ho8, hc8⟩, hap8⟩ NBT lw1 rfl (noLimb_slice _ _ _); exact stepG_store (w' := wF.setCell ⟨bt, 0, none⟩ (.slice A8 (m + 3) c8)) (by simp [Region.wanted]) (by go_simp) ⟨FK.trans hl.2 (by simp), hl.1⟩ (stab_of _ ⟨.inr vS, .inr vS, .inr vS, .inr (fun u h => by first | exact h.kb hl.2 | exact h.kb (stab_L _) hl.2 (by intro y hy; simp at hy; omega) | exact h.low2 (stab_L _) hl.2 NBT lw1), .inr (fun u h => by first | exact h.kb hl.2 | exact h.kb (stab_L _) hl.2 (by intro y hy; simp at hy; omega) | exact h.low2 (stab_L _) hl.2 NBT lw1), .inr vS, .inr vS, .inr vS, .inr vS, .inr vS, .inr vS, .inr (fun u h => by first | exact h.kb hl.2 | exact h.kb (stab_L _) hl.2 (by intro y hy; simp at hy; omega) | exact h.low2 (stab_L _) hl.2 NBT lw1), .inr (fun u h => by first | exact h.kb hl.2 | exact h.kb (stab_L _) hl.2 (by intro y hy; simp at hy; omega) | exact h.low2 (stab_L _) hl.2 NBT lw1), .inr vS, .inl rfl, trivial⟩) trivial),
      trivial⟩) ?_
   intro u w5 L1 hL j1 hu
   obtain ⟨q, j1⟩ := j1
   have p73 := hp hu 3
   have p74 := hp hu 4
   have p81 := hp hu 11
   have p82 := hp hu 12
   simp only [puts, slotOf, if_true, Act.put, z1, z2, z3, z4, z5, z6, z7, hv hu 0, hv hu 1, hv hu 2, hv hu 5, hv hu 6, hv hu 7, hv hu 8, hv hu 9, hv hu 10, hv hu 13]
   clear hu
   generalize u 3 = v73 at *
   generalize u 4 = v74 at *
   generalize u 11 = v81 at *
   generalize u 12 = v82 at *
   obtain ⟨vL', hbx, hvx⟩ := AppJ.done j1 (hL 14 (by decide))
   obtain ⟨⟨xs9, ho9, hc9⟩, g9, eg9, hg9⟩ := hvx
   obtain ⟨A9, c9, rfl, -⟩ := ho9.shape
   have e9 : smL (rk l) (i + 1) = smL (rk l) i ++ l3M dl la m := by rw [DL.out]; exact smL_snoc _ _ HLA.out HM.out
   have hm4 : m + 3 = 3 * (i + 1) + 1 := by have := HM.out; omega
   have KQ := KB.kept S1.out.k q (by
    intro y hy
    rcases List.mem_cons.1 hy with h | h
    ·have := HBT.out; have := HB0.out; omega
    ·rw [HB0.out]; exact (HXL.out.lt y (mem_ownL.1 h)).2)
   have S5 : Hid (SmS B0 bt w (rk l) (i + 1) (.slice A9 (m + 3) c9) w5) := Lib.hid ⟨⟨xs9, by rw [← hm4]; exact ho9, by rw [e9]; exact hc9⟩, hbx, by
    rw [mem_ownL, eg9]
    intro h
    injection h with h
    subst h
    rcases hg9 with h | h
    ·exact NBT (mem_ownL.2 h)
    ·omega, KQ⟩
   have HI := Lib.hid hin
   have hw2 := HW2.out
   have hla2 : ((m : Int) + 2) = ((3 * (i + 1) : Nat) : Int) := by have := HM.out; omega
   have HL2 := Lib.hid hla2
   clear j1 hL p73 p74 p81 p82 hbx ho9 hc9 eg9 hg9 e9 hm4 KQ q HXL HRL OLT NBT N13 hla2 S0 S1 K B1 D1 hm3 lw1 lb1 lq
   have hi6 : i + 1 ≤ 5 := by have := N5.out; have := HI.out; omega
   go_wp2_with fail
   refine ⟨⟨i + 1, _, HI.out, by go_num, ?_, S5.out⟩, ?_⟩
   ·rw [HL2.out, w3_of (by have := N5.out; have := HI.out; omega)]
   ·simp only [intOf]; have := HI.out; omega
  ·obtain rfl : n = i := by omega
   obtain ⟨X1, hX1⟩ : ∃ X1, X1 = (wr.setCell ⟨bt, 1, none⟩ (.slice (some ⟨wr.heap.size, 0, none⟩) 1 1)).alloc (.cells #[.int .i64 (3 * (n : Int))] 3) := ⟨_, rfl⟩
   have hz0 : (wr.setCell ⟨bt, 1, none⟩ (.slice (some ⟨wr.heap.size, 0, none⟩) 1 1)).heap.size = wr.heap.size := by simp
   have hs0 := (KB.refl wr [bt]).setCell (by simp) (cell_of_block S0.out.t 1 (.slice none 0 0) rfl) (noLimb_slice _ _ _) (.slice (some ⟨wr.heap.size, 0, none⟩) 1 1)
   have kX : KB wr [bt] X1 := by rw [hX1]; exact hs0.step (kept_alloc _ _)
   have hbt1 : X1.heap[bt]? = some (.cells #[vL, .slice (some ⟨wr.heap.size, 0, none⟩) 1 1] 27 (0, 0)) := by rw [hX1]; exact blk_kept (block_setCell S0.out.t _) (kept_alloc _ _)
   have hlt : bt < wr.heap.size := (Array.getElem?_eq_some_iff.1 S0.out.t).1
   have hin1 : X1.heap[wr.heap.size]? = some (.cells #[.int .i64 (3 * (n : Int))] 3 (0, 0)) := by
    have := heap_alloc_new (wr.setCell ⟨bt, 1, none⟩ (.slice (some ⟨wr.heap.size, 0, none⟩) 1 1)) (.cells #[.int .i64 (3 * (n : Int))] 3)
    rw [hz0] at this
    rw [hX1]; exact this
   have KF := Lib.hid (KB.kept S0.out.k kX (by intro y hy; simp at hy; have := HBT.out; have := HB0.out; omega))
   have TX := Lib.hid (T.out.kept KF.out)
   obtain ⟨xL, hxL, hrL⟩ := S0.out.L
   obtain ⟨AL, cL, rfl, -⟩ := hxL.shape
   have NBT := S0.out.nb
   have HTP := Lib.hid (show TpR X1 (.agg #[.slice AL (3 * n + 1) cL, .slice (some ⟨wr.heap.size, 0, none⟩) 1 1]) (smL (rk l) n) [3 * (n : Int)] from
    ⟨_, _, rfl, (hxL.lnS hrL (smL_len _ _)).kb kX (fun g hg hm => by simp at hm; subst hm; exact NBT (mem_ownL.2 hg)), insS_one hin1⟩)
   have HTB := Lib.hid hbt1
   have LBT : bt < X1.heap.size := (Array.getElem?_eq_some_iff.1 hbt1).1
   have cb := cell_of_block S0.out.t 1 (.slice none 0 0) rfl
   have fb := free_of_block S0.out.t 1
   have HX1 := Lib.hid hX1
   obtain ⟨ka, hka⟩ : ∃ k, k = kzm 33 16 a := ⟨_, rfl⟩
   obtain ⟨kb, hkb⟩ : ∃ k, k = kzm 33 16 b := ⟨_, rfl⟩
   have fa := kzm_eq a (m := 33) (c := 16) (by decide) (by decide) (by decide) (by decide)
   have fc := kzm_eq b (m := 33) (c := 16) (by decide) (by decide) (by decide) (by decide)
   rw [← hka] at fa
   rw [← hkb] at fc
   obtain ⟨ga, ga1, ga2⟩ := fa
   obtain ⟨gb, gb1, gb2⟩ := fc
   have KA := Lib.hid (show ka.natAbs ≤ 16 by omega)
   have KBb := Lib.hid (show kb.natAbs ≤ 16 by omega)
   obtain ⟨da, hda⟩ : ∃ d, d = dyz ka (-3) := ⟨_, rfl⟩
   obtain ⟨db, hdb⟩ : ∃ d, d = dyz kb (-3) := ⟨_, rfl⟩
   have OA := Lib.hid (fun w1 (k : Kept X1 w1) => show Calls Tryz.prog 13 #[.int .i64 ka, .int .i64 (-3)] w1 (RetE ⟨da.raw, 0⟩ w1) by
    rw [hda]; exact dof_z (by omega) (by decide) (by decide) (TX.out.kept k))
   have OB := Lib.hid (fun w1 (k : Kept X1 w1) => show Calls Tryz.prog 13 #[.int .i64 kb, .int .i64 (-3)] w1 (RetE ⟨db.raw, 0⟩ w1) by
    rw [hdb]; exact dof_z (by omega) (by decide) (by decide) (TX.out.kept k))
   have DA := Lib.hid hda
   have DB := Lib.hid hdb
   clear hX1 hz0 hs0 kX hbt1 hin1 hxL hrL hka hkb ga1 ga2 gb1 gb2 hda hdb S0
   go_upto_region 16 with fail
   rw [← HX1.out]
   clear HX1 cb fb
   generalize wr.heap.size = bo at *
   go_wp2_with fail
   refine (OA.out _ (Below.refl _ _)).mono ?_
   rintro e w1 ⟨q, u, rfl, hd⟩
   obtain ⟨P1, t1, k1, rfl, hd⟩ := dyR_split hd
   simp only []
   obtain ⟨V1, hV1, kV1, hb1, lV1⟩ := boxD w1 (.bool da.neg) (.slice P1 t1 k1) (.int .i64 da.e)
   have HV := Lib.hid hV1
   have K := Lib.hid (q.trans kV1)
   have B1 := Lib.hid hb1
   have D1 := Lib.hid (hd.kept kV1)
   have l16 : X1.heap.size ≤ w1.heap.size := q.size
   clear hV1 hb1 hd q kV1 OA
   go_upto_region 17 with fail
   rw [← HV.out]
   clear HV
   go_wp2_with fail
   refine (OB.out _ K.out).mono ?_
   rintro e w2 ⟨q, u, rfl, hd⟩
   obtain ⟨P2, t2, k2, rfl, hd⟩ := dyR_split hd
   simp only []
   obtain ⟨V2, hV2, kV2, hb2, lV2⟩ := boxD w2 (.bool db.neg) (.slice P2 t2 k2) (.int .i64 db.e)
   have HV := Lib.hid hV2
   have kk := q.trans kV2
   replace K := Lib.hid (K.out.trans kk)
   replace B1 := Lib.hid (B1.out.kept kk)
   replace D1 := Lib.hid (D1.out.kept kk)
   have B2 := Lib.hid hb2
   have D2 := Lib.hid (hd.kept kV2)
   have l18 := Nat.lt_of_lt_of_le lV1 q.size
   clear hV2 hb2 hd q kV2 kk OB ga gb
   go_upto_region 20 with fail
   rw [← HV.out]
   clear HV
   generalize w1.heap.size = b16 at *
   generalize w2.heap.size = b18 at *
   have CC := Lib.hid (show Calls Tryz.prog 21 #[.agg #[.bool da.neg, .slice P1 t1 k1, .int .i64 da.e], .agg #[.bool db.neg, .slice P2 t2 k2, .int .i64 db.e]] V2 (RetK (.int .i64 (cmpQ da.q db.q)) V2) from
    dcmp_c D1.out D2.out (by rw [DA.out]; exact dyz_ok _ _) (by rw [DB.out]; exact dyz_ok _ _))
   have hct := (show (cmpQ da.q db.q > 0) ↔ ¬ da.q ≤ db.q by rw [← cmpQ_le]; omega)
   have HCT := Lib.hid hct
   clear hct
   generalize hcq : cmpQ da.q db.q = cq at *
   clear hcq
   obtain ⟨-, a0, a1, a2, -⟩ := B1.out.facts
   obtain ⟨-, c0, c1, c2, -⟩ := B2.out.facts
   go_wp2_with fail
   refine CC.out.mono ?_
   rintro e w3 ⟨rfl, q⟩
   replace K := Lib.hid (K.out.trans q)
   replace B1 := Lib.hid (B1.out.kept q)
   replace B2 := Lib.hid (B2.out.kept q)
   replace D1 := Lib.hid (D1.out.kept q)
   replace D2 := Lib.hid (D2.out.kept q)
   clear a0 a1 a2 c0 c1 c2 q CC
   simp only []
   obtain ⟨-, a0, a1, a2, f0, f1, f2⟩ := B1.out.facts
   obtain ⟨-, c0, c1, c2, g0, g1, g2⟩ := B2.out.facts
   go_upto_if 116 with fail
   go_cut [] (fun wx => ∃ (x y : Int) (Q1 : Option Addr) (u1 v1 : Nat) (Q2 : Option Addr) (u2 v2 : Nat), x.natAbs ≤ 16 ∧ y.natAbs ≤ 16 ∧ (dyz x (-3)).q ≤ (dyz y (-3)).q ∧
    Blk wx b16 (.bool (dyz x (-3)).neg) (.slice Q1 u1 v1) (.int .i64 (dyz x (-3)).e) ∧ DyR wx (.agg #[.bool (dyz x (-3)).neg, .slice Q1 u1 v1, .int .i64 (dyz x (-3)).e]) (dyz x (-3)).raw ∧
    Blk wx b18 (.bool (dyz y (-3)).neg) (.slice Q2 u2 v2) (.int .i64 (dyz y (-3)).e) ∧ DyR wx (.agg #[.bool (dyz y (-3)).neg, .slice Q2 u2 v2, .int .i64 (dyz y (-3)).e]) (dyz y (-3)).raw ∧ KB w3 [b16, b18] wx)
   case first =>
    go_wp2_with fail
    ·rename_i hc
     have hc' := Lib.hid (HCT.out.1 hc)
     have hz := B1.out.laid (.bool db.neg) (.slice P2 t2 k2) (.int .i64 db.e)
     have hy := B2.out.laid_other (show ¬ b18 = b16 by omega) (.bool db.neg) (.slice P2 t2 k2) (.int .i64 db.e)
     have k1' := (KB.refl w3 [b16, b18]).dyW B1.out (noLimb_bool _) (noLimb_slice _ _ _) (noLimb_i64 _) (by simp) (.bool db.neg) (.slice P2 t2 k2) (.int .i64 db.e)
     have k2' := k1'.dyW hy (noLimb_bool _) (noLimb_slice _ _ _) (noLimb_i64 _) (by simp) (.bool da.neg) (.slice P1 t1 k1) (.int .i64 da.e)
     have R := Lib.hid (show ∃ (x y : Int) (Q1 : Option Addr) (u1 v1 : Nat) (Q2 : Option Addr) (u2 v2 : Nat), x.natAbs ≤ 16 ∧ y.natAbs ≤ 16 ∧ (dyz x (-3)).q ≤ (dyz y (-3)).q ∧
      Blk (dyW (dyW w3 b16 (.bool db.neg) (.slice P2 t2 k2) (.int .i64 db.e)) b18 (.bool da.neg) (.slice P1 t1 k1) (.int .i64 da.e)) b16 (.bool (dyz x (-3)).neg) (.slice Q1 u1 v1) (.int .i64 (dyz x (-3)).e) ∧ DyR (dyW (dyW w3 b16 (.bool db.neg) (.slice P2 t2 k2) (.int .i64 db.e)) b18 (.bool da.neg) (.slice P1 t1 k1) (.int .i64 da.e)) (.agg #[.bool (dyz x (-3)).neg, .slice Q1 u1 v1, .int .i64 (dyz x (-3)).e]) (dyz x (-3)).raw ∧
      Blk (dyW (dyW w3 b16 (.bool db.neg) (.slice P2 t2 k2) (.int .i64 db.e)) b18 (.bool da.neg) (.slice P1 t1 k1) (.int .i64 da.e)) b18 (.bool (dyz y (-3)).neg) (.slice Q2 u2 v2) (.int .i64 (dyz y (-3)).e) ∧ DyR (dyW (dyW w3 b16 (.bool db.neg) (.slice P2 t2 k2) (.int .i64 db.e)) b18 (.bool da.neg) (.slice P1 t1 k1) (.int .i64 da.e)) (.agg #[.bool (dyz y (-3)).neg, .slice Q2 u2 v2, .int .i64 (dyz y (-3)).e]) (dyz y (-3)).raw ∧
      KB w3 [b16, b18] (dyW (dyW w3 b16 (.bool db.neg) (.slice P2 t2 k2) (.int .i64 db.e)) b18 (.bool da.neg) (.slice P1 t1 k1) (.int .i64 da.e)) from
      ⟨kb, ka, P2, t2, k2, P1, t1, k1, KBb.out, KA.out, by rw [← DA.out, ← DB.out]; exact rle_of hc'.out, by rw [← DB.out]; exact hz.laid_other (by omega) _ _ _, by rw [← DB.out]; exact D2.out.kb k2', by rw [← DA.out]; exact hy.laid _ _ _, by rw [← DA.out]; exact D1.out.kb k2', k2'⟩)
     clear hz hy k1' k2' hc
     go_meet
     exact R.out
    ·rename_i hc
     have R := Lib.hid (show (dyz ka (-3)).q ≤ (dyz kb (-3)).q by rw [← DA.out, ← DB.out]; exact Classical.not_not.1 (fun h => by have := HCT.out.2 h; omega))
     go_meet
     exact ⟨ka, kb, P1, t1, k1, P2, t2, k2, KA.out, KBb.out, R.out, by rw [← DA.out]; exact B1.out, by rw [← DA.out]; exact D1.out, by rw [← DB.out]; exact B2.out, by rw [← DB.out]; exact D2.out, KB.refl _ _⟩
   obtain ⟨x, y, Q1, u1, v1, Q2, u2, v2, hx, hy, hxy, bx, dX, by', dY, kq⟩ := hcut
   obtain ⟨ux, uy, wd, zd, lo, hi, gv, D, hGC, hEX, hEY, hSW, hSZ, hML, hMH, ⟨k1', hk1, hCL⟩, ⟨k2', hk2, hCH⟩⟩ := sm_pack (p := bits) (rk_b l) hx hy hxy N5.out m1 (by omega)
   generalize dyz x (-3) = dx at *
   generalize dyz y (-3) = dy at *
   have GC := Lib.hid hGC
   have EX := Lib.hid hEX
   have EY := Lib.hid hEY
   have SW' := Lib.hid hSW
   have SZ := Lib.hid hSZ
   have ML := Lib.hid hML
   have MH := Lib.hid hMH
   have CL := Lib.hid hCL
   have CH := Lib.hid hCH
   have K4 := Lib.hid (KB.kept K.out kq (by intro z hz; simp at hz; omega))
   have BX := Lib.hid bx
   have BY := Lib.hid by'
   have DX := Lib.hid dX
   have DY := Lib.hid dY
   generalize wc = V at *
   obtain ⟨-, a0', a1', a2', -⟩ := bx.facts
   obtain ⟨-, c0', c1', c2', -⟩ := by'.facts
   obtain ⟨t0', t1'⟩ := cells2 (blk_kept HTB.out K4.out)
   clear hx hy hxy bx dX by' dY kq hGC hEX hEY hSW hSZ hML hMH hCL hCH K B1 B2 D1 D2 a0 a1 a2 f0 f1 f2 c0 c1 c2 g0 g1 g2 HCT
   go_upto_region 22 with fail
   go_wp2_with fail
   refine (GC.out _ _ _ (HTP.out.kept (K4.out.trans (kept_alloc _ _))) ⟨_, _, _, _, _, _, _, _, _, rfl, ivR_zero _, ivS_new1 ⟨_, _, _, _, _, _, rfl, DX.out, DY.out⟩, ivS_nil _, ivS_nil _⟩ (TX.out.kept (K4.out.trans (kept_alloc _ _)))).mono ?_
   rintro e w4 ⟨q, ga, gb, rfl, -, hgb⟩
   replace q := (kept_alloc _ _).trans q
   replace K4 := Lib.hid (K4.out.trans q)
   replace BX := Lib.hid (BX.out.kept q)
   replace BY := Lib.hid (BY.out.kept q)
   replace DX := Lib.hid (DX.out.kept q)
   replace DY := Lib.hid (DY.out.kept q)
   obtain ⟨A5, c5, rfl, -, h5⟩ := hgb
   obtain ⟨b5, o5, rfl, g5⟩ := h5 (by simp)
   obtain ⟨s6, hs6, hS6⟩ := g5 0 _ rfl
   rw [Nat.add_zero] at hs6
   obtain ⟨b6, o6, c6, y0, y1, y2, y3, y4, y5, rfl, hc6, dl6, dh6⟩ := ivS_one (lo := D.lo.raw) (hi := D.hi.raw) hS6
   have H5 := Lib.hid hs6
   have HC6 := Lib.hid (show C6 w4 b6 o6 y0 y1 y2 y3 y4 y5 from hc6)
   have DL6 := Lib.hid dl6
   have DH6 := Lib.hid dh6
   clear q h5 g5 hS6 hs6 hc6 dl6 dh6 a0' a1' a2' c0' c1' c2' t0' t1' GC
   simp only []
   go_upto_region 23 with fail
   refine region_lin (m := 11) (V := VL [(vE (.agg #[.slice AL (3 * n + 1) cL, .slice (some ⟨bo, 0, none⟩) 1 1])), (vE (.agg #[.bool dx.neg, .slice Q1 u1 v1, .int .i64 dx.e])), (fun v wv => IvR wv v ((pt dx).raw)), (fun v wv => IvS wv v [(pt dx).raw]), (fun v wv => EnR wv v (smE (pt dx))), (fun v wv => ∃ d, v = .tuple #[d, .int .i64 0] ∧ IvS wv d [(pt ux).raw]), (fun v wv => ∃ d, v = .tuple #[d, .int .i64 0] ∧ IvS wv d [(pt ux).raw]), (fun v wv => IvS wv v [(pt ux).raw]), (vE (.int .i64 0)), (fun v wv => IvS wv v [(pt ux).raw]), (vE (.int .i64 0))])
    (by kernel_rfl) rfl (by kernel_rfl) (by kernel_rfl) (by kernel_rfl) (mono_of _ ⟨mE, mE, fun v w w' k h => by first | exact h | exact h.kept k | exact ⟨h.1, h.2.kept k⟩, fun v w w' k h => by first | exact h | exact h.kept k | exact ⟨h.1, h.2.kept k⟩, fun v w w' k h => by first | exact h | exact h.kept k | exact ⟨h.1, h.2.kept k⟩, fun v w w' k h => by obtain ⟨d, h1, h2⟩ := h; exact ⟨d, h1, h2.kept k⟩, fun v w w' k h => by obtain ⟨d, h1, h2⟩ := h; exact ⟨d, h1, h2.kept k⟩, fun v w w' k h => by first | exact h | exact h.kept k | exact ⟨h.1, h.2.kept k⟩, mE, fun v w w' k h => by first | exact h | exact h.kept k | exact ⟨h.1, h.2.kept k⟩, mE, trivial⟩) (steps_of ⟨
      (fun aF wF F => by have s10 : aF.tmps.getD 10 undef = (.pointer (some ⟨bt, 0, none⟩)) := F.o 10; have c0 := cell_at (blk_kept HTB.out K4.out) F.kept 0 _ rfl; have c1 := cell_at (blk_kept HTB.out K4.out) F.kept 1 _ rfl; exact sv rfl), (fun aF wF F => by have s16 : aF.tmps.getD 16 undef = (.pointer (some ⟨b16, 0, none⟩)) := F.o 16; have c0 := cell_at BX.out F.kept 0 _ rfl; have c1 := cell_at BX.out F.kept 1 _ rfl; have c2 := cell_at BX.out F.kept 2 _ rfl; exact sv rfl), (fun aF wF F => by have s133 := F.v 1 133; exact sI (iof_c (DX.out.kept F.kept)) fun _ _ h => h), (fun aF wF F => by have s134 := F.p 2 134; obtain ⟨P1, t1, k1, P2, t2, k2, ee, v1', v2'⟩ := ivR_split s134; simp only [Array.getD_eq_getD_getElem?] at ee; exact step_new (by simp [Region.wanted]) (by first | (go_simp; done) | (go_simp; rfl)) (kept_alloc _ _) (ivS_new1 ⟨_, _, _, _, _, _, rfl, v1', v2'⟩)), (fun aF wF F => by have s135 := F.p 3 135; have hs := s135; obtain ⟨A9, c9, e9, -, -⟩ := s135; rw [e9] at hs; simp only [Array.getD_eq_getD_getElem?] at e9; exact step_val (by simp [Region.wanted]) (by go_simp) ⟨_, _, _, _, _, _, _, _, _, rfl, ivR_zero _, hs, ivS_nil _, ivS_nil _⟩), (fun aF wF F => by have s132 := F.v 0 132; have s136 := F.p 4 136; exact step_good (by simp [Region.wanted]) (by go_simp) (EX.out _ _ _ (HTP.out.kept (K4.out.trans F.kept)) s136 (TX.out.kept (K4.out.trans F.kept))) (fun _ _ h => RetLs.good h) (fun _ _ h => h)), (fun aF wF F => by have s137 := F.p 5 137; exact step_val (by simp [Region.wanted]) rfl s137), (fun aF wF F => by have s131 := F.p 6 131; obtain ⟨d, ee, h1⟩ := s131; exact step_val (by simp [Region.wanted]) (by go_simp) h1), (fun aF wF F => by have s131 := F.p 6 131; exact sw (by obtain ⟨d, ee, h1⟩ := s131; go_simp) rfl), (fun aF wF F => by have s138 := F.p 7 138; exact step_val (by simp [Region.wanted]) rfl s138), (fun aF wF F => by have s139 := F.v 8 139; exact sv rfl),
      trivial⟩) ?_
   intro u w5 q hu
   have p134 := hp hu 2
   have p135 := hp hu 3
   have p136 := hp hu 4
   have p137 := hp hu 5
   have p131 := hp hu 6
   have p138 := hp hu 7
   have p23 := hp hu 9
   simp only [puts, slotOf, if_true, Act.put, z1, z2, z3, z4, z5, z6, z7, hv hu 0, hv hu 1, hv hu 8, hv hu 10]
   clear hu
   generalize u 2 = v134 at *
   generalize u 3 = v135 at *
   generalize u 4 = v136 at *
   generalize u 5 = v137 at *
   generalize u 6 = v131 at *
   generalize u 7 = v138 at *
   generalize u 9 = v23 at *
   obtain ⟨b7, o7, c7, x0, x1, x2, x3, x4, x5, rfl, hc7, dl7, -⟩ := ivS_one (lo := ux.raw) (hi := ux.raw) p23
   have HC7 := Lib.hid (show C6 w5 b7 o7 x0 x1 x2 x3 x4 x5 from hc7)
   have DL7 := Lib.hid dl7
   clear p23 hc7 dl7 p131 p134 p135 p136 p137 p138 EX
   replace K4 := Lib.hid (K4.out.trans q)
   replace BX := Lib.hid (BX.out.kept q)
   replace BY := Lib.hid (BY.out.kept q)
   replace DX := Lib.hid (DX.out.kept q)
   replace DY := Lib.hid (DY.out.kept q)
   replace H5 := Lib.hid (cellK H5.out q)
   replace HC6 := Lib.hid (HC6.out.kept q)
   replace DL6 := Lib.hid (DL6.out.kept q)
   replace DH6 := Lib.hid (DH6.out.kept q)
   clear q
   go_upto_region 24 with fail
   refine region_lin (m := 11) (V := VL [(vE (.agg #[.slice AL (3 * n + 1) cL, .slice (some ⟨bo, 0, none⟩) 1 1])), (vE (.agg #[.bool dy.neg, .slice Q2 u2 v2, .int .i64 dy.e])), (fun v wv => IvR wv v ((pt dy).raw)), (fun v wv => IvS wv v [(pt dy).raw]), (fun v wv => EnR wv v (smE (pt dy))), (fun v wv => ∃ d, v = .tuple #[d, .int .i64 0] ∧ IvS wv d [(pt uy).raw]), (fun v wv => ∃ d, v = .tuple #[d, .int .i64 0] ∧ IvS wv d [(pt uy).raw]), (fun v wv => IvS wv v [(pt uy).raw]), (vE (.int .i64 0)), (fun v wv => IvS wv v [(pt uy).raw]), (vE (.int .i64 0))])
    (by kernel_rfl) rfl (by kernel_rfl) (by kernel_rfl) (by kernel_rfl) (mono_of _ ⟨mE, mE, fun v w w' k h => by first | exact h | exact h.kept k | exact ⟨h.1, h.2.kept k⟩, fun v w w' k h => by first | exact h | exact h.kept k | exact ⟨h.1, h.2.kept k⟩, fun v w w' k h => by first | exact h | exact h.kept k | exact ⟨h.1, h.2.kept k⟩, fun v w w' k h => by obtain ⟨d, h1, h2⟩ := h; exact ⟨d, h1, h2.kept k⟩, fun v w w' k h => by obtain ⟨d, h1, h2⟩ := h; exact ⟨d, h1, h2.kept k⟩, fun v w w' k h => by first | exact h | exact h.kept k | exact ⟨h.1, h.2.kept k⟩, mE, fun v w w' k h => by first | exact h | exact h.kept k | exact ⟨h.1, h.2.kept k⟩, mE, trivial⟩) (steps_of ⟨
      (fun aF wF F => by have s10 : aF.tmps.getD 10 undef = (.pointer (some ⟨bt, 0, none⟩)) := F.o 10; have c0 := cell_at (blk_kept HTB.out K4.out) F.kept 0 _ rfl; have c1 := cell_at (blk_kept HTB.out K4.out) F.kept 1 _ rfl; exact sv rfl), (fun aF wF F => by have s18 : aF.tmps.getD 18 undef = (.pointer (some ⟨b18, 0, none⟩)) := F.o 18; have c0 := cell_at BY.out F.kept 0 _ rfl; have c1 := cell_at BY.out F.kept 1 _ rfl; have c2 := cell_at BY.out F.kept 2 _ rfl; exact sv rfl), (fun aF wF F => by have s142 := F.v 1 142; exact sI (iof_c (DY.out.kept F.kept)) fun _ _ h => h), (fun aF wF F => by have s143 := F.p 2 143; obtain ⟨P1, t1, k1, P2, t2, k2, ee, v1', v2'⟩ := ivR_split s143; simp only [Array.getD_eq_getD_getElem?] at ee; exact step_new (by simp [Region.wanted]) (by first | (go_simp; done) | (go_simp; rfl)) (kept_alloc _ _) (ivS_new1 ⟨_, _, _, _, _, _, rfl, v1', v2'⟩)), (fun aF wF F => by have s144 := F.p 3 144; have hs := s144; obtain ⟨A9, c9, e9, -, -⟩ := s144; rw [e9] at hs; simp only [Array.getD_eq_getD_getElem?] at e9; exact step_val (by simp [Region.wanted]) (by go_simp) ⟨_, _, _, _, _, _, _, _, _, rfl, ivR_zero _, hs, ivS_nil _, ivS_nil _⟩), (fun aF wF F => by have s141 := F.v 0 141; have s145 := F.p 4 145; exact step_good (by simp [Region.wanted]) (by go_simp) (EY.out _ _ _ (HTP.out.kept (K4.out.trans F.kept)) s145 (TX.out.kept (K4.out.trans F.kept))) (fun _ _ h => RetLs.good h) (fun _ _ h => h)), (fun aF wF F => by have s146 := F.p 5 146; exact step_val (by simp [Region.wanted]) rfl s146), (fun aF wF F => by have s140 := F.p 6 140; obtain ⟨d, ee, h1⟩ := s140; exact step_val (by simp [Region.wanted]) (by go_simp) h1), (fun aF wF F => by have s140 := F.p 6 140; exact sw (by obtain ⟨d, ee, h1⟩ := s140; go_simp) rfl), (fun aF wF F => by have s147 := F.p 7 147; exact step_val (by simp [Region.wanted]) rfl s147), (fun aF wF F => by have s148 := F.v 8 148; exact sv rfl),
      trivial⟩) ?_
   intro u w6 q hu
   have p143 := hp hu 2
   have p144 := hp hu 3
   have p145 := hp hu 4
   have p146 := hp hu 5
   have p140 := hp hu 6
   have p147 := hp hu 7
   have p25 := hp hu 9
   simp only [puts, slotOf, if_true, Act.put, z1, z2, z3, z4, z5, z6, z7, hv hu 0, hv hu 1, hv hu 8, hv hu 10]
   clear hu
   generalize u 2 = v143 at *
   generalize u 3 = v144 at *
   generalize u 4 = v145 at *
   generalize u 5 = v146 at *
   generalize u 6 = v140 at *
   generalize u 7 = v147 at *
   generalize u 9 = v25 at *
   obtain ⟨b8, o8, c8, vz0, vz1, vz2, vz3, vz4, vz5, rfl, hc8, dl8, -⟩ := ivS_one (lo := uy.raw) (hi := uy.raw) p25
   have HC8 := Lib.hid (show C6 w6 b8 o8 vz0 vz1 vz2 vz3 vz4 vz5 from hc8)
   have DL8 := Lib.hid dl8
   clear p25 hc8 dl8 p140 p143 p144 p145 p146 p147 EY
   replace K4 := Lib.hid (K4.out.trans q)
   replace BX := Lib.hid (BX.out.kept q)
   replace BY := Lib.hid (BY.out.kept q)
   replace DX := Lib.hid (DX.out.kept q)
   replace DY := Lib.hid (DY.out.kept q)
   replace H5 := Lib.hid (cellK H5.out q)
   replace HC6 := Lib.hid (HC6.out.kept q)
   replace DL6 := Lib.hid (DL6.out.kept q)
   replace DH6 := Lib.hid (DH6.out.kept q)
   replace HC7 := Lib.hid (HC7.out.kept q)
   replace DL7 := Lib.hid (DL7.out.kept q)
   clear q
   have h5c := H5.out
   obtain ⟨-, a0, a1, a2, -⟩ := BX.out.facts
   obtain ⟨-, c0, c1, c2, -⟩ := BY.out.facts
   go_upto_region 27 with fail
   go_wp2_with fail
   refine (SW'.out _ _ _ DY.out DX.out (TX.out.kept K4.out)).mono ?_
   rintro e w7 ⟨q, u, rfl, hd⟩
   obtain ⟨P7, t7, k7, rfl, hd⟩ := dyR_split hd
   simp only []
   obtain ⟨V7, hV7, kV7, hb7, lV7⟩ := boxD w7 (.bool wd.neg) (.slice P7 t7 k7) (.int .i64 wd.e)
   have HV := Lib.hid hV7
   have kk := q.trans kV7
   replace K4 := Lib.hid (K4.out.trans kk)
   replace H5 := Lib.hid (cellK H5.out kk)
   replace HC6 := Lib.hid (HC6.out.kept kk)
   replace DL6 := Lib.hid (DL6.out.kept kk)
   replace DH6 := Lib.hid (DH6.out.kept kk)
   replace HC7 := Lib.hid (HC7.out.kept kk)
   replace DL7 := Lib.hid (DL7.out.kept kk)
   replace HC8 := Lib.hid (HC8.out.kept kk)
   replace DL8 := Lib.hid (DL8.out.kept kk)
   have BW := Lib.hid hb7
   have DW := Lib.hid (hd.kept kV7)
   clear hV7 hb7 hd q kV7 kk a0 a1 a2 c0 c1 c2 h5c SW' BX BY DX DY
   go_upto_region 28 with fail
   rw [← HV.out]
   clear HV
   generalize w7.heap.size = b27 at *
   refine region_lin2e (e := 11) (m := 13) (V := VL [(vE (.slice (some ⟨b8, o8, none⟩) 1 c8)), (vE (.pointer (some ⟨b8, o8, none⟩))), (vE (.pointer (some ⟨b8, o8, none⟩))), (vE (.agg #[vz0, vz1, vz2])), (vE (.slice (some ⟨b7, o7, none⟩) 1 c7)), (vE (.pointer (some ⟨b7, o7, none⟩))), (vE (.pointer (some ⟨b7, o7, none⟩))), (vE (.agg #[x0, x1, x2])), (fun v wv => ∃ d, v = .tuple #[d, .int .i64 0] ∧ DyR wv d zd.raw), (fun v wv => ∃ d, v = .tuple #[d, .int .i64 0] ∧ DyR wv d zd.raw), (fun v wv => DyR wv v zd.raw), (vE (.int .i64 0)), (fun v wv => ∃ b, v = .pointer (some ⟨b, 0, none⟩) ∧ V7.heap.size ≤ b ∧ Blk wv b (.bool false) (.slice none 0 0) (.int .i64 0))])
    (by kernel_rfl) rfl rfl rfl rfl rfl rfl rfl (by decide) (by kernel_rfl) (by kernel_rfl) (by kernel_rfl) (by kernel_rfl) (by kernel_rfl) (by kernel_rfl) (mono_of _ ⟨mE, mE, mE, mE, mE, mE, mE, mE, fun v w w' k h => by obtain ⟨d, h1, h2⟩ := h; exact ⟨d, h1, h2.kept k⟩, fun v w w' k h => by obtain ⟨d, h1, h2⟩ := h; exact ⟨d, h1, h2.kept k⟩, mD, mE, fun v w w' k h => by obtain ⟨b, h1, h2, h3⟩ := h; exact ⟨b, h1, h2, h3.kept k⟩, trivial⟩) (steps_of ⟨
      (fun aF wF F => by have s25 : aF.tmps.getD 25 undef = (.slice (some ⟨b8, o8, none⟩) 1 c8) := F.o 25; exact sv rfl), (fun aF wF F => by have s188 := F.v 0 188; exact sv rfl), (fun aF wF F => by have s189 := F.v 1 189; exact sv rfl), (fun aF wF F => by have s190 := F.v 2 190; exact sw (by (obtain ⟨n0, n1, n2, -⟩ := HC8.out.kept F.kept; go_simp)) rfl), (fun aF wF F => by have s23 : aF.tmps.getD 23 undef = (.slice (some ⟨b7, o7, none⟩) 1 c7) := F.o 23; exact sv rfl), (fun aF wF F => by have s192 := F.v 4 192; exact sv rfl), (fun aF wF F => by have s193 := F.v 5 193; exact sv rfl), (fun aF wF F => by have s194 := F.v 6 194; exact sw (by (obtain ⟨n0, n1, n2, -⟩ := HC7.out.kept F.kept; go_simp)) rfl), (fun aF wF F => by have s191 := F.v 3 191; have s195 := F.v 7 195; exact sE (SZ.out _ _ _ (DL8.out.kept F.kept) (DL7.out.kept F.kept) (TX.out.kept (K4.out.trans F.kept))) fun _ _ h => h), (fun aF wF F => by have s196 := F.p 8 196; exact step_val (by simp [Region.wanted]) rfl s196), (fun aF wF F => by have s187 := F.p 9 187; obtain ⟨d, ee, hh⟩ := s187; exact step_val (by simp [Region.wanted]) (by go_simp) hh), (fun aF wF F => by have s187 := F.p 9 187; exact sw (by obtain ⟨d, ee, hh⟩ := s187; go_simp) rfl), (fun aF wF F => by exact step_new (by simp [Region.wanted]) (by go_simp) (kept_alloc _ _) ⟨_, rfl, F.kept.size, blk_new0 _⟩),
      trivial⟩) ?_
   intro u w8 q hu
   have e188 : u 0 = (.slice (some ⟨b8, o8, none⟩) 1 c8) := hu 0 (by decide) (by decide)
   have e189 : u 1 = (.pointer (some ⟨b8, o8, none⟩)) := hu 1 (by decide) (by decide)
   have e190 : u 2 = (.pointer (some ⟨b8, o8, none⟩)) := hu 2 (by decide) (by decide)
   have e191 : u 3 = (.agg #[vz0, vz1, vz2]) := hu 3 (by decide) (by decide)
   have e192 : u 4 = (.slice (some ⟨b7, o7, none⟩) 1 c7) := hu 4 (by decide) (by decide)
   have e193 : u 5 = (.pointer (some ⟨b7, o7, none⟩)) := hu 5 (by decide) (by decide)
   have e194 : u 6 = (.pointer (some ⟨b7, o7, none⟩)) := hu 6 (by decide) (by decide)
   have e195 : u 7 = (.agg #[x0, x1, x2]) := hu 7 (by decide) (by decide)
   have p196 := hu 8 (by decide) (by decide)
   obtain ⟨v196, e196⟩ : ∃ v, u 8 = v := ⟨_, rfl⟩
   rw [e196] at p196
   try simp only [VL, List.getD_cons_zero, List.getD_cons_succ] at p196
   have p187 := hu 9 (by decide) (by decide)
   obtain ⟨v187, e187⟩ : ∃ v, u 9 = v := ⟨_, rfl⟩
   rw [e187] at p187
   try simp only [VL, List.getD_cons_zero, List.getD_cons_succ] at p187
   have p197 := hu 10 (by decide) (by decide)
   obtain ⟨v197, e197⟩ : ∃ v, u 10 = v := ⟨_, rfl⟩
   rw [e197] at p197
   try simp only [VL, List.getD_cons_zero, List.getD_cons_succ] at p197
   have p29 := hu 12 (by decide) (by decide)
   obtain ⟨v29, e29⟩ : ∃ v, u 12 = v := ⟨_, rfl⟩
   rw [e29] at p29
   try simp only [VL, List.getD_cons_zero, List.getD_cons_succ] at p29
   clear hu
   clear p196
   obtain ⟨bn29, rfl, hbn, hxn⟩ := p29
   obtain ⟨Pn, tn, kn, rfl, zn⟩ := dyR_split p197
   obtain ⟨-, y0', y1', y2', f0', f1', f2'⟩ := hxn.facts
   obtain ⟨dd, rfl, -⟩ := p187
   apply dup
   ·intro G he
    simp only [VL, vE, List.getD_cons_zero, List.getD_cons_succ] at he
    simp only [if_true, puts, slotOf, Act.put, List.setIfInBounds_toArray, List.set_cons_zero, List.set_cons_succ, List.getElem?_toArray, List.getElem?_cons_zero, List.getElem?_cons_succ, Option.bind_some, e188, e189, e190, e191, e192, e193, e194, e195, e196, e187, e197, e29, he]
    go_simp
    exact G
   ·intro G
    simp only [puts, slotOf, Act.put, List.setIfInBounds_toArray, List.set_cons_zero, List.set_cons_succ, List.getElem?_toArray, List.getElem?_cons_zero, List.getElem?_cons_succ, Option.bind_some, e188, e189, e190, e191, e192, e193, e194, e195, e196, e187, e197, e29]
    go_simp
    exact G
   clear e188 e189 e190 e191 e192 e193 e194 e195 e196 e187 e197 e29
   go_upto_region 29 with fail
   change Code.wp _ _ _ _ (dyW w8 bn29 (.bool zd.neg) (.slice Pn tn kn) (.int .i64 zd.e))
   obtain ⟨Y8, hX⟩ : ∃ X, X = dyW w8 bn29 (.bool zd.neg) (.slice Pn tn kn) (.int .i64 zd.e) := ⟨_, rfl⟩
   rw [← hX]
   have BZ := Lib.hid (show Blk Y8 bn29 (.bool zd.neg) (.slice Pn tn kn) (.int .i64 zd.e) by rw [hX]; exact hxn.laid _ _ _)
   have DZ := Lib.hid (show DyR Y8 (.agg #[.bool zd.neg, .slice Pn tn kn, .int .i64 zd.e]) zd.raw by rw [hX]; exact zn.dyW hxn (noLimb_bool _) (noLimb_slice _ _ _) (noLimb_i64 _) _ _ _)
   replace q : Kept V7 Y8 := by rw [hX]; exact dyW_kept q hbn
   replace K4 := Lib.hid (K4.out.trans q)
   clear hX hbn hxn zn y0' y1' y2' f0' f1' f2'
   replace H5 := Lib.hid (cellK H5.out q)
   replace HC6 := Lib.hid (HC6.out.kept q)
   replace DL6 := Lib.hid (DL6.out.kept q)
   replace DH6 := Lib.hid (DH6.out.kept q)
   replace BW := Lib.hid (BW.out.kept q)
   replace DW := Lib.hid (DW.out.kept q)
   clear q HC7 HC8 DL7 DL8 SZ
   refine region_lin2e (e := 10) (m := 12) (V := VL [(vE (.slice (some ⟨b5, o5, none⟩) 1 c5)), (vE (.pointer (some ⟨b5, o5, none⟩))), (vE (.slice (some ⟨b6, o6, none⟩) 1 c6)), (vE (.pointer (some ⟨b6, o6, none⟩))), (vE (.pointer (some ⟨b6, o6, none⟩))), (vE (.agg #[y0, y1, y2])), (vE (.agg #[.bool wd.neg, .slice P7 t7 k7, .int .i64 wd.e])), (fun v wv => ∃ d, v = .tuple #[d, .int .i64 0] ∧ DyR wv d lo.raw), (fun v wv => ∃ d, v = .tuple #[d, .int .i64 0] ∧ DyR wv d lo.raw), (fun v wv => DyR wv v lo.raw), (vE (.int .i64 0)), (fun v wv => ∃ b, v = .pointer (some ⟨b, 0, none⟩) ∧ Y8.heap.size ≤ b ∧ Blk wv b (.bool false) (.slice none 0 0) (.int .i64 0))])
    (by kernel_rfl) rfl rfl rfl rfl rfl rfl rfl (by decide) (by kernel_rfl) (by kernel_rfl) (by kernel_rfl) (by kernel_rfl) (by kernel_rfl) (by kernel_rfl) (mono_of _ ⟨mE, mE, mE, mE, mE, mE, mE, fun v w w' k h => by obtain ⟨d, h1, h2⟩ := h; exact ⟨d, h1, h2.kept k⟩, fun v w w' k h => by obtain ⟨d, h1, h2⟩ := h; exact ⟨d, h1, h2.kept k⟩, mD, mE, fun v w w' k h => by obtain ⟨b, h1, h2, h3⟩ := h; exact ⟨b, h1, h2, h3.kept k⟩, trivial⟩) (steps_of ⟨
      (fun aF wF F => by have s21 : aF.tmps.getD 21 undef = (.slice (some ⟨b5, o5, none⟩) 1 c5) := F.o 21; exact sv rfl), (fun aF wF F => by have s200 := F.v 0 200; exact sv rfl), (fun aF wF F => by have s201 := F.v 1 201; exact sw (by (have n0 := cellK H5.out F.kept; go_simp)) rfl), (fun aF wF F => by have s202 := F.v 2 202; exact sv rfl), (fun aF wF F => by have s203 := F.v 3 203; exact sv rfl), (fun aF wF F => by have s204 := F.v 4 204; exact sw (by (obtain ⟨n0, n1, n2, n3, n4, n5⟩ := HC6.out.kept F.kept; go_simp)) rfl), (fun aF wF F => by have s27 : aF.tmps.getD 27 undef = (.pointer (some ⟨b27, 0, none⟩)) := F.o 27; have c0 := cell_at BW.out F.kept 0 _ rfl; have c1 := cell_at BW.out F.kept 1 _ rfl; have c2 := cell_at BW.out F.kept 2 _ rfl; exact sv rfl), (fun aF wF F => by have s205 := F.v 5 205; have s206 := F.v 6 206; exact sE (ML.out _ _ _ (DL6.out.kept F.kept) (DW.out.kept F.kept) (TX.out.kept (K4.out.trans F.kept))) fun _ _ h => h), (fun aF wF F => by have s207 := F.p 7 207; exact step_val (by simp [Region.wanted]) rfl s207), (fun aF wF F => by have s199 := F.p 8 199; obtain ⟨d, ee, hh⟩ := s199; exact step_val (by simp [Region.wanted]) (by go_simp) hh), (fun aF wF F => by have s199 := F.p 8 199; exact sw (by obtain ⟨d, ee, hh⟩ := s199; go_simp) rfl), (fun aF wF F => by exact step_new (by simp [Region.wanted]) (by go_simp) (kept_alloc _ _) ⟨_, rfl, F.kept.size, blk_new0 _⟩),
      trivial⟩) ?_
   intro u w9 q hu
   have e200 : u 0 = (.slice (some ⟨b5, o5, none⟩) 1 c5) := hu 0 (by decide) (by decide)
   have e201 : u 1 = (.pointer (some ⟨b5, o5, none⟩)) := hu 1 (by decide) (by decide)
   have e202 : u 2 = (.slice (some ⟨b6, o6, none⟩) 1 c6) := hu 2 (by decide) (by decide)
   have e203 : u 3 = (.pointer (some ⟨b6, o6, none⟩)) := hu 3 (by decide) (by decide)
   have e204 : u 4 = (.pointer (some ⟨b6, o6, none⟩)) := hu 4 (by decide) (by decide)
   have e205 : u 5 = (.agg #[y0, y1, y2]) := hu 5 (by decide) (by decide)
   have e206 : u 6 = (.agg #[.bool wd.neg, .slice P7 t7 k7, .int .i64 wd.e]) := hu 6 (by decide) (by decide)
   have p207 := hu 7 (by decide) (by decide)
   obtain ⟨v207, e207⟩ : ∃ v, u 7 = v := ⟨_, rfl⟩
   rw [e207] at p207
   try simp only [VL, List.getD_cons_zero, List.getD_cons_succ] at p207
   have p199 := hu 8 (by decide) (by decide)
   obtain ⟨v199, e199⟩ : ∃ v, u 8 = v := ⟨_, rfl⟩
   rw [e199] at p199
   try simp only [VL, List.getD_cons_zero, List.getD_cons_succ] at p199
   have p208 := hu 9 (by decide) (by decide)
   obtain ⟨v208, e208⟩ : ∃ v, u 9 = v := ⟨_, rfl⟩
   rw [e208] at p208
   try simp only [VL, List.getD_cons_zero, List.getD_cons_succ] at p208
   have p31 := hu 11 (by decide) (by decide)
   obtain ⟨v31, e31⟩ : ∃ v, u 11 = v := ⟨_, rfl⟩
   rw [e31] at p31
   try simp only [VL, List.getD_cons_zero, List.getD_cons_succ] at p31
   clear hu
   clear p207
   obtain ⟨bn31, rfl, hbn, hxn⟩ := p31
   obtain ⟨Pn, tn, kn, rfl, zn⟩ := dyR_split p208
   obtain ⟨-, y0', y1', y2', f0', f1', f2'⟩ := hxn.facts
   obtain ⟨dd, rfl, -⟩ := p199
   apply dup
   ·intro G he
    simp only [VL, vE, List.getD_cons_zero, List.getD_cons_succ] at he
    simp only [if_true, puts, slotOf, Act.put, List.setIfInBounds_toArray, List.set_cons_zero, List.set_cons_succ, List.getElem?_toArray, List.getElem?_cons_zero, List.getElem?_cons_succ, Option.bind_some, e200, e201, e202, e203, e204, e205, e206, e207, e199, e208, e31, he]
    go_simp
    exact G
   ·intro G
    simp only [puts, slotOf, Act.put, List.setIfInBounds_toArray, List.set_cons_zero, List.set_cons_succ, List.getElem?_toArray, List.getElem?_cons_zero, List.getElem?_cons_succ, Option.bind_some, e200, e201, e202, e203, e204, e205, e206, e207, e199, e208, e31]
    go_simp
    exact G
   clear e200 e201 e202 e203 e204 e205 e206 e207 e199 e208 e31
   go_upto_region 30 with fail
   change Code.wp _ _ _ _ (dyW w9 bn31 (.bool lo.neg) (.slice Pn tn kn) (.int .i64 lo.e))
   obtain ⟨Y9, hX⟩ : ∃ X, X = dyW w9 bn31 (.bool lo.neg) (.slice Pn tn kn) (.int .i64 lo.e) := ⟨_, rfl⟩
   rw [← hX]
   have BLo := Lib.hid (show Blk Y9 bn31 (.bool lo.neg) (.slice Pn tn kn) (.int .i64 lo.e) by rw [hX]; exact hxn.laid _ _ _)
   have DLo := Lib.hid (show DyR Y9 (.agg #[.bool lo.neg, .slice Pn tn kn, .int .i64 lo.e]) lo.raw by rw [hX]; exact zn.dyW hxn (noLimb_bool _) (noLimb_slice _ _ _) (noLimb_i64 _) _ _ _)
   replace q : Kept Y8 Y9 := by rw [hX]; exact dyW_kept q hbn
   replace K4 := Lib.hid (K4.out.trans q)
   clear hX hbn hxn zn y0' y1' y2' f0' f1' f2'
   replace H5 := Lib.hid (cellK H5.out q)
   replace HC6 := Lib.hid (HC6.out.kept q)
   replace DH6 := Lib.hid (DH6.out.kept q)
   replace BW := Lib.hid (BW.out.kept q)
   replace DW := Lib.hid (DW.out.kept q)
   replace BZ := Lib.hid (BZ.out.kept q)
   replace DZ := Lib.hid (DZ.out.kept q)
   clear q DL6 ML
   refine region_lin2e (e := 10) (m := 12) (V := VL [(vE (.slice (some ⟨b5, o5, none⟩) 1 c5)), (vE (.pointer (some ⟨b5, o5, none⟩))), (vE (.slice (some ⟨b6, o6, none⟩) 1 c6)), (vE (.pointer (some ⟨b6, o6, none⟩))), (vE (.pointer (some ⟨b6, o6 + 3, none⟩))), (vE (.agg #[y3, y4, y5])), (vE (.agg #[.bool wd.neg, .slice P7 t7 k7, .int .i64 wd.e])), (fun v wv => ∃ d, v = .tuple #[d, .int .i64 0] ∧ DyR wv d hi.raw), (fun v wv => ∃ d, v = .tuple #[d, .int .i64 0] ∧ DyR wv d hi.raw), (fun v wv => DyR wv v hi.raw), (vE (.int .i64 0)), (fun v wv => ∃ b, v = .pointer (some ⟨b, 0, none⟩) ∧ Y9.heap.size ≤ b ∧ Blk wv b (.bool false) (.slice none 0 0) (.int .i64 0))])
    (by kernel_rfl) rfl rfl rfl rfl rfl rfl rfl (by decide) (by kernel_rfl) (by kernel_rfl) (by kernel_rfl) (by kernel_rfl) (by kernel_rfl) (by kernel_rfl) (mono_of _ ⟨mE, mE, mE, mE, mE, mE, mE, fun v w w' k h => by obtain ⟨d, h1, h2⟩ := h; exact ⟨d, h1, h2.kept k⟩, fun v w w' k h => by obtain ⟨d, h1, h2⟩ := h; exact ⟨d, h1, h2.kept k⟩, mD, mE, fun v w w' k h => by obtain ⟨b, h1, h2, h3⟩ := h; exact ⟨b, h1, h2, h3.kept k⟩, trivial⟩) (steps_of ⟨
      (fun aF wF F => by have s21 : aF.tmps.getD 21 undef = (.slice (some ⟨b5, o5, none⟩) 1 c5) := F.o 21; exact sv rfl), (fun aF wF F => by have s211 := F.v 0 211; exact sv rfl), (fun aF wF F => by have s212 := F.v 1 212; exact sw (by (have n0 := cellK H5.out F.kept; go_simp)) rfl), (fun aF wF F => by have s213 := F.v 2 213; exact sv rfl), (fun aF wF F => by have s214 := F.v 3 214; exact sv rfl), (fun aF wF F => by have s215 := F.v 4 215; exact sw (by (obtain ⟨n0, n1, n2, n3, n4, n5⟩ := HC6.out.kept F.kept; go_simp)) rfl), (fun aF wF F => by have s27 : aF.tmps.getD 27 undef = (.pointer (some ⟨b27, 0, none⟩)) := F.o 27; have c0 := cell_at BW.out F.kept 0 _ rfl; have c1 := cell_at BW.out F.kept 1 _ rfl; have c2 := cell_at BW.out F.kept 2 _ rfl; exact sv rfl), (fun aF wF F => by have s216 := F.v 5 216; have s217 := F.v 6 217; exact sE (MH.out _ _ _ (DH6.out.kept F.kept) (DW.out.kept F.kept) (TX.out.kept (K4.out.trans F.kept))) fun _ _ h => h), (fun aF wF F => by have s218 := F.p 7 218; exact step_val (by simp [Region.wanted]) rfl s218), (fun aF wF F => by have s210 := F.p 8 210; obtain ⟨d, ee, hh⟩ := s210; exact step_val (by simp [Region.wanted]) (by go_simp) hh), (fun aF wF F => by have s210 := F.p 8 210; exact sw (by obtain ⟨d, ee, hh⟩ := s210; go_simp) rfl), (fun aF wF F => by exact step_new (by simp [Region.wanted]) (by go_simp) (kept_alloc _ _) ⟨_, rfl, F.kept.size, blk_new0 _⟩),
      trivial⟩) ?_
   intro u w10 q hu
   have e211 : u 0 = (.slice (some ⟨b5, o5, none⟩) 1 c5) := hu 0 (by decide) (by decide)
   have e212 : u 1 = (.pointer (some ⟨b5, o5, none⟩)) := hu 1 (by decide) (by decide)
   have e213 : u 2 = (.slice (some ⟨b6, o6, none⟩) 1 c6) := hu 2 (by decide) (by decide)
   have e214 : u 3 = (.pointer (some ⟨b6, o6, none⟩)) := hu 3 (by decide) (by decide)
   have e215 : u 4 = (.pointer (some ⟨b6, o6 + 3, none⟩)) := hu 4 (by decide) (by decide)
   have e216 : u 5 = (.agg #[y3, y4, y5]) := hu 5 (by decide) (by decide)
   have e217 : u 6 = (.agg #[.bool wd.neg, .slice P7 t7 k7, .int .i64 wd.e]) := hu 6 (by decide) (by decide)
   have p218 := hu 7 (by decide) (by decide)
   obtain ⟨v218, e218⟩ : ∃ v, u 7 = v := ⟨_, rfl⟩
   rw [e218] at p218
   try simp only [VL, List.getD_cons_zero, List.getD_cons_succ] at p218
   have p210 := hu 8 (by decide) (by decide)
   obtain ⟨v210, e210⟩ : ∃ v, u 8 = v := ⟨_, rfl⟩
   rw [e210] at p210
   try simp only [VL, List.getD_cons_zero, List.getD_cons_succ] at p210
   have p219 := hu 9 (by decide) (by decide)
   obtain ⟨v219, e219⟩ : ∃ v, u 9 = v := ⟨_, rfl⟩
   rw [e219] at p219
   try simp only [VL, List.getD_cons_zero, List.getD_cons_succ] at p219
   have p33 := hu 11 (by decide) (by decide)
   obtain ⟨v33, e33⟩ : ∃ v, u 11 = v := ⟨_, rfl⟩
   rw [e33] at p33
   try simp only [VL, List.getD_cons_zero, List.getD_cons_succ] at p33
   clear hu
   clear p218
   obtain ⟨bn33, rfl, hbn, hxn⟩ := p33
   obtain ⟨Pn, tn, kn, rfl, zn⟩ := dyR_split p219
   obtain ⟨-, y0', y1', y2', f0', f1', f2'⟩ := hxn.facts
   obtain ⟨dd, rfl, -⟩ := p210
   apply dup
   ·intro G he
    simp only [VL, vE, List.getD_cons_zero, List.getD_cons_succ] at he
    simp only [if_true, puts, slotOf, Act.put, List.setIfInBounds_toArray, List.set_cons_zero, List.set_cons_succ, List.getElem?_toArray, List.getElem?_cons_zero, List.getElem?_cons_succ, Option.bind_some, e211, e212, e213, e214, e215, e216, e217, e218, e210, e219, e33, he]
    go_simp
    exact G
   ·intro G
    simp only [puts, slotOf, Act.put, List.setIfInBounds_toArray, List.set_cons_zero, List.set_cons_succ, List.getElem?_toArray, List.getElem?_cons_zero, List.getElem?_cons_succ, Option.bind_some, e211, e212, e213, e214, e215, e216, e217, e218, e210, e219, e33]
    go_simp
    exact G
   clear e211 e212 e213 e214 e215 e216 e217 e218 e210 e219 e33
   go_upto_region 31 with fail
   change Code.wp _ _ _ _ (dyW w10 bn33 (.bool hi.neg) (.slice Pn tn kn) (.int .i64 hi.e))
   obtain ⟨Y10, hX⟩ : ∃ X, X = dyW w10 bn33 (.bool hi.neg) (.slice Pn tn kn) (.int .i64 hi.e) := ⟨_, rfl⟩
   rw [← hX]
   have BHi := Lib.hid (show Blk Y10 bn33 (.bool hi.neg) (.slice Pn tn kn) (.int .i64 hi.e) by rw [hX]; exact hxn.laid _ _ _)
   have DHi := Lib.hid (show DyR Y10 (.agg #[.bool hi.neg, .slice Pn tn kn, .int .i64 hi.e]) hi.raw by rw [hX]; exact zn.dyW hxn (noLimb_bool _) (noLimb_slice _ _ _) (noLimb_i64 _) _ _ _)
   replace q : Kept Y9 Y10 := by rw [hX]; exact dyW_kept q hbn
   replace K4 := Lib.hid (K4.out.trans q)
   clear hX hbn hxn zn y0' y1' y2' f0' f1' f2'
   replace BZ := Lib.hid (BZ.out.kept q)
   replace DZ := Lib.hid (DZ.out.kept q)
   replace BLo := Lib.hid (BLo.out.kept q)
   replace DLo := Lib.hid (DLo.out.kept q)
   clear q H5 HC6 DH6 MH BW DW
   go_wp2_with fail
   refine (told10_c (TX.out.kept K4.out)).mono ?_
   rintro e w11 ⟨rfl, q⟩
   simp only []
   replace K4 := Lib.hid (K4.out.trans q)
   replace BZ := Lib.hid (BZ.out.kept q)
   replace DZ := Lib.hid (DZ.out.kept q)
   replace BLo := Lib.hid (BLo.out.kept q)
   replace DLo := Lib.hid (DLo.out.kept q)
   replace BHi := Lib.hid (BHi.out.kept q)
   replace DHi := Lib.hid (DHi.out.kept q)
   clear q
   obtain ⟨-, a0, a1, a2, -⟩ := BLo.out.facts
   obtain ⟨-, c0, c1, c2, -⟩ := BZ.out.facts
   go_wp2_with fail
   refine (CL.out _ _ _ DLo.out DZ.out).mono ?_
   rintro e w12 ⟨rfl, q⟩
   simp only []
   replace K4 := Lib.hid (K4.out.trans q)
   replace BZ := Lib.hid (BZ.out.kept q)
   replace DZ := Lib.hid (DZ.out.kept q)
   replace BHi := Lib.hid (BHi.out.kept q)
   replace DHi := Lib.hid (DHi.out.kept q)
   clear q a0 a1 a2 c0 c1 c2
   obtain ⟨-, a0, a1, a2, -⟩ := BHi.out.facts
   obtain ⟨-, c0, c1, c2, -⟩ := BZ.out.facts
   go_wp2_with fail
   refine (CH.out _ _ _ DZ.out DHi.out).mono ?_
   rintro e w13 ⟨rfl, q⟩
   simp only []
   go_wp2_with fail
   go_ret
   exact ⟨rfl, KF.out.trans (K4.out.trans q)⟩
end Go.Proofs.YtgododcbmkpbjaaGreatDoor
