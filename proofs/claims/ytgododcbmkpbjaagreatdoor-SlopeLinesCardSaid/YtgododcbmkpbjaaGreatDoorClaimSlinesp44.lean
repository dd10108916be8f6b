/- SlopeLines: of a sum of states with numbers the derivatives are the numbers. -/
import Derived.Test.YtgododcbmkpbjaaGreatDoorClaimSlinesp19
import Derived.Test.YtgododcbmkpbjaaGreatDoorClaimSlinesp35
import Derived.Test.YtgododcbmkpbjaaGreatDoorClaimSlinesp43
set_option maxRecDepth 100000
set_option maxHeartbeats 16000000
namespace Go.Proofs.YtgododcbmkpbjaaGreatDoor
open Go.RowKit
/-- A line as a value. -/
def LnV (l : Ln) (w : World) (v : Value) : Prop := ∃ c, v = .agg c.toArray ∧ CellL w c l
theorem LnV.kb {l : Ln} {w w' : World} {X : List Nat} {v : Value} (h : LnV l w v) (k : KB w X w') : LnV l w' v := by
 obtain ⟨c, e, h⟩ := h
 exact ⟨c, e, h.kb k⟩
theorem LnV.kept {l : Ln} {w w' : World} {v : Value} (h : LnV l w v) (k : Kept w w') : LnV l w' v := h.kb (k.kb [])
/-- The lines of a round. -/
def l3L (dl : Dy) (i m : Nat) : List Ln := [⟨1, 0, 0, (pt dl).raw⟩, ⟨3, i, 0, rzI⟩, ⟨8, m, (m : Int) + 1, rzI⟩]
theorem l3_row {w : World} {dl : Dy} {i m : Nat} {x0 x1 x2 x3 x4 x5 : Value} (h : IvR w (.agg #[x0, x1, x2, x3, x4, x5]) (pt dl).raw) :
 RowL (l3L dl i m) w [.int .i64 1, .int .i64 0, .int .i64 0, x0, x1, x2, x3, x4, x5, .int .i64 3, .int .i64 (i : Int), .int .i64 0, .bool false, .slice none 0 0, .int .i64 0, .bool false, .slice none 0 0, .int .i64 0, .int .i64 8, .int .i64 (m : Int), .int .i64 ((m : Int) + 1), .bool false, .slice none 0 0, .int .i64 0, .bool false, .slice none 0 0, .int .i64 0] :=
 RowC.append (R := CellL w) (l := [⟨1, 0, 0, (pt dl).raw⟩]) (m := [⟨3, i, 0, rzI⟩, ⟨8, m, (m : Int) + 1, rzI⟩]) (xs := [.int .i64 1, .int .i64 0, .int .i64 0, x0, x1, x2, x3, x4, x5]) (RowC.one ⟨_, _, _, _, _, _, rfl, h⟩)
  (RowC.append (R := CellL w) (l := [⟨3, i, 0, rzI⟩]) (m := [⟨8, m, (m : Int) + 1, rzI⟩]) (xs := [.int .i64 3, .int .i64 (i : Int), .int .i64 0, .bool false, .slice none 0 0, .int .i64 0, .bool false, .slice none 0 0, .int .i64 0]) (RowC.one (cellL_z _ 3 i 0)) (RowC.one (cellL_z _ 8 m (m + 1))))
theorem i64w {a b : Int} (h : wrap64 a = b) : IntKind.i64.wrap a = b := by
 rw [IntKind.wrap_i64]
 unfold wrap64 at h
 exact h
theorem m_facts {m i n : Nat} (h : m = 4 * i - 1) (hi : i < n) (hn : n ≤ 6) : m ≤ 30 ∧ m + 3 ≤ 1000 ∧ wrap64 ((m : Int) + 1) = (m : Int) + 1 ∧ wrap64 ((m : Int) + 2) = (m : Int) + 2 ∧ wrap64 (((m + 3 : Nat) : Int) - 1) = ((m + 3 : Nat) : Int) - 1 ∧ wrap64 (((m + 3 + 1 : Nat) : Int) - 1) = ((m + 3 + 1 : Nat) : Int) - 1 := by
 unfold wrap64
 omega
theorem wpList_run {P : Program} {w w' : World} {v : Value} {ops : Array Oper} {rest : List Oper} {o : Oper} {a : Act} {Q : Exit → Act → World → Prop} (hgd : o.guard = none) (hr : (execOp a.eval o).run P w = .ok (.value v) w')
 (h : wpList P ops Q rest (a.put o.dst v) w') : wpList P ops Q (o :: rest) a w := by
 refine wpList_plain hgd fun K hK => ?_
 unfold Oper.wp
 rw [hr]
 exact hK _ _ h
theorem slL_all (P : Ln → Prop) (k : Nat → Int) (h1 : ∀ i, P ⟨1, 0, 0, (pt (dyz (k i) (-3))).raw⟩) (h3 : ∀ i : Nat, P ⟨3, i, 0, rzI⟩) (h8 : ∀ a b : Int, P ⟨8, a, b, rzI⟩) (h6 : ∀ a b : Int, P ⟨6, a, b, rzI⟩) : ∀ (n : Nat) (l : Ln), l ∈ slL k n → P l
 | 0, l, h => by cases h
 | n + 1, l, h => by
   rw [slL, List.mem_append] at h
   rcases h with h | h
   ·exact slL_all P k h1 h3 h8 h6 n l h
   ·unfold sll at h
    split at h
    ·simp only [List.append_nil, List.mem_cons, List.not_mem_nil, or_false] at h
     rcases h with rfl | rfl | rfl
     ·exact h1 _
     ·exact h3 _
     ·exact h8 _ _
    ·simp only [List.cons_append, List.nil_append, List.mem_cons, List.not_mem_nil, or_false] at h
     rcases h with rfl | rfl | rfl | rfl
     ·exact h1 _
     ·exact h3 _
     ·exact h8 _ _
     ·exact h6 _ _
theorem slL_ok (k : Nat → Int) (n : Nat) : LnOk (slL k n) :=
 slL_all (fun l => -9223372036854775808 ≤ l.op ∧ l.op ≤ 9223372036854775807 ∧ l.k.lens 17592186044416) k (fun _ => ⟨by simp, by simp, iv_lens (pt_ok (dyz_ok _ _))⟩) (fun _ => ⟨by simp, by simp, rzI_lens⟩) (fun _ _ => ⟨by simp, by simp, rzI_lens⟩) (fun _ _ => ⟨by simp, by simp, rzI_lens⟩) n
theorem slL_13 (k : Nat → Int) (n : Nat) : ∀ l ∈ slL k n, l.op ≠ 13 :=
 slL_all (fun l => l.op ≠ 13) k (fun _ => by simp) (fun _ => by simp) (fun _ _ => by simp) (fun _ _ => by simp) n
theorem slE_lens (n : Nat) (y : Nat → Int) (hn : n ≤ 6) : EnLens (slE n y) := by
 refine ⟨rzI_lens, ?_, (by intro a ha; cases ha), (by intro a ha; cases ha), ?_, (by show (0 : Nat) ≤ 1000000000; decide), (by show (0 : Nat) ≤ 1000000000; decide)⟩
 ·intro a ha
  unfold slE at ha
  obtain ⟨i, -, rfl⟩ := List.mem_map.1 ha
  exact iv_lens (pt_ok (dyz_ok _ _))
 ·unfold slE; simp; omega
theorem rowF_get {n j : Nat} {f : Nat → RawI} (h : j < n) : (rowF n f)[j]? = some (f j) := by unfold rowF; rw [List.getElem?_map, List.getElem?_range h]; rfl
theorem wantL_get {n j : Nat} {k : Nat → Int} (h : j < n) : (wantL k n)[j]? = some (dyz (k j) (-3)).raw := by unfold wantL; rw [List.getElem?_map, List.getElem?_range h]; rfl
theorem ss_iv {w : World} {v u : Value} {a : RawI} (hv : IvR w v a) (hu : IvR w u a) (hl : a.lens 17592186044416) : Calls Tryz.prog 16 #[v, u] w (RetK (.bool true) w) := by
 have h := isame_c hv hu hl
 have e : ∀ r : Raw, sameR r r = true := fun r => by unfold sameR; simp
 rw [e, e] at h
 exact h
theorem nb_of (p : Int) (c m : Nat) (hm : 0 < m) (hs : c + m ≤ 1000) : ∃ n : Nat, wrap64 ((c : Int) + wrap64 ((IntKind.u64.wrap p).tmod (m : Int))) = (n : Int) ∧ c ≤ n ∧ n < c + m := by
 rw [IntKind.wrap_u64]
 have h0 : 0 ≤ p % 18446744073709551616 := Int.emod_nonneg _ (by decide)
 rw [Int.tmod_eq_emod_of_nonneg h0]
 have h1 : 0 ≤ p % 18446744073709551616 % (m : Int) := Int.emod_nonneg _ (by omega)
 have h2 : p % 18446744073709551616 % (m : Int) < m := Int.emod_lt_of_pos _ (by omega)
 generalize p % 18446744073709551616 % (m : Int) = x at *
 refine ⟨(c + x).toNat, ?_, by omega, by omega⟩
 unfold wrap64
 omega
theorem slines_c {w : World} {vl vx : Value} {l x : List Int} {p : Int} (hl : InS w vl l) (hx : InS w vx x) (hT : Tab w) :
 Calls Tryz.prog 3 #[vl, vx, .int .i64 p] w (RetK (.bool true) w) := by
 have T := Lib.hid hT
 have HL := Lib.hid hl
 have HX := Lib.hid hx
 obtain ⟨A, c, rfl, -, -⟩ := hl
 obtain ⟨A', c', rfl, -, -⟩ := hx
 clear hT
 generalize hl1 : l.length = n1 at *
 generalize hx1 : x.length = n2 at *
 have H1 := Lib.hid hl1
 have H2 := Lib.hid hx1
 clear hl1 hx1
 go_enter Tryz.func3, Tryz.ntmps3
 go_upto_region 2 with fail
 obtain ⟨n, hn, n6, l1, l2⟩ : ∃ n : Nat, (if (6 : Int) < (if n2 < n1 then (n2 : Int) else (n1 : Int)) then 6 else if n2 < n1 then (n2 : Int) else (n1 : Int)) = (n : Int) ∧ n ≤ 6 ∧ n ≤ n1 ∧ n ≤ n2 :=
  ⟨min (min n1 n2) 6, by split <;> split <;> omega, by omega, by omega, by omega⟩
 simp only [hn]
 clear hn
 by_cases h0 : (n : Int) < 1
 ·go_wp2_with fail
  refine (told10_c T.out).mono ?_
  rintro e w1 ⟨rfl, q⟩
  simp only []
  go_wp2_with fail
  go_ret
  exact ⟨rfl, q⟩
 have h1 : 1 ≤ n := by omega
 obtain ⟨bits, hbits, m1, m2⟩ := nb_of p 20 61 (by decide) (by decide)
 have hb' : wrap64 (20 + wrap64 ((IntKind.u64.wrap p).tmod 61)) = (bits : Int) := hbits
 clear hbits
 obtain ⟨W, hW, kW, bt, be, lW⟩ := box2te w (.slice none 0 0) (.slice none 0 0) (.bool false) (.slice none 0 0) (.int .i64 0) (.bool false) (.slice none 0 0) (.int .i64 0) (.slice none 0 0) (.slice none 0 0) (.slice none 0 0)
 have sW : W.heap.size = w.heap.size + 2 := by rw [hW]; simp
 have HS := Lib.hid (show St W.heap.size W w.heap.size (w.heap.size + 1) (lk l) (lk x) 0 0 (slL (lk l) 0) (.slice none 0 0) (.slice none 0 0) (.slice none 0 0) W from
  ⟨⟨[], OwnG.nil _ _ _ _, rfl⟩, ⟨[], OwnG.nil _ _ _ _, rfl⟩, ⟨[], OwnG.nil _ _ _ _, rfl⟩, by simp [ownL, Value.ownBlock], by simp [ownL, Value.ownBlock], by simp [ownL, Value.ownBlock], bt, be, KB.refl _ _, Nat.le_refl _, Nat.le_refl _, by omega, by omega, by omega⟩)
 have HW := Lib.hid hW
 have KW := Lib.hid kW
 have SW := Lib.hid sW
 clear hW kW bt be sW lW
 go_upto_region 9 with fail
 rw [← HW.out]
 go_wp2_with fail
 have N6 := Lib.hid (And.intro n6 (And.intro l1 l2))
 have LW := Lib.hid (Nat.le_refl w.heap.size)
 have TLT := T.out.lt
 generalize hbe : w.heap.size + 1 = be at *
 generalize hbt : w.heap.size = bt at *
 have HBE := Lib.hid hbe
 have HBT := Lib.hid hbt
 clear hbe hbt LW hb'
 go_loopw [11, 12, 13] (fun vD vl vi wr => ∃ (i : Nat) (vI vL : Value), i ≤ n ∧ vi = .int .i64 i ∧ vl = .int .i64 ((slL (lk l) i).length - 1 : Int) ∧ St W.heap.size W bt be (lk l) (lk x) i i (slL (lk l) i) vD vI vL wr) (fun _ _ vi _ => (n - intOf vi).toNat)
 case atStart => exact ⟨0, _, _, Nat.zero_le _, rfl, rfl, HS.out⟩
 case round =>
  obtain ⟨i, vI, vL, hi, rfl, rfl, hst⟩ := hrel
  have S0 := Lib.hid hst
  have hm := slL_len (lk l) i
  generalize hmm : (slL (lk l) i).length = m at *
  have HMM := Lib.hid hmm
  have HM := Lib.hid hm
  clear hst HS HW hmm hm
  have NG : 0 ∉ [bt, be] := by have := HBE.out; simp; omega
  have TW0 := Lib.hid (T.out.kept KW.out)
  by_cases hin : i < n
  ·obtain ⟨A1, c1, e1, -, hA⟩ := HL.out
   injection e1 with e1 e2 e3
   subst e1
   obtain ⟨bl, ol, rfl, hl0⟩ := hA (by have := H1.out; have := N6.out; omega)
   obtain ⟨zl, hzl⟩ : ∃ z, l[i]? = some z := ⟨_, List.getElem?_eq_getElem (by have := H1.out; have := N6.out; omega)⟩
   have cl := hl0 i zl hzl
   have cl1 := (S0.out.kb).cell (KW.out.cell (p := ⟨bl, ol + i, none⟩) (lt_of_cell cl) |>.trans cl) (by have := lt_of_cell cl; have := HBT.out; have := HBE.out; simp at *; omega)
   obtain ⟨A2, c2, f1, -, hA2⟩ := HX.out
   injection f1 with f1 f2 f3
   subst f1
   obtain ⟨bx, ox, rfl, hx0⟩ := hA2 (by have := H2.out; have := N6.out; omega)
   obtain ⟨zx, hzx⟩ : ∃ z, x[i]? = some z := ⟨_, List.getElem?_eq_getElem (by have := H2.out; have := N6.out; omega)⟩
   have cx := hx0 i zx hzx
   have cx1 := (S0.out.kb).cell (KW.out.cell (p := ⟨bx, ox + i, none⟩) (lt_of_cell cx) |>.trans cx) (by have := lt_of_cell cx; have := HBT.out; have := HBE.out; simp at *; omega)
   have hkl : kz zl = lk l i := by unfold lk; rw [List.getD_eq_getElem?_getD, hzl]; rfl
   have hkx : kz zx = lk x i := by unfold lk; rw [List.getD_eq_getElem?_getD, hzx]; rfl
   have hk1 := (kz_eq zl).1.trans hkl
   have hk2 := (kz_eq zx).1.trans hkx
   have TW := Lib.hid (T.out.kept KW.out)
   have CX := Lib.hid cx1
   clear hA hA2 hl0 hx0 hzl hzx cl cx hkl hkx cx1 e2 e3 f2 f3
   obtain ⟨dl, hdl⟩ : ∃ d, d = dyz (lk l i) (-3) := ⟨_, rfl⟩
   obtain ⟨dx, hdx⟩ : ∃ d, d = dyz (lk x i) (-3) := ⟨_, rfl⟩
   have OL := Lib.hid (fun w1 (k : Kept wr w1) => show Calls Tryz.prog 13 #[.int .i64 (lk l i), .int .i64 (-3)] w1 (RetE ⟨dl.raw, 0⟩ w1) by
    rw [hdl]; exact dof_z (by have := lk_b l i; omega) (by decide) (by decide) ((TW.out.kb S0.out.kb NG).kept k))
   have OX := Lib.hid (fun w1 (k : Kept wr w1) => show Calls Tryz.prog 13 #[.int .i64 (lk x i), .int .i64 (-3)] w1 (RetE ⟨dx.raw, 0⟩ w1) by
    rw [hdx]; exact dof_z (by have := lk_b x i; omega) (by decide) (by decide) ((TW.out.kb S0.out.kb NG).kept k))
   have DL := Lib.hid hdl
   have DX := Lib.hid hdx
   clear hdl hdx
   go_wp2_with fail
   refine (OL.out _ (Below.refl _ _)).mono ?_
   rintro e w1 ⟨q, u, rfl, hd⟩
   obtain ⟨P1, t1, k1, rfl, hd⟩ := dyR_split hd
   simp only []
   obtain ⟨V1, hV1, kV1, hb1, lV1⟩ := boxD w1 (.bool dl.neg) (.slice P1 t1 k1) (.int .i64 dl.e)
   have HV := Lib.hid hV1
   have K := Lib.hid (q.trans kV1)
   have B1 := Lib.hid hb1
   have D1 := Lib.hid (hd.kept kV1)
   have cx2 := (K.out.cell (p := ⟨bx, ox + i, none⟩) (lt_of_cell CX.out)).trans CX.out
   have lw1 := q.size
   clear hV1 hb1 hd cl1 q kV1
   go_upto_region 13 with fail
   rw [← HV.out]
   clear HV
   go_wp2_with fail
   refine (OX.out _ K.out).mono ?_
   rintro e w2 ⟨q, u, rfl, hd⟩
   obtain ⟨P2, t2, k2, rfl, hd⟩ := dyR_split hd
   simp only []
   obtain ⟨V2, hV2, kV2, hb2, lV2⟩ := boxD w2 (.bool dx.neg) (.slice P2 t2 k2) (.int .i64 dx.e)
   have HV := Lib.hid hV2
   have kk := q.trans kV2
   replace K := Lib.hid (K.out.trans kk)
   replace B1 := Lib.hid (B1.out.kept kk)
   replace D1 := Lib.hid (D1.out.kept kk)
   have B2 := Lib.hid hb2
   have D2 := Lib.hid (hd.kept kV2)
   have S1 := Lib.hid (S0.out.kept K.out)
   have l12 := Nat.lt_of_lt_of_le lV1 q.size
   clear hV2 hb2 hd cx2 q kV2 kk hk1 hk2 OL OX CX
   go_upto_region 16 with fail
   rw [← HV.out]
   clear HV
   generalize w1.heap.size = b14 at *
   generalize w2.heap.size = b16 at *
   have hsrc : SrcR (RowD [dl.raw]) V2.heap.size 1 (V2.alloc (.cells #[.bool dl.neg, .slice P1 t1 k1, .int .i64 dl.e] 30)) (.slice (some ⟨V2.heap.size, 0, none⟩) 1 1) :=
    ⟨_, RowC.one ⟨_, _, _, rfl, D1.out.kept (kept_alloc _ _)⟩, srcC_new (Nat.le_refl _) rfl⟩
   have S2 := Lib.hid (S1.out.kept (kept_alloc V2 (.cells #[.bool dl.neg, .slice P1 t1 k1, .int .i64 dl.e] 30)))
   obtain ⟨xD, hxD, hrD⟩ := S2.out.D
   obtain ⟨vD', w3, hrun, -, hk, hv⟩ := app_dy 36 hxD hrD hsrc rfl (by decide) (by have := N6.out; omega) S2.out.ltB
   rw [congrArg Dy.raw DL.out] at hv
   have S3 := Lib.hid (S2.out.want hk hv)
   have bD : ∀ g ∈ ownL u11, g < wr.heap.size := fun g hg => (S0.out.D.elim fun _ h => (h.1.off hg).2)
   have n14 : b14 ∉ ownL u11 := fun h => by have := bD _ h; omega
   have n16 : b16 ∉ ownL u11 := fun h => by have := bD _ h; omega
   have hk' := ((kept_alloc V2 (.cells #[.bool dl.neg, .slice P1 t1 k1, .int .i64 dl.e] 30)).kb (ownL u11)).trans hk (fun y hy => .inl hy)
   have B1' := Lib.hid (hk'.blk B1.out n14)
   have B2' := Lib.hid (hk'.blk B2.out n16)
   have D1' := Lib.hid (D1.out.kb hk')
   have D2' := Lib.hid (D2.out.kb hk')
   obtain ⟨-, a0, a1, a2, -⟩ := B1.out.facts
   have l23 := hk'.size
   clear hsrc hxD hrD hk hv bD n14 n16 hk' B2 D1 D2 S1 S2
   go_wp2_with (at_builtin; refine wpList_run rfl (exec_append (.tmp 71) (.tmp 73) _ rfl rfl rfl hrun) ?_)
   have LB := S3.out.ltB
   have LBE := S3.out.lte
   have LBT := S3.out.ltt
   obtain ⟨xI, hxI, hrI⟩ := S3.out.I
   have HXI := Lib.hid hxI
   have HRI := Lib.hid hrI
   have NLI : NoLimb vI := by obtain ⟨A9, c9, e9, -⟩ := hxI.shape; rw [e9]; exact noLimb_slice _ _ _
   have NBE : be ∉ ownL vI := fun h => by have := (hxI.off h).1; omega
   have OLT : ∀ y ∈ ownL vI, y < w3.heap.size := fun y hy => (hxI.off hy).2
   have bI : ∀ g ∈ ownL vI, g < wr.heap.size := fun g hg => (S0.out.I.elim fun _ h => (h.1.off hg).2)
   have N16 : b16 ∉ be :: ownL vI := by
    intro hm
    rcases List.mem_cons.1 hm with h | h
    ·have := S0.out.lte; have := S0.out.ltB; omega
    ·have := bI _ h; omega
   have N14 : b14 ∉ be :: ownL vI := by
    intro hm
    rcases List.mem_cons.1 hm with h | h
    ·have := S0.out.lte; have := S0.out.ltB; omega
    ·have := bI _ h; omega
   have BI := Lib.hid bI
   clear hxI hrI bI hrun a0 a1 a2
   refine region_linX (m := 8) (J := fun L w => KB w3 (be :: ownL vI) w ∧ (fun L w => AppJ W.heap.size 32 6 vI i xI (i + 1) (RowI (stateL (lk x) i ++ [(pt dx).raw])) be (envC vI) 6 35 w3.heap.size (L 1) (L 5) (L 7) w) L w) (l := [(vP be 6), (vE vI), (vE (.agg #[.bool dx.neg, .slice P2 t2 k2, .int .i64 dx.e])), (fun v wv => IvR wv v ((pt dx).raw)), (fun v wv => SrcR (RowI [(pt dx).raw]) w3.heap.size 1 wv v), (fun v wv => AppV W.heap.size 32 6 vI (i + 1) (RowI (stateL (lk x) i ++ [(pt dx).raw])) w3.heap.size wv v), (vP be 6), (fun v _ => True)])
    (by kernel_rfl) rfl (by kernel_rfl) (by kernel_rfl) (by kernel_rfl) ⟨mE, mE, mE, fun v w w' k h => by first | exact h | exact h.kept k | exact ⟨h.1, h.2.kept k⟩, fun v w w' k h => h.kept (stab_I _) k, fun v w w' k h => h.kept (stab_I _) k, mE, fun v w w' k h => by first | exact h | exact h.kept k | exact ⟨h.1, h.2.kept k⟩, trivial⟩ ⟨(KB.refl _ _).drew, (by exact AppJ.first rfl (HXI.out.kept (Below.refl _ _).drew) S3.out.e)⟩ (⟨
      (fun LF aF wF F => by have FK : KB w3 (be :: ownL vI) wF := F.frame.1; have fj := F.frame.2; refine .inl ⟨fun wq kq => ⟨FK.step kq, by first | exact AppJ.kept (stab_I _) kq fj | exact AppJ.seen (stab_I _) kq fj⟩, ?_⟩; have s10 : aF.tmps.getD 10 undef = (.pointer (some ⟨be, 0, none⟩)) := F.o 10; exact sv rfl), (fun LF aF wF F => by have FK : KB w3 (be :: ownL vI) wF := F.frame.1; have fj := F.frame.2; refine .inl ⟨fun wq kq => ⟨FK.step kq, by first | exact AppJ.kept (stab_I _) kq fj | exact AppJ.seen (stab_I _) kq fj⟩, ?_⟩; have s75 := F.v 0 75; exact sw (by (have hb := AppJ.box fj F.yet; have c6 := cell_of_block hb 6 vI rfl; go_simp)) rfl), (fun LF aF wF F => by have FK : KB w3 (be :: ownL vI) wF := F.frame.1; have fj := F.frame.2; refine .inl ⟨fun wq kq => ⟨FK.step kq, by first | exact AppJ.kept (stab_I _) kq fj | exact AppJ.seen (stab_I _) kq fj⟩, ?_⟩; have s16 : aF.tmps.getD 16 undef = (.pointer (some ⟨b16, 0, none⟩)) := F.o 16; have c0 := cell_atX B2'.out FK N16 0 _ rfl; have c1 := cell_atX B2'.out FK N16 1 _ rfl; have c2 := cell_atX B2'.out FK N16 2 _ rfl; exact sv rfl), (fun LF aF wF F => by have FK : KB w3 (be :: ownL vI) wF := F.frame.1; have fj := F.frame.2; refine .inl ⟨fun wq kq => ⟨FK.step kq, by first | exact AppJ.kept (stab_I _) kq fj | exact AppJ.seen (stab_I _) kq fj⟩, ?_⟩; have s77 := F.v 2 77; exact sI (iof_c (D2'.out.kb FK)) fun _ _ h => h), (fun LF aF wF F => by have FK : KB w3 (be :: ownL vI) wF := F.frame.1; have fj := F.frame.2; refine .inl ⟨fun wq kq => ⟨FK.step kq, by first | exact AppJ.kept (stab_I _) kq fj | exact AppJ.seen (stab_I _) kq fj⟩, ?_⟩; have s78 := F.p 3 78; obtain ⟨P1, t1, k1, P2, t2, k2, ee, v1', v2'⟩ := ivR_split s78; simp only [Array.getD_eq_getD_getElem?] at ee; exact step_new (by simp [Region.wanted]) (by first | (go_simp; done) | (go_simp; rfl)) (kept_alloc _ _) ⟨_, RowC.one ⟨_, _, _, _, _, _, rfl, _, _, _, _, _, _, rfl, v1'.kept (kept_alloc _ _), v2'.kept (kept_alloc _ _)⟩, srcC_new FK.size rfl⟩), (fun LF aF wF F => by have FK : KB w3 (be :: ownL vI) wF := F.frame.1; have fj := F.frame.2; refine .inr ?_; have s76 := F.v 1 76; have s79 := F.p 4 79; obtain ⟨v', w', hr, hg, hk, hv⟩ := app_iv 33 (AppJ.own fj F.yet) (stab_I _ _ _ _ _ FK HRI.out) s79 rfl (by decide) (by have := N6.out; omega) (Nat.le_trans LB FK.size); exact stepG_set (by simp [Region.wanted]) (exec_append _ _ _ rfl s76 rfl hr) ⟨FK.trans hk (fun y hy => .inl (List.mem_cons_of_mem _ hy)), AppJ.did fj F.yet hg NBE⟩ (stab_of _ ⟨.inr vS, .inr vS, .inr vS, .inr (fun u h => by first | exact h.kb hk | exact h.kb (stab_I _) hk OLT), .inr (fun u h => by first | exact h.kb hk | exact h.kb (stab_I _) hk OLT), .inl rfl, .inr vS, .inr (fun u h => h), trivial⟩) (hv.mono FK.size)), (fun LF aF wF F => by have FK : KB w3 (be :: ownL vI) wF := F.frame.1; have fj := F.frame.2; refine .inl ⟨fun wq kq => ⟨FK.step kq, by first | exact AppJ.kept (stab_I _) kq fj | exact AppJ.seen (stab_I _) kq fj⟩, ?_⟩; have s10 : aF.tmps.getD 10 undef = (.pointer (some ⟨be, 0, none⟩)) := F.o 10; exact sv rfl), (fun LF aF wF F => by have FK : KB w3 (be :: ownL vI) wF := F.frame.1; have fj := F.frame.2; refine .inr ?_; have s80 := F.p 5 80; have s81 := F.v 6 81; obtain ⟨⟨xs8, ho8, hc8⟩, hap8⟩ := s80; obtain ⟨A8, c8, e8, -⟩ := ho8.shape; rw [e8] at ho8 hap8; simp only [Array.getD_eq_getD_getElem?] at e8; have hbk := AppJ.boxed fj F.yet; have cb := cell_of_block hbk 6 _ rfl; have fb := free_of_block hbk 6; have hl := AppJ.laid (stab_I _) fj (F.wait 1 (by kernel_rfl)) (F.wait 5 (by kernel_rfl)) F.yet ⟨⟨xs8, ho8, hc8⟩, hap8⟩ LBE rfl NLI; exact stepG_store (w' := wF.setCell ⟨be, 6, none⟩ (.slice A8 (i + 1) c8)) (by simp [Region.wanted]) (by go_simp) ⟨FK.trans hl.2 (by simp), hl.1⟩ (stab_of _ ⟨.inr vS, .inr vS, .inr vS, .inr (fun u h => by first | exact h.kb hl.2 | exact h.kb (stab_I _) hl.2 (by intro y hy; simp at hy; omega) | exact h.low (stab_I _) hl.2 LBE), .inr (fun u h => by first | exact h.kb hl.2 | exact h.kb (stab_I _) hl.2 (by intro y hy; simp at hy; omega) | exact h.low (stab_I _) hl.2 LBE), .inr (fun u h => by first | exact h.kb hl.2 | exact h.kb (stab_I _) hl.2 (by intro y hy; simp at hy; omega) | exact h.low (stab_I _) hl.2 LBE), .inr vS, .inl rfl, trivial⟩) trivial),
      trivial⟩) ?_
   intro u w4 L1 hL j1 hu
   obtain ⟨q, j1⟩ := j1
   have p78 := hp hu 3
   have p79 := hp hu 4
   have p80 := hp hu 5
   simp only [puts, slotOf, if_true, Act.put, z1, z2, z3, z4, z5, z6, z7, hv hu 0, hv hu 1, hv hu 2, hv hu 6]
   clear hu
   generalize u 3 = v78 at *
   generalize u 4 = v79 at *
   generalize u 5 = v80 at *
   obtain ⟨vI', hbx, hvx⟩ := AppJ.done j1 (hL 7 (by decide))
   have e9 := congrArg (fun d => (pt d).raw) DX.out
   rw [e9] at hvx
   have S4 := Lib.hid (S3.out.ival q hbx hvx)
   have B14 := Lib.hid (q.blk B1'.out N14)
   have D14 := Lib.hid (D1'.out.kb q)
   have l34 := q.size
   clear j1 hL p78 p79 p80 hbx hvx e9 q B1' B2' D1' D2' HXI HRI OLT NBE NLI N16 N14 BI
   obtain ⟨xL, hxL, hrL⟩ := S4.out.L
   rw [HMM.out] at hxL
   obtain ⟨AL, cL, rfl, -⟩ := hxL.shape
   have HXL := Lib.hid hxL
   have HRL := Lib.hid hrL
   obtain ⟨g0, g1⟩ := cells2 S4.out.t
   clear hxL hrL
   go_simp
   go_upto_region 19 with fail
   obtain ⟨mb, hm3, hw1, hw2, hw9, hw8⟩ := m_facts HM.out hin N6.out.1
   have HW9 := Lib.hid hw9
   have HW8 := Lib.hid hw8
   have HW2 := Lib.hid hw2
   have HW1 := Lib.hid (i64w hw1)
   clear hw9 hw8 hw2 hw1
   have LB := S4.out.ltB
   have OLT : ∀ y ∈ ownL (.slice AL m cL), y < w4.heap.size := fun y hy => (HXL.out.off hy).2
   have NBT : bt ∉ ownL (.slice AL m cL) := fun h => by have := (HXL.out.off h).1; omega
   have bL : ∀ g ∈ ownL (.slice AL m cL), g < wr.heap.size := fun g hg => (S0.out.L.elim fun _ h => (h.1.off hg).2)
   have N14 : b14 ∉ bt :: ownL (.slice AL m cL) := by
    intro hm
    rcases List.mem_cons.1 hm with h | h
    ·have := S0.out.ltB; omega
    ·have := bL _ h; omega
   clear g0 g1 bL
   refine region_linX (m := 15) (J := fun L w => KB w4 (bt :: ownL (.slice AL m cL)) w ∧ (fun L w => AppJ W.heap.size 41 9 (.slice AL m cL) m xL (m + 3) (RowL (slL (lk l) i ++ l3L dl i m)) bt #[.slice AL m cL, .slice none 0 0] 0 27 w4.heap.size (L 1) (L 12) (L 14) w) L w) (l := [(vP bt 0), (vE (.slice AL m cL)), (vE (.agg #[.bool dl.neg, .slice P1 t1 k1, .int .i64 dl.e])), (fun v wv => IvR wv v ((pt dl).raw)), (fun v wv => LnV ⟨1, 0, 0, (pt dl).raw⟩ wv v), (vE (.int .i64 (i : Int))), (vE (.agg #[.int .i64 3, .int .i64 (i : Int), .int .i64 0, .bool false, .slice none 0 0, .int .i64 0, .bool false, .slice none 0 0, .int .i64 0])), (vE (.int .i64 (m : Int))), (vE (.int .i64 (m : Int))), (vE (.int .i64 ((m : Int) + 1))), (vE (.agg #[.int .i64 8, .int .i64 (m : Int), .int .i64 ((m : Int) + 1), .bool false, .slice none 0 0, .int .i64 0, .bool false, .slice none 0 0, .int .i64 0])), (fun v wv => SrcR (RowL (l3L dl i m)) w4.heap.size 3 wv v), (fun v wv => AppV W.heap.size 41 9 (.slice AL m cL) (m + 3) (RowL (slL (lk l) i ++ l3L dl i m)) w4.heap.size wv v), (vP bt 0), (fun v _ => True)])
    (by kernel_rfl) rfl (by kernel_rfl) (by kernel_rfl) (by kernel_rfl) ⟨mE, mE, mE, fun v w w' k h => by first | exact h | exact h.kept k | exact ⟨h.1, h.2.kept k⟩, fun v w w' k h => by first | exact h | exact h.kept k | exact ⟨h.1, h.2.kept k⟩, mE, mE, mE, mE, mE, mE, fun v w w' k h => h.kept (stab_L _) k, fun v w w' k h => h.kept (stab_L _) k, mE, fun v w w' k h => by first | exact h | exact h.kept k | exact ⟨h.1, h.2.kept k⟩, trivial⟩ ⟨(KB.refl _ _).drew, (by exact AppJ.first rfl (HXL.out.kept (Below.refl _ _).drew) S4.out.t)⟩ (⟨
      (fun LF aF wF F => by have FK : KB w4 (bt :: ownL (.slice AL m cL)) wF := F.frame.1; have fj := F.frame.2; refine .inl ⟨fun wq kq => ⟨FK.step kq, by first | exact AppJ.kept (stab_L _) kq fj | exact AppJ.seen (stab_L _) kq fj⟩, ?_⟩; have s9 : aF.tmps.getD 9 undef = (.pointer (some ⟨bt, 0, none⟩)) := F.o 9; exact sv rfl), (fun LF aF wF F => by have FK : KB w4 (bt :: ownL (.slice AL m cL)) wF := F.frame.1; have fj := F.frame.2; refine .inl ⟨fun wq kq => ⟨FK.step kq, by first | exact AppJ.kept (stab_L _) kq fj | exact AppJ.seen (stab_L _) kq fj⟩, ?_⟩; have s85 := F.v 0 85; exact sw (by (have hb := AppJ.box fj F.yet; have c6 := cell_of_block hb 0 (.slice AL m cL) rfl; go_simp)) rfl), (fun LF aF wF F => by have FK : KB w4 (bt :: ownL (.slice AL m cL)) wF := F.frame.1; have fj := F.frame.2; refine .inl ⟨fun wq kq => ⟨FK.step kq, by first | exact AppJ.kept (stab_L _) kq fj | exact AppJ.seen (stab_L _) kq fj⟩, ?_⟩; have s14 : aF.tmps.getD 14 undef = (.pointer (some ⟨b14, 0, none⟩)) := F.o 14; have c0 := cell_atX B14.out FK N14 0 _ rfl; have c1 := cell_atX B14.out FK N14 1 _ rfl; have c2 := cell_atX B14.out FK N14 2 _ rfl; exact sv rfl), (fun LF aF wF F => by have FK : KB w4 (bt :: ownL (.slice AL m cL)) wF := F.frame.1; have fj := F.frame.2; refine .inl ⟨fun wq kq => ⟨FK.step kq, by first | exact AppJ.kept (stab_L _) kq fj | exact AppJ.seen (stab_L _) kq fj⟩, ?_⟩; have s87 := F.v 2 87; exact sI (iof_c (D14.out.kb FK)) fun _ _ h => h), (fun LF aF wF F => by have FK : KB w4 (bt :: ownL (.slice AL m cL)) wF := F.frame.1; have fj := F.frame.2; refine .inl ⟨fun wq kq => ⟨FK.step kq, by first | exact AppJ.kept (stab_L _) kq fj | exact AppJ.seen (stab_L _) kq fj⟩, ?_⟩; have s88 := F.p 3 88; obtain ⟨P1, t1, k1, P2, t2, k2, ee, v1', v2'⟩ := ivR_split s88; simp only [Array.getD_eq_getD_getElem?] at ee; exact step_val (by simp [Region.wanted]) (by first | (go_simp; done) | (go_simp; rfl)) ⟨[_, _, _, _, _, _, _, _, _], rfl, _, _, _, _, _, _, rfl, _, _, _, _, _, _, rfl, v1', v2'⟩), (fun LF aF wF F => by have FK : KB w4 (bt :: ownL (.slice AL m cL)) wF := F.frame.1; have fj := F.frame.2; refine .inl ⟨fun wq kq => ⟨FK.step kq, by first | exact AppJ.kept (stab_L _) kq fj | exact AppJ.seen (stab_L _) kq fj⟩, ?_⟩; have s13 : aF.tmps.getD 13 undef = (.int .i64 (i : Int)) := F.o 13; exact sv rfl), (fun LF aF wF F => by have FK : KB w4 (bt :: ownL (.slice AL m cL)) wF := F.frame.1; have fj := F.frame.2; refine .inl ⟨fun wq kq => ⟨FK.step kq, by first | exact AppJ.kept (stab_L _) kq fj | exact AppJ.seen (stab_L _) kq fj⟩, ?_⟩; have s90 := F.v 5 90; simp only [Array.getD_eq_getD_getElem?] at s90; exact sv rfl), (fun LF aF wF F => by have FK : KB w4 (bt :: ownL (.slice AL m cL)) wF := F.frame.1; have fj := F.frame.2; refine .inl ⟨fun wq kq => ⟨FK.step kq, by first | exact AppJ.kept (stab_L _) kq fj | exact AppJ.seen (stab_L _) kq fj⟩, ?_⟩; have s18 : aF.tmps.getD 18 undef = (.int .i64 (m : Int)) := F.o 18; exact sv rfl), (fun LF aF wF F => by have FK : KB w4 (bt :: ownL (.slice AL m cL)) wF := F.frame.1; have fj := F.frame.2; refine .inl ⟨fun wq kq => ⟨FK.step kq, by first | exact AppJ.kept (stab_L _) kq fj | exact AppJ.seen (stab_L _) kq fj⟩, ?_⟩; have s18 : aF.tmps.getD 18 undef = (.int .i64 (m : Int)) := F.o 18; exact sv rfl), (fun LF aF wF F => by have FK : KB w4 (bt :: ownL (.slice AL m cL)) wF := F.frame.1; have fj := F.frame.2; refine .inl ⟨fun wq kq => ⟨FK.step kq, by first | exact AppJ.kept (stab_L _) kq fj | exact AppJ.seen (stab_L _) kq fj⟩, ?_⟩; have s93 := F.v 8 93; exact sw (by (have hw1 := HW1.out; go_simp)) rfl), (fun LF aF wF F => by have FK : KB w4 (bt :: ownL (.slice AL m cL)) wF := F.frame.1; have fj := F.frame.2; refine .inl ⟨fun wq kq => ⟨FK.step kq, by first | exact AppJ.kept (stab_L _) kq fj | exact AppJ.seen (stab_L _) kq fj⟩, ?_⟩; have s92 := F.v 7 92; have s94 := F.v 9 94; simp only [Array.getD_eq_getD_getElem?] at s92; simp only [Array.getD_eq_getD_getElem?] at s94; exact sv rfl), (fun LF aF wF F => by have FK : KB w4 (bt :: ownL (.slice AL m cL)) wF := F.frame.1; have fj := F.frame.2; refine .inl ⟨fun wq kq => ⟨FK.step kq, by first | exact AppJ.kept (stab_L _) kq fj | exact AppJ.seen (stab_L _) kq fj⟩, ?_⟩; have s89 := F.p 4 89; have s91 := F.v 6 91; have s95 := F.v 10 95; simp only [Array.getD_eq_getD_getElem?] at s91; simp only [Array.getD_eq_getD_getElem?] at s95; obtain ⟨cc, ee, x0, x1, x2, x3, x4, x5, rfl, hI⟩ := s89; simp only [Array.getD_eq_getD_getElem?] at ee; exact step_new (by simp [Region.wanted]) (by first | (go_simp; done) | (go_simp; rfl)) (kept_alloc _ _) ⟨_, l3_row (hI.kept (kept_alloc _ _)), srcC_new FK.size rfl⟩), (fun LF aF wF F => by have FK : KB w4 (bt :: ownL (.slice AL m cL)) wF := F.frame.1; have fj := F.frame.2; refine .inr ?_; have s86 := F.v 1 86; have s96 := F.p 11 96; obtain ⟨v', w', hr, hg, hk, hv⟩ := app_ln 25 (AppJ.own fj F.yet) (stab_L _ _ _ _ _ FK HRL.out) s96 rfl (by decide) hm3 (Nat.le_trans LB FK.size); exact stepG_set (by simp [Region.wanted]) (exec_append _ _ _ rfl s86 rfl hr) ⟨FK.trans hk (fun y hy => .inl (List.mem_cons_of_mem _ hy)), AppJ.did fj F.yet hg NBT⟩ (stab_of _ ⟨.inr vS, .inr vS, .inr vS, .inr (fun u h => by first | exact h.kb hk | exact h.kb (stab_L _) hk OLT), .inr (fun u h => by first | exact h.kb hk | exact h.kb (stab_L _) hk OLT), .inr vS, .inr vS, .inr vS, .inr vS, .inr vS, .inr vS, .inr (fun u h => by first | exact h.kb hk | exact h.kb (stab_L _) hk OLT), .inl rfl, .inr vS, .inr (fun u h => h), trivial⟩) (hv.mono FK.size)), (fun LF aF wF F => by have FK : KB w4 (bt :: ownL (.slice AL m cL)) wF := F.frame.1; have fj := F.frame.2; refine .inl ⟨fun wq kq => ⟨FK.step kq, by first | exact AppJ.kept (stab_L _) kq fj | exact AppJ.seen (stab_L _) kq fj⟩, ?_⟩; have s9 : aF.tmps.getD 9 undef = (.pointer (some ⟨bt, 0, none⟩)) := F.o 9; exact sv rfl), (fun LF aF wF F => by have FK : KB w4 (bt :: ownL (.slice AL m cL)) wF := F.frame.1; have fj := F.frame.2; refine .inr ?_; have s97 := F.p 12 97; have s98 := F.v 13 98; obtain ⟨⟨xs8, ho8, hc8⟩, hap8⟩ := s97; obtain ⟨A8, c8, e8, -⟩ := ho8.shape; rw [e8] at ho8 hap8; simp only [Array.getD_eq_getD_getElem?] at e8; have hbk := AppJ.boxed fj F.yet; have cb := cell_of_block hbk 0 _ rfl; have fb := free_of_block hbk 0; have hl := AppJ.laid (stab_L _) fj (F.wait 1 (by kernel_rfl)) (F.wait 12 (by kernel_rfl)) F.yet ⟨⟨xs8, ho8, hc8⟩, hap8⟩ LBT rfl (noLimb_slice _ _ _); exact stepG_store (w' := wF.setCell ⟨bt, 0, none⟩ (.slice A8 (m + 3) c8)) (by simp [Region.wanted]) (by go_simp) ⟨FK.trans hl.2 (by simp), hl.1⟩ (stab_of _ ⟨.inr vS, .inr vS, .inr vS, .inr (fun u h => by first | exact h.kb hl.2 | exact h.kb (stab_L _) hl.2 (by intro y hy; simp at hy; omega) | exact h.low (stab_L _) hl.2 LBT), .inr (fun u h => by first | exact h.kb hl.2 | exact h.kb (stab_L _) hl.2 (by intro y hy; simp at hy; omega) | exact h.low (stab_L _) hl.2 LBT), .inr vS, .inr vS, .inr vS, .inr vS, .inr vS, .inr vS, .inr (fun u h => by first | exact h.kb hl.2 | exact h.kb (stab_L _) hl.2 (by intro y hy; simp at hy; omega) | exact h.low (stab_L _) hl.2 LBT), .inr (fun u h => by first | exact h.kb hl.2 | exact h.kb (stab_L _) hl.2 (by intro y hy; simp at hy; omega) | exact h.low (stab_L _) hl.2 LBT), .inr vS, .inl rfl, trivial⟩) trivial),
      trivial⟩) ?_
   intro u w5 L1 hL j1 hu
   obtain ⟨q, j1⟩ := j1
   have p88 := hp hu 3
   have p89 := hp hu 4
   have p96 := hp hu 11
   have p97 := hp hu 12
   simp only [puts, slotOf, if_true, Act.put, z1, z2, z3, z4, z5, z6, z7, hv hu 0, hv hu 1, hv hu 2, hv hu 5, hv hu 6, hv hu 7, hv hu 8, hv hu 9, hv hu 10, hv hu 13]
   clear hu
   generalize u 3 = v88 at *
   generalize u 4 = v89 at *
   generalize u 11 = v96 at *
   generalize u 12 = v97 at *
   obtain ⟨vL', hbx, hvx⟩ := AppJ.done j1 (hL 14 (by decide))
   have e9 : l3L dl i m = l3L (dyz (lk l i) (-3)) i m := by rw [← DL.out]
   rw [e9] at hvx
   have S5 := Lib.hid (St.lines (l2 := l3L (dyz (lk l i) (-3)) i m) (m := 3) S4.out q hbx rfl (by rw [HMM.out]; exact hvx))
   clear j1 hL p88 p89 p96 p97 hbx hvx e9 q B14 D14 HXL HRL OLT NBT N14 LB LBE LBT
   go_simp
   obtain ⟨xL', hxL, hrL⟩ := S5.out.L
   have hlen5 : (slL (lk l) i ++ l3L (dyz (lk l i) (-3)) i m).length = m + 3 := by rw [List.length_append, HMM.out]; rfl
   rw [hlen5] at hxL
   obtain ⟨A5, c5, rfl, -⟩ := hxL.shape
   by_cases hi0 : i = 0
   ·have m0 : m = 0 := by have := HM.out; omega
    have hlast : ¬ ((m : Int) - 1 ≥ 0) := by omega
    obtain ⟨g0, g1⟩ := cells2 S5.out.t
    have hfin : slL (lk l) (i + 1) = slL (lk l) i ++ l3L (dyz (lk l i) (-3)) i m := by
     rw [slL]; unfold sll l3L; rw [if_pos hi0, hi0, m0]; rfl
    have S9 := Lib.hid S5.out
    rw [← hfin] at S9
    have hl9 : (slL (lk l) (i + 1)).length = m + 3 := by rw [hfin]; exact hlen5
    have HL9 := Lib.hid hl9
    have HI0 := Lib.hid hi0
    have h1n := Nat.succ_le_of_lt hin
    have hmeas : (n - (i + 1) : Nat) < n - i := by omega
    have hw9 := HW9.out
    clear hfin S5 S4 S3 hl9 hi0 m0 hlen5 HMM HM
    go_wp2_with fail
    refine ⟨⟨i + 1, vI', .slice A5 (m + 3) c5, h1n, by go_num, ?_, S9.out⟩, ?_⟩
    ·rw [HL9.out]; simp
    ·simp only [intOf]; omega
   ·have hlast : (m : Int) - 1 ≥ 0 := by have := HM.out; omega
    have hm4 : m + 3 + 1 ≤ 1000 := by omega
    have hsrc : SrcR (RowL [⟨6, (m : Int) - 1, (m : Int) + 2, rzI⟩]) w5.heap.size 1 (w5.alloc (.cells #[.int .i64 6, .int .i64 ((m : Int) - 1), .int .i64 ((m : Int) + 2), .bool false, .slice none 0 0, .int .i64 0, .bool false, .slice none 0 0, .int .i64 0] 41)) (.slice (some ⟨w5.heap.size, 0, none⟩) 1 1) :=
     ⟨_, RowC.one (cellL_z _ 6 ((m : Int) - 1) ((m : Int) + 2)), srcC_new (Nat.le_refl _) rfl⟩
    have kA := kept_alloc w5 (.cells #[.int .i64 6, .int .i64 ((m : Int) - 1), .int .i64 ((m : Int) + 2), .bool false, .slice none 0 0, .int .i64 0, .bool false, .slice none 0 0, .int .i64 0] 41)
    have S6 := Lib.hid (S5.out.kept kA)
    have hx6 := hxL.kept kA
    obtain ⟨v6, w6, hrun, hg, hk, ⟨xs8, ho8, hc8⟩, hap8⟩ := app_ln 25 hx6 (stab_L _ _ _ [] _ (kA.kb []) hrL) hsrc rfl (by decide) hm4 S6.out.ltB
    obtain ⟨A6, c6, rfl, -⟩ := ho8.shape
    have NBT : bt ∉ ownL (.slice A5 (m + 3) c5) := fun h => by have := (hxL.off h).1; have := S6.out.ltt; omega
    have j1 := AppJ.did (n' := m + 3 + 1) (AppJ.first (n' := m + 3 + 1) (C := RowL ((slL (lk l) i ++ l3L (dyz (lk l i) (-3)) i m) ++ [⟨6, (m : Int) - 1, (m : Int) + 2, rzI⟩])) (l0 := true) (l1 := false) (o := 0) (hs := (w5.alloc (.cells #[.int .i64 6, .int .i64 ((m : Int) - 1), .int .i64 ((m : Int) + 2), .bool false, .slice none 0 0, .int .i64 0, .bool false, .slice none 0 0, .int .i64 0] 41)).heap.size) (l2 := false) rfl hx6 S6.out.t) rfl hg NBT
    have hbk := AppJ.boxed j1 rfl
    have cb := cell_of_block hbk 0 (.slice A5 (m + 3) c5) rfl
    have fb := free_of_block hbk 0
    have hl := AppJ.laid (stab_L _) j1 rfl rfl rfl ⟨⟨xs8, ho8, hc8⟩, hap8⟩ S6.out.ltt rfl (noLimb_slice A5 (m + 3) c5)
    obtain ⟨v7, hb7, hv7⟩ := AppJ.done hl.1 rfl
    obtain ⟨A7, c7, e7, -⟩ := hv7.1.elim fun _ h => h.1.shape
    have S7 := Lib.hid (St.lines (l2 := [⟨6, (m : Int) - 1, (m : Int) + 2, rzI⟩]) (m := 1) S6.out (((KB.refl _ (bt :: ownL (.slice A5 (m + 3) c5))).trans hk (fun y hy => .inl (List.mem_cons_of_mem _ hy))).trans hl.2 (fun y hy => .inl (by simp at hy; simp [hy]))) hb7 rfl (by rw [hlen5]; exact hv7))
    have hfin : slL (lk l) (i + 1) = (slL (lk l) i ++ l3L (dyz (lk l i) (-3)) i m) ++ [⟨6, (m : Int) - 1, (m : Int) + 2, rzI⟩] := by
     have hme := HM.out
     have hs : slp i = (m : Int) := by unfold slp; rw [if_neg hi0]; omega
     have h2 : 4 * (i : Int) - 2 = (m : Int) - 1 := by omega
     have h3 : 4 * (i : Int) + 1 = (m : Int) + 2 := by omega
     rw [slL]; unfold sll l3L; rw [if_neg hi0, hs, h2, h3, List.append_assoc]
    rw [← hfin] at S7
    have hl9 : (slL (lk l) (i + 1)).length = m + 3 + 1 := by rw [hfin, List.length_append, hlen5]; rfl
    have HL9 := Lib.hid hl9
    have HE7 := Lib.hid e7
    have h1n := Nat.succ_le_of_lt hin
    obtain ⟨g0, g1⟩ := cells2 S5.out.t
    clear hsrc kA hx6 hk hg ho8 hc8 hap8 j1 hl hb7 hv7 e7 hfin hl9 hlen5 hbk S6 S4 S3 HMM hxL hrL
    go_wp2_with (at_builtin; refine wpList_run rfl (exec_append (.tmp 102) (.tmp 107) _ rfl rfl rfl hrun) ?_)
    refine ⟨⟨i + 1, vI', v7, h1n, by go_num, ?_, S7.out⟩, ?_⟩
    ·rw [HL9.out]; congr 1; omega
    ·simp only [intOf]; omega
  ·obtain rfl : n = i := by omega
   have LTB := S0.out.ltt
   have LEB := S0.out.lte
   have LBW := S0.out.ltB
   obtain ⟨X1, hX1⟩ : ∃ X1, X1 = (wr.alloc (.cells #[.int .i64 ((m : Int) - 1)] 3)).setCell ⟨bt, 1, none⟩ (.slice (some ⟨wr.heap.size, 0, none⟩) 1 1) := ⟨_, rfl⟩
   have hb0 := blk_kept S0.out.t (kept_alloc wr (.cells #[.int .i64 ((m : Int) - 1)] 3))
   have kX : KB wr [bt] X1 := by
    rw [hX1]
    exact ((KB.refl wr [bt]).step (kept_alloc _ _)).setCell (by simp) (cell_of_block hb0 1 (.slice none 0 0) rfl) (noLimb_slice _ _ _) _
   have hbt1 : X1.heap[bt]? = some (.cells #[vL, .slice (some ⟨wr.heap.size, 0, none⟩) 1 1] 27 (0, 0)) := by rw [hX1]; exact block_setCell hb0 _
   have hbe1 := kX.blk S0.out.e (by have := S0.out.ne; simp; omega)
   have hin1 : X1.heap[wr.heap.size]? = some (.cells #[.int .i64 ((m : Int) - 1)] 3 (0, 0)) := by
    rw [hX1, Below.heap_setCell _ _ _ _ (by show ¬ wr.heap.size = bt; omega)]
    exact heap_alloc_new _ _
   obtain ⟨xD, hxD, hrD⟩ := S0.out.D
   obtain ⟨xI, hxI, -⟩ := S0.out.I
   obtain ⟨xL, hxL, -⟩ := S0.out.L
   have hT1 : TpR X1 (.agg #[vL, .slice (some ⟨wr.heap.size, 0, none⟩) 1 1]) (slL (lk l) n) [(m : Int) - 1] :=
    ⟨_, _, rfl, S0.out.lnS.kb kX (fun g hg hm => by have := (hxL.lt g hg).2; simp at hm; omega), insS_one hin1⟩
   have hE1 : EnR X1 (.agg (envC vI)) (slE n (lk x)) :=
    ⟨_, _, _, _, _, _, _, _, _, rfl, ivR_zero _, S0.out.ivS.kb kX (fun g hg hm => by have := (hxI.lt g hg).2; simp at hm; omega), ivS_nil _, ivS_nil _⟩
   have TX := (TW0.out.kb S0.out.kb NG).kb kX (by have := NG; simp at this ⊢; omega)
   have hml : (m : Int) - 1 = 4 * (n : Int) - 2 := by have := HM.out; omega
   obtain ⟨gv, hgv⟩ := sl_grad (fun _ _ => ⟨iz, 0⟩) (lk_b l) (lk_b x) (p := bits) (n := n) m1 (by omega) h1 N6.out.1
   have GC := Lib.hid (by
    have h := grad_c (ov := fun _ _ => ⟨iz, 0⟩) (p := (bits : Int)) (by rw [hml] at hT1; exact hT1) hE1 (slL_ok (lk l) n) (slE_lens n (lk x) N6.out.1) (by rw [slL_len]; have := N6.out; omega) TX (fun ll hl h => absurd h (slL_13 (lk l) n ll hl))
    rw [hgv] at h
    exact h)
   have OD := Lib.hid (hxD.kb kX (fun g hg hm => by have := (hxD.lt g hg).2; simp at hm; omega))
   have RD := Lib.hid (stab_D _ _ _ _ _ kX hrD)
   have KF := Lib.hid (KB.kept KW.out (S0.out.kb.trans kX (by simp)) (by have := HBT.out; have := HBE.out; intro y hy; simp at hy; omega))
   have TX1 := Lib.hid TX
   obtain ⟨AD, cD, rfl, -⟩ := hxD.shape
   obtain ⟨AI, cI, rfl, -⟩ := hxI.shape
   obtain ⟨AL, cL, rfl, -⟩ := hxL.shape
   obtain ⟨t0, t1⟩ := cells2 hbt1
   obtain ⟨e0, e1, e2, e3, e4, e5, e6, e7, e8⟩ := ln_cells hbe1
   have cb := cell_of_block hb0 1 (.slice none 0 0) rfl
   have fb := free_of_block hb0 1
   have HX1 := Lib.hid hX1
   clear hX1 hb0 kX hbt1 hbe1 hin1 hxD hrD hxI hxL hT1 hE1 TX hml hgv
   go_upto_region 24 with fail
   rw [← HX1.out]
   clear HX1 cb fb
   go_wp2_with fail
   refine GC.out.mono ?_
   rintro e' w2 ⟨q, ga, gb, rfl, -, hgb⟩
   obtain ⟨A5, c5, rfl, -, h5⟩ := hgb
   obtain ⟨b5, o5, rfl, g5⟩ := h5 (by simp)
   obtain ⟨s6, hs6, hS6⟩ := g5 0 _ rfl
   rw [Nat.add_zero] at hs6
   have hS6' := hS6
   obtain ⟨A6, c6, rfl, -, h6⟩ := hS6
   have hrl : (rowF n (fun j => (pt (dyz (lk l j) (-3))).raw)).length = n := by unfold rowF; simp
   obtain ⟨b6, o6, rfl, -⟩ := h6 (by rw [hrl]; exact h1)
   rw [hrl] at hs6 hS6'
   have HS6 := Lib.hid hs6
   have HR6 := Lib.hid hS6'
   replace OD := Lib.hid (OD.out.kept q)
   replace RD := Lib.hid (stab_D _ _ _ [] _ (q.kb []) RD.out)
   replace KF := Lib.hid (KF.out.trans q)
   replace TX1 := Lib.hid (TX1.out.kept q)
   clear q h5 g5 h6 hS6' hrl t0 t1 e0 e1 e2 e3 e4 e5 e6 e7 e8 GC S0 hs6
   simp only []
   go_upto_region 25 with fail
   refine region_seq (m := 15) (V := VL [(vE (.int .i64 0)), (vE (.bool false)), (vE (.bool false)), (vE (.slice (some ⟨b5, o5, none⟩) 1 c5)), (vE (.int .i64 1)), (vE (.bool false)), (vE (.bool false)), (vE (.bool false)), (vE (.slice (some ⟨b5, o5, none⟩) 1 c5)), (vE (.pointer (some ⟨b5, o5, none⟩))), (vE (.slice (some ⟨b6, o6, none⟩) n c6)), (vE (.int .i64 (n : Int))), (vE (.int .i64 (n : Int))), (vE (.bool false)), (vE (.bool false))])
    rfl (by kernel_rfl) (by kernel_rfl) (by kernel_rfl) (mono_of _ ⟨mE, mE, mE, mE, mE, mE, mE, mE, mE, mE, mE, mE, mE, mE, mE, trivial⟩) (steps_of ⟨
     (fun aF wF F => by have s21 : aF.tmps.getD 21 undef = (.int .i64 0) := F.o 21; exact sv rfl), (fun aF wF F => by have s125 := F.v 0 125; exact sv rfl), (fun aF wF F => by have s126 := F.v 1 126; exact sv rfl), (fun aF wF F => by have s20 : aF.tmps.getD 20 undef = (.slice (some ⟨b5, o5, none⟩) 1 c5) := F.o 20; have sg := F.v 2 127; exact step_val ((wanted_guard rfl rfl sg).trans rfl) (by go_simp) rfl), (fun aF wF F => by have s128 := F.v 3 128; have sg := F.v 2 127; exact step_val ((wanted_guard rfl rfl sg).trans rfl) (by go_simp) rfl), (fun aF wF F => by have s129 := F.v 4 129; have sg := F.v 2 127; exact step_val ((wanted_guard rfl rfl sg).trans rfl) (by go_simp) rfl), (fun aF wF F => by have s127 := F.v 2 127; have s130 := F.v 5 130; exact sv rfl), (fun aF wF F => by have s131 := F.v 6 131; exact sv rfl), (fun aF wF F => by have s20 : aF.tmps.getD 20 undef = (.slice (some ⟨b5, o5, none⟩) 1 c5) := F.o 20; have sg := F.v 7 132; exact step_val ((wanted_guard rfl rfl sg).trans rfl) (by go_simp) rfl), (fun aF wF F => by have s133 := F.v 8 133; have sg := F.v 7 132; exact step_val ((wanted_guard rfl rfl sg).trans rfl) (by go_simp) rfl), (fun aF wF F => by have s134 := F.v 9 134; have sg := F.v 7 132; exact step_val ((wanted_guard rfl rfl sg).trans rfl) (by (have n0 := (F.kept.cell (p := ⟨b5, o5, none⟩) (lt_of_cell HS6.out)).trans HS6.out; go_simp)) rfl), (fun aF wF F => by have s135 := F.v 10 135; have sg := F.v 7 132; exact step_val ((wanted_guard rfl rfl sg).trans rfl) (by go_simp) rfl), (fun aF wF F => by have s7 : aF.tmps.getD 7 undef = (.int .i64 (n : Int)) := F.o 7; have sg := F.v 7 132; exact step_val ((wanted_guard rfl rfl sg).trans rfl) (by go_simp) rfl), (fun aF wF F => by have s136 := F.v 11 136; have s137 := F.v 12 137; have sg := F.v 7 132; exact step_val ((wanted_guard rfl rfl sg).trans rfl) (by go_simp) rfl), (fun aF wF F => by have s132 := F.v 7 132; have s138 := F.v 13 138; exact sv rfl),
     trivial⟩) ?_
   intro u w3 q hu
   simp only [puts, slotOf, if_true, Act.put, z1, z2, z3, z4, z5, z6, z7, hv hu 0, hv hu 1, hv hu 2, hv hu 3, hv hu 4, hv hu 5, hv hu 6, hv hu 7, hv hu 8, hv hu 9, hv hu 10, hv hu 11, hv hu 12, hv hu 13, hv hu 14]
   clear hu
   replace OD := Lib.hid (OD.out.kept q)
   replace RD := Lib.hid (stab_D _ _ _ [] _ (q.kb []) RD.out)
   replace KF := Lib.hid (KF.out.trans q)
   replace TX1 := Lib.hid (TX1.out.kept q)
   replace HS6 := Lib.hid ((q.cell (p := ⟨b5, o5, none⟩) (lt_of_cell HS6.out)).trans HS6.out)
   replace HR6 := Lib.hid (HR6.out.kept q)
   clear q
   go_wp2_with fail
   go_loopw [22] (fun vi wx => ∃ (j : Nat), j ≤ n ∧ vi = .int .i64 j ∧ Kept w3 wx) (fun vi _ => (n - intOf vi).toNat)
   case atStart => exact ⟨0, Nat.zero_le _, rfl, Below.refl _ _⟩
   case round =>
    obtain ⟨j, hj, rfl, hkj⟩ := hrel
    have KJ := Lib.hid hkj
    clear hkj
    by_cases hjn : j < n
    ·have hc5 := (KJ.out.cell (p := ⟨b5, o5, none⟩) (lt_of_cell HS6.out)).trans HS6.out
     obtain ⟨A8, c8, e8, -, hat⟩ := HR6.out.kept KJ.out
     injection e8 with e8 e8' e8''
     subst e8''
     obtain ⟨b8, o8, e9, hat⟩ := hat (by unfold rowF; simp; omega)
     rw [← e8] at e9
     injection e9 with e9
     injection e9 with e9 e9'
     subst e9
     subst e9'
     obtain ⟨y0, y1, y2, y3, y4, y5, s0, s1, s2, s3, s4, s5, hI⟩ := hat j _ (rowF_get hjn)
     obtain ⟨bw, cw, ew, -, hcl⟩ := (OD.out.kept KJ.out).at h1
     injection ew with ew ew' ew''
     subst ew
     subst ew''
     obtain ⟨cc, ⟨d0, d1, d2, rfl, hD⟩, hj3⟩ := RowC.at CellD.len (stab_D _ _ _ [] _ (KJ.out.kb []) RD.out) j _ (wantL_get hjn)
     have cd0 := hcl _ _ (hj3 0 (by decide))
     have cd1 := hcl _ _ (hj3 1 (by decide))
     have cd2 := hcl _ _ (hj3 2 (by decide))
     rw [Nat.add_zero] at cd0
     have CD := Lib.hid (And.intro cd0 (And.intro cd1 cd2))
     have CI := Lib.hid (show Cells6 wr b6 (o6 + j * 6) y0 y1 y2 y3 y4 y5 from ⟨s0, s1, s2, s3, s4, s5⟩)
     have HC5 := Lib.hid hc5
     have HI := Lib.hid hI
     have HD := Lib.hid hD
     obtain ⟨dj, hdj⟩ : ∃ d, d = dyz (lk l j) (-3) := ⟨_, rfl⟩
     rw [← hdj] at HI HD
     have LJ : (pt dj).raw.lens 17592186044416 := by rw [hdj]; exact iv_lens (pt_ok (dyz_ok _ _))
     clear hc5 hat s0 s1 s2 s3 s4 s5 hI hcl hD hj3 cd0 cd1 cd2 hdj e8 e8' ew'
     go_upto_region 30 with fail
     refine region_lin (m := 13) (V := VL [(vE (.slice (some ⟨b5, o5, none⟩) 1 c5)), (vE (.pointer (some ⟨b5, o5, none⟩))), (vE (.slice (some ⟨b6, o6, none⟩) n c6)), (vE (.int .i64 (j : Int))), (vE (.pointer (some ⟨b6, o6 + j * 6, none⟩))), (vE (.agg #[y0, y1, y2, y3, y4, y5])), (vE (.slice (some ⟨bw, 0, none⟩) n cD)), (vE (.int .i64 (j : Int))), (vE (.pointer (some ⟨bw, j * 3, none⟩))), (vE (.agg #[d0, d1, d2])), (fun v wv => IvR wv v ((pt dj).raw)), (vE (.bool true)), (vE (.bool false))])
      (by kernel_rfl) rfl (by kernel_rfl) (by kernel_rfl) (by kernel_rfl) (mono_of _ ⟨mE, mE, mE, mE, mE, mE, mE, mE, mE, mE, fun v w w' k h => by first | exact h | exact h.kept k | exact ⟨h.1, h.2.kept k⟩, mE, mE, trivial⟩) (steps_of ⟨
        (fun aF wF F => by have s20 : aF.tmps.getD 20 undef = (.slice (some ⟨b5, o5, none⟩) 1 c5) := F.o 20; exact sv rfl), (fun aF wF F => by have s145 := F.v 0 145; exact sv rfl), (fun aF wF F => by have s146 := F.v 1 146; exact sw (by (have n0 := (F.kept.cell (p := ⟨b5, o5, none⟩) (lt_of_cell HC5.out)).trans HC5.out; go_simp)) rfl), (fun aF wF F => by have s22 : aF.tmps.getD 22 undef = (.int .i64 (j : Int)) := F.o 22; exact sv rfl), (fun aF wF F => by have s147 := F.v 2 147; have s148 := F.v 3 148; exact sv rfl), (fun aF wF F => by have s149 := F.v 4 149; exact sw (by (obtain ⟨n0, n1, n2, n3, n4, n5⟩ := CI.out.kept F.kept; go_simp)) rfl), (fun aF wF F => by have s11 : aF.tmps.getD 11 undef = (.slice (some ⟨bw, 0, none⟩) n cD) := F.o 11; exact sv rfl), (fun aF wF F => by have s22 : aF.tmps.getD 22 undef = (.int .i64 (j : Int)) := F.o 22; exact sv rfl), (fun aF wF F => by have s151 := F.v 6 151; have s152 := F.v 7 152; exact sv rfl), (fun aF wF F => by have s153 := F.v 8 153; exact sw (by (have n0 := (F.kept.cell (p := ⟨bw, j * 3, none⟩) (lt_of_cell CD.out.1)).trans CD.out.1; have n1 := (F.kept.cell (p := ⟨bw, j * 3 + 1, none⟩) (lt_of_cell CD.out.2.1)).trans CD.out.2.1; have n2 := (F.kept.cell (p := ⟨bw, j * 3 + 2, none⟩) (lt_of_cell CD.out.2.2)).trans CD.out.2.2; go_simp)) rfl), (fun aF wF F => by have s154 := F.v 9 154; exact sI (iof_c (HD.out.kept F.kept)) fun _ _ h => h), (fun aF wF F => by have s150 := F.v 5 150; have s155 := F.p 10 155; exact sK (ss_iv (HI.out.kept F.kept) s155 LJ) fun _ _ h => h), (fun aF wF F => by have s156 := F.v 11 156; exact sv rfl),
        trivial⟩) ?_
     intro u w4 q hu
     have p155 := hp hu 10
     simp only [puts, slotOf, if_true, Act.put, z1, z2, z3, z4, z5, z6, z7, hv hu 0, hv hu 1, hv hu 2, hv hu 3, hv hu 4, hv hu 5, hv hu 6, hv hu 7, hv hu 8, hv hu 9, hv hu 11, hv hu 12]
     clear hu
     generalize u 10 = v155 at *
     go_simp
     go_wp2_with fail
     have hkq := KJ.out.trans q
     refine ⟨⟨j + 1, by omega, by go_num, hkq⟩, ?_⟩
     simp only [intOf]; omega
    ·obtain rfl : n = j := by omega
     go_wp2_with fail
     refine (told10_c (TX1.out.kept KJ.out)).mono ?_
     rintro e w5 ⟨rfl, q⟩
     simp only []
     go_wp2_with fail
     go_ret
     exact ⟨rfl, (KF.out.trans KJ.out).trans q⟩
end Go.Proofs.YtgododcbmkpbjaaGreatDoor
