/- Contracts of package slope, first part: point, do. -/
import Derived.Test.YtgododcbmkpbjaaGreatDoorClaimSmeanp22
import Derived.Test.YtgododcbmkpbjaaGreatDoorClaimSmeanp29
import Derived.Test.YtgododcbmkpbjaaGreatDoorClaimSmeanp30
import Derived.Test.YtgododcbmkpbjaaGreatDoorClaimSmeanp32
set_option maxRecDepth 100000
set_option maxHeartbeats 16000000
namespace Go.Proofs.YtgododcbmkpbjaaGreatDoor
open Go.RowKit
theorem IvR.ivW {w : World} {v : Value} {a : RawI} {b : Nat} {n n' : Bool} {A A' : Option Addr} {l c l' c' : Nat} {e e' : Int} (h : IvR w v a) (hb : BlkI w b (.bool n) (.slice A l c) (.int .i64 e) (.bool n') (.slice A' l' c') (.int .i64 e')) (x y z x' y' z' : Value) :
 IvR (Go.Proofs.YtgododcbmkpbjaaGreatDoor.ivW w b x y z x' y' z') v a := by
 obtain ⟨p, q, r, p', q', r', rfl, h1, h2⟩ := h
 exact ⟨p, q, r, p', q', r', rfl, h1.ivW hb _ _ _ _ _ _, h2.ivW hb _ _ _ _ _ _⟩
theorem IvR.setCell {w : World} {v : Value} {a : RawI} {b i : Nat} {x : Value} (h : IvR w v a) (hc : w.cell? ⟨b, i, none⟩ = some x) (hx : NoLimb x) (y : Value) : IvR (w.setCell ⟨b, i, none⟩ y) v a := by
 obtain ⟨p, q, r, p', q', r', rfl, h1, h2⟩ := h
 obtain ⟨s, e1, hs, a1, a2⟩ := h1
 obtain ⟨t, e2, ht, b1, b2⟩ := h2
 exact ⟨p, q, r, p', q', r', rfl, ⟨s, e1, hs.setCell hc hx y, a1, a2⟩, ⟨t, e2, ht.setCell hc hx y, b1, b2⟩⟩
theorem spoint_c {w : World} {n : Nat} (hn : n < 9223372036854775808) (hT : Tab w) :
 Calls Tryz.prog 39 #[.int .i64 n] w (RetI (pt (fitD false n 0).v).raw w) := by
 have c1 := fun w1 (k : Kept w w1) => Of_pos (w := w1) (k := n) (e := 0) hn (by decide) (by decide) (hT.kept k)
 have hp : (pt (fitD false n 0).v).raw = ⟨(fitD false n 0).v.raw, (fitD false n 0).v.raw⟩ := rfl
 rw [hp]
 obtain ⟨W, hW, kW, BR, lW⟩ : ∃ W, W = w.alloc (.cells #[.bool false, .slice none 0 0, .int .i64 0, .bool false, .slice none 0 0, .int .i64 0] 32) ∧ Kept w W ∧ BlkI W w.heap.size (.bool false) (.slice none 0 0) (.int .i64 0) (.bool false) (.slice none 0 0) (.int .i64 0) ∧ w.heap.size < W.heap.size :=
  ⟨_, rfl, kept_alloc _ _, blkI_zero _, by simp⟩
 have C1 := Lib.hid c1
 have HW := Lib.hid hW
 have K := Lib.hid kW
 have HR := Lib.hid BR
 clear c1 hW kW BR hT hn hp
 generalize fitD false n 0 = o1 at *
 go_enter Tryz.func39, Tryz.ntmps39
 go_wp2_with fail
 rw [← HW.out]
 refine (C1.out _ K.out).mono ?_
 rintro e w2 ⟨q, u, rfl, hd⟩
 obtain ⟨PX, pX, qX, rfl, z1⟩ := dyR_split hd
 simp only []
 obtain ⟨VX, hV, kV, hb, lV⟩ := boxD w2 (.bool o1.v.neg) (.slice PX pX qX) (.int .i64 o1.v.e)
 have HV := Lib.hid hV
 have kk := q.trans kV
 have lt1 : w.heap.size < w2.heap.size := Nat.lt_of_lt_of_le HR.out.facts.1 q.size
 replace K := Lib.hid (K.out.trans kk)
 replace HR := Lib.hid (HR.out.kept kk)
 have HX := Lib.hid hb
 have ZX := Lib.hid (z1.kept kV)
 clear hV kV hb lV kk q hd z1 C1 HW
 go_upto_region 2 with fail
 rw [← HV.out]
 clear HV
 generalize w2.heap.size = bX at *
 obtain ⟨-, c0, c1, c2, -⟩ := HX.out.facts
 go_wp2_with fail
 refine (iof_c ZX.out).mono ?_
 rintro e w2 ⟨q, u, rfl, hd⟩
 obtain ⟨P, p', q', R, r, s, rfl, z1, z2⟩ := ivR_split hd
 have hr := HR.out.kept q
 obtain ⟨-, r0, r1, r2, r3, r4, r5⟩ := hr.facts
 obtain ⟨f0, f1, f2, f3, f4, f5⟩ := hr.free
 have HRR := Lib.hid hr
 have Z1 := Lib.hid z1
 have Z2 := Lib.hid z2
 clear hr z1 z2 hd c0 c1 c2
 simp only []
 go_wp2_with fail
 exact ret_iv (HRR.out.laid _ _ _ _ _ _) rfl rfl rfl ⟨ivW_kept (K.out.trans q) (by omega), _, rfl, _, _, _, _, _, _, rfl, Z1.out.ivW HRR.out _ _ _ _ _ _, Z2.out.ivW HRR.out _ _ _ _ _ _⟩
/-- The worker's box. -/
def Wk (w : World) (b : Nat) (p e : Int) : Prop := w.heap[b]? = some (.cells #[.int .i64 p, .int .i64 e] 74 (0, 0))
/-- It returns an interval; the worker's error is told in its box; nothing else is changed. -/
def RetWk (b : Nat) (p : Int) (o : Outc RawI) (w : World) (e : Ending) (w' : World) : Prop := KB w [b] w' ∧ Wk w' b p o.k ∧ ∃ v, e = .returned v ∧ IvR w' v o.v
theorem Wk.nl {w : World} {b : Nat} {p e : Int} (h : Wk w b p e) : NoL w b := ⟨_, _, h, by
 intro u hu
 simp at hu
 rcases hu with rfl | rfl
 ·exact noLimb_i64 _
 ·exact noLimb_i64 _⟩
theorem Wk.lt {w : World} {b : Nat} {p e : Int} (h : Wk w b p e) : b < w.heap.size := (Array.getElem?_eq_some_iff.1 h).1
theorem Wk.kept {w w' : World} {b : Nat} {p e : Int} (h : Wk w b p e) (k : Kept w w') : Wk w' b p e := (k.block b h.lt).trans h
/-- How far do has come: is its value laid, is its error told? -/
def DoJ (b9 bw : Nat) (p k : Int) (r : RawI) (l1 l2 : Bool) (w : World) : Prop :=
 (∃ n A l c e n' A' l' c' e', BlkI w b9 (.bool n) (.slice A l c) (.int .i64 e) (.bool n') (.slice A' l' c') (.int .i64 e') ∧ (l1 = true → IvR w (.agg #[.bool n, .slice A l c, .int .i64 e, .bool n', .slice A' l' c', .int .i64 e']) r)) ∧ Wk w bw p (if l2 then k else 0)
theorem DoJ.kept {b9 bw : Nat} {p k : Int} {r : RawI} {l1 l2 : Bool} {w w' : World} (q : Kept w w') (h : DoJ b9 bw p k r l1 l2 w) : DoJ b9 bw p k r l1 l2 w' := by
 obtain ⟨⟨n, A, l, c, e, n', A', l', c', e', h1, h2⟩, h3⟩ := h
 exact ⟨⟨n, A, l, c, e, n', A', l', c', e', h1.kept q, fun hl => (h2 hl).kept q⟩, h3.kept q⟩
theorem DoJ.parts {b9 bw : Nat} {p k : Int} {r : RawI} {l1 l2 : Bool} {w : World} (h : DoJ b9 bw p k r l1 l2 w) :
 (∃ n A l c e n' A' l' c' e', BlkI w b9 (.bool n) (.slice A l c) (.int .i64 e) (.bool n') (.slice A' l' c') (.int .i64 e') ∧ (l1 = true → IvR w (.agg #[.bool n, .slice A l c, .int .i64 e, .bool n', .slice A' l' c', .int .i64 e']) r)) ∧ Wk w bw p (if l2 then k else 0) := h
theorem DoJ.told {b9 bw : Nat} {p k : Int} {r : RawI} {l1 l2 : Bool} {w : World} (hne : ¬ bw = b9) (h : DoJ b9 bw p k r l1 l2 w) : DoJ b9 bw p k r l1 true (w.setCell ⟨bw, 1, none⟩ (.int .i64 k)) := by
 obtain ⟨⟨n, A, l, c, e, n', A', l', c', e', h1, h2⟩, h3⟩ := h
 have cb := cell_of_block h3 1 _ rfl
 refine ⟨⟨n, A, l, c, e, n', A', l', c', e', block_setCell_other h1 (fun h => hne h.symm) _, fun hl => (h2 hl).setCell cb (noLimb_i64 _) _⟩, ?_⟩
 have := block_setCell h3 (i := 1) (.int .i64 k)
 simpa [Wk] using this
/-- Boxes of do: two intervals that came in, the result's, one more. -/
theorem boxiirr (w : World) (x y z x' y' z' p q r p' q' r' : Value) : ∃ W V, W = ((w.alloc (.cells #[x, y, z, x', y', z'] 32)).alloc (.cells #[p, q, r, p', q', r'] 32)).alloc (.cells #[.bool false, .slice none 0 0, .int .i64 0, .bool false, .slice none 0 0, .int .i64 0] 32) ∧
 V = W.alloc (.cells #[.bool false, .slice none 0 0, .int .i64 0, .bool false, .slice none 0 0, .int .i64 0] 32) ∧
 Kept w W ∧ Kept W V ∧ BlkI W w.heap.size x y z x' y' z' ∧ BlkI W (w.heap.size + 1) p q r p' q' r' ∧ BlkI W (w.heap.size + 1 + 1) (.bool false) (.slice none 0 0) (.int .i64 0) (.bool false) (.slice none 0 0) (.int .i64 0) ∧
 BlkI V W.heap.size (.bool false) (.slice none 0 0) (.int .i64 0) (.bool false) (.slice none 0 0) (.int .i64 0) ∧ w.heap.size + 1 + 1 < W.heap.size := by
 obtain ⟨W, hW, k, b1, b2, b3⟩ := boxiir w x y z x' y' z' p q r p' q' r'
 exact ⟨W, _, hW, rfl, k, kept_alloc _ _, b1, b2, b3, blkI_zero W, b3.facts.1⟩
theorem do_c {S : Int → Prop} {w : World} {bw : Nat} {va vb : Value} {a b : Iv} {op : Int} {p : Nat} {e : Int} (hw : Wk w bw p e) (ha : IvC w va a) (hb : IvC w vb b) (oa : a.Ok) (ob : b.Ok) (hT : Tab w) (p1 : 1 ≤ p) (p2 : p ≤ 2000) (O : OpsC S) (hS : DoS S op) :
 Calls Tryz.prog 81 #[.pointer (some ⟨bw, 0, none⟩), .int .i64 op, va, vb] w (RetWk bw p (rawO (doI op a b p e)) w) := by
 have IA := Lib.hid ha
 have IB := Lib.hid hb
 have OA := Lib.hid (And.intro oa ob)
 have T := Lib.hid hT
 have OPS := Lib.hid O
 have HS := Lib.hid hS
 clear O hS
 have lw := hw.lt
 have gn : 0 ≠ bw := hT.ne (cell_of_block hw 0 _ rfl) (by intro y h; cases h)
 have gl := hT.lt
 clear ha hb oa ob hT
 obtain ⟨A, l, c, A', l', c', rfl, -, -⟩ := ivC_split IA.out
 obtain ⟨B, j, d, B', j', d', rfl, -, -⟩ := ivC_split IB.out
 obtain ⟨W, V, hW, hV, kW, kV, BI, BJ, BR, B9, ls⟩ := boxiirr w (.bool a.lo.neg) (.slice A l c) (.int .i64 a.lo.e) (.bool a.hi.neg) (.slice A' l' c') (.int .i64 a.hi.e) (.bool b.lo.neg) (.slice B j d) (.int .i64 b.lo.e) (.bool b.hi.neg) (.slice B' j' d') (.int .i64 b.hi.e)
 have hwW := hw.kept kW
 have hwV := hwW.kept kV
 have w0 := cell_of_block hwW 0 _ rfl
 have w1 := cell_of_block hwW 1 _ rfl
 have HWW := Lib.hid hwW
 have HWV := Lib.hid hwV
 have HW := Lib.hid hW
 have HV := Lib.hid hV
 have K := Lib.hid kW
 have KV := Lib.hid kV
 have HI := Lib.hid (BI.kept kV)
 have HJ := Lib.hid (BJ.kept kV)
 have HR := Lib.hid BR
 have HR9 := Lib.hid B9
 clear hW hV kW kV BI BJ BR B9 hw hwW hwV
 by_cases he : e = 0
 ·subst he
  have hdo : doI op a b p 0 = opI op a b p := rfl
  rw [hdo]
  obtain ⟨-, r0, r1, r2, r3, r4, r5⟩ := HR.out.facts
  obtain ⟨f0, f1, f2, f3, f4, f5⟩ := HR.out.free
  have N6 : w.heap.size ∉ [W.heap.size, bw] := by simp; omega
  have N7 : w.heap.size + 1 ∉ [W.heap.size, bw] := by simp; omega
  have NG : 0 ∉ [W.heap.size, bw] := by simp; omega
  have NB : ¬ bw = W.heap.size := by omega
  have N8 : w.heap.size + 1 + 1 ∉ [W.heap.size, bw] := by simp; omega
  obtain ⟨b9, h9⟩ : ∃ b9, W.heap.size = b9 := ⟨_, rfl⟩
  rw [h9] at N6 N7 NG NB N8 HR9 ls
  have H9 := Lib.hid h9
  clear h9
  by_cases h6 : op = 6
  ·obtain rfl := h6
   have ho : opI 6 a b p = addI a b p := rfl
   rw [ho]
   have CC := Lib.hid (fun w1 (k : KB V [b9, bw] w1) => OPS.out.add HS.out ((IA.out.kept (K.out.trans KV.out)).kb k) ((IB.out.kept (K.out.trans KV.out)).kb k) OA.out.1 OA.out.2 ((T.out.kept (K.out.trans KV.out)).kb k NG) p1 p2)
   clear ho IA IB OA T OPS HS
   generalize rawO (addI a b p) = o at *
   generalize a.lo.neg = n1 at *
   generalize a.lo.e = e1 at *
   generalize a.hi.neg = n2 at *
   generalize a.hi.e = e2 at *
   generalize b.lo.neg = n3 at *
   generalize b.lo.e = e3 at *
   generalize b.hi.neg = n4 at *
   generalize b.hi.e = e4 at *
   go_enter Tryz.func81, Tryz.ntmps81
   go_upto_region 1 with fail
   rw [← HW.out]
   go_upto_region 7 with fail
   rw [← HV.out, H9.out]
   refine region_linX (m := 15) (J := fun L w => KB V [b9, bw] w ∧ (fun L w => DoJ b9 bw p o.k o.v (L 11) (L 14) w) L w) (l := [(vP bw 0), (vE (.agg #[.bool n1, .slice A l c, .int .i64 e1, .bool n2, .slice A' l' c', .int .i64 e2])), (vE (.agg #[.bool n3, .slice B j d, .int .i64 e3, .bool n4, .slice B' j' d', .int .i64 e4])), (vP bw 0), (vP bw 0), (vP bw 0), (vE (.int .i64 (p : Int))), (fun v wv => ∃ d, v = .tuple #[d, .int .i64 o.k] ∧ IvR wv d o.v), (fun v wv => ∃ d, v = .tuple #[d, .int .i64 o.k] ∧ IvR wv d o.v), (fun v wv => IvR wv v o.v), (vE (.int .i64 o.k)), (fun v _ => True), (vP bw 0), (vP bw 1), (fun v _ => True)])
    (by kernel_rfl) rfl (by kernel_rfl) (by kernel_rfl) (by kernel_rfl) ⟨mE, mE, mE, mE, mE, mE, mE, fun v w w' k h => by obtain ⟨d, h1, h2⟩ := h; exact ⟨d, h1, h2.kept k⟩, fun v w w' k h => by obtain ⟨d, h1, h2⟩ := h; exact ⟨d, h1, h2.kept k⟩, fun v w w' k h => by first | exact h | exact h.kept k | exact ⟨h.1, h.2.kept k⟩, mE, fun v w w' k h => by first | exact h | exact h.kept k | exact ⟨h.1, h.2.kept k⟩, mE, mE, fun v w w' k h => by first | exact h | exact h.kept k | exact ⟨h.1, h.2.kept k⟩, trivial⟩ ⟨(KB.refl _ _).drew, (by exact ⟨⟨_, _, _, _, _, _, _, _, _, _, HR9.out, fun h => absurd h (by decide)⟩, HWV.out⟩)⟩ (⟨
      (fun LF aF wF F => by have FK : KB V [b9, bw] wF := F.frame.1; have fj := F.frame.2; refine .inl ⟨fun wq kq => ⟨FK.step kq, by exact DoJ.kept kq fj⟩, ?_⟩; have s0 : aF.tmps.getD 0 undef = (.pointer (some ⟨bw, 0, none⟩)) := F.o 0; exact sv rfl), (fun LF aF wF F => by have FK : KB V [b9, bw] wF := F.frame.1; have fj := F.frame.2; refine .inl ⟨fun wq kq => ⟨FK.step kq, by exact DoJ.kept kq fj⟩, ?_⟩; have s6 : aF.tmps.getD 6 undef = (.pointer (some ⟨w.heap.size, 0, none⟩)) := F.o 6; have c0 := cell_atX HI.out FK N6 0 _ rfl; have c1 := cell_atX HI.out FK N6 1 _ rfl; have c2 := cell_atX HI.out FK N6 2 _ rfl; have c3 := cell_atX HI.out FK N6 3 _ rfl; have c4 := cell_atX HI.out FK N6 4 _ rfl; have c5 := cell_atX HI.out FK N6 5 _ rfl; exact sv rfl), (fun LF aF wF F => by have FK : KB V [b9, bw] wF := F.frame.1; have fj := F.frame.2; refine .inl ⟨fun wq kq => ⟨FK.step kq, by exact DoJ.kept kq fj⟩, ?_⟩; have s7 : aF.tmps.getD 7 undef = (.pointer (some ⟨w.heap.size + 1, 0, none⟩)) := F.o 7; have c0 := cell_atX HJ.out FK N7 0 _ rfl; have c1 := cell_atX HJ.out FK N7 1 _ rfl; have c2 := cell_atX HJ.out FK N7 2 _ rfl; have c3 := cell_atX HJ.out FK N7 3 _ rfl; have c4 := cell_atX HJ.out FK N7 4 _ rfl; have c5 := cell_atX HJ.out FK N7 5 _ rfl; exact sv rfl), (fun LF aF wF F => by have FK : KB V [b9, bw] wF := F.frame.1; have fj := F.frame.2; refine .inl ⟨fun wq kq => ⟨FK.step kq, by exact DoJ.kept kq fj⟩, ?_⟩; have s0 : aF.tmps.getD 0 undef = (.pointer (some ⟨bw, 0, none⟩)) := F.o 0; exact sv rfl), (fun LF aF wF F => by have FK : KB V [b9, bw] wF := F.frame.1; have fj := F.frame.2; refine .inl ⟨fun wq kq => ⟨FK.step kq, by exact DoJ.kept kq fj⟩, ?_⟩; have s35 := F.v 3 35; exact sv rfl), (fun LF aF wF F => by have FK : KB V [b9, bw] wF := F.frame.1; have fj := F.frame.2; refine .inl ⟨fun wq kq => ⟨FK.step kq, by exact DoJ.kept kq fj⟩, ?_⟩; have s36 := F.v 4 36; exact sv rfl), (fun LF aF wF F => by have FK : KB V [b9, bw] wF := F.frame.1; have fj := F.frame.2; refine .inl ⟨fun wq kq => ⟨FK.step kq, by exact DoJ.kept kq fj⟩, ?_⟩; have s37 := F.v 5 37; exact sw (by (have cb := cell_of_block (DoJ.parts fj).2 0 _ rfl; go_simp)) rfl), (fun LF aF wF F => by have FK : KB V [b9, bw] wF := F.frame.1; have fj := F.frame.2; refine .inl ⟨fun wq kq => ⟨FK.step kq, by exact DoJ.kept kq fj⟩, ?_⟩; have s33 := F.v 1 33; have s34 := F.v 2 34; have s38 := F.v 6 38; exact sP (CC.out _ FK) fun _ _ h => h), (fun LF aF wF F => by have FK : KB V [b9, bw] wF := F.frame.1; have fj := F.frame.2; refine .inl ⟨fun wq kq => ⟨FK.step kq, by exact DoJ.kept kq fj⟩, ?_⟩; have s39 := F.p 7 39; exact step_val (by simp [Region.wanted]) rfl s39), (fun LF aF wF F => by have FK : KB V [b9, bw] wF := F.frame.1; have fj := F.frame.2; refine .inl ⟨fun wq kq => ⟨FK.step kq, by exact DoJ.kept kq fj⟩, ?_⟩; have s31 := F.p 8 31; obtain ⟨dd, ee, hh⟩ := s31; exact step_val (by simp [Region.wanted]) (by go_simp) hh), (fun LF aF wF F => by have FK : KB V [b9, bw] wF := F.frame.1; have fj := F.frame.2; refine .inl ⟨fun wq kq => ⟨FK.step kq, by exact DoJ.kept kq fj⟩, ?_⟩; have s31 := F.p 8 31; exact sw (by obtain ⟨dd, ee, hh⟩ := s31; go_simp) rfl), (fun LF aF wF F => by have FK : KB V [b9, bw] wF := F.frame.1; have fj := F.frame.2; refine .inr ?_; have s9 : aF.tmps.getD 9 undef = (.pointer (some ⟨b9, 0, none⟩)) := F.o 9; have s40 := F.p 9 40; obtain ⟨P1, i1, k1, P2, i2, k2, ee, z1, z2⟩ := ivR_split s40; simp only [Array.getD_eq_getD_getElem?] at ee; obtain ⟨⟨_, _, _, _, _, _, _, _, _, _, hbb, -⟩, hwk⟩ := DoJ.parts fj; obtain ⟨-, q0, q1, q2, q3, q4, q5⟩ := hbb.facts; obtain ⟨g0, g1, g2, g3, g4, g5⟩ := hbb.free; exact stepG_store (w' := ivW wF b9 _ _ _ _ _ _) (by simp [Region.wanted]) (by go_simp; rfl) ⟨FK.ivW hbb (by simp) _ _ _ _ _ _, ⟨_, _, _, _, _, _, _, _, _, _, hbb.laid _ _ _ _ _ _, fun _ => (show IvR wF (.agg #[_, _, _, _, _, _]) o.v from ⟨_, _, _, _, _, _, rfl, z1, z2⟩).ivW hbb _ _ _ _ _ _⟩, (ivW_other _ _ _ _ _ _ _ _ _ NB).trans hwk⟩ (stab_of _ ⟨.inr vS, .inr vS, .inr vS, .inr vS, .inr vS, .inr vS, .inr vS, .inr (fun u h => by first | exact h.ivW hbb _ _ _ _ _ _ | exact ⟨h.choose, h.choose_spec.1, h.choose_spec.2.ivW hbb _ _ _ _ _ _⟩), .inr (fun u h => by first | exact h.ivW hbb _ _ _ _ _ _ | exact ⟨h.choose, h.choose_spec.1, h.choose_spec.2.ivW hbb _ _ _ _ _ _⟩), .inr (fun u h => by first | exact h.ivW hbb _ _ _ _ _ _ | exact ⟨h.choose, h.choose_spec.1, h.choose_spec.2.ivW hbb _ _ _ _ _ _⟩), .inr vS, .inl rfl, .inr vS, .inr vS, .inr (fun u h => h), trivial⟩) trivial), (fun LF aF wF F => by have FK : KB V [b9, bw] wF := F.frame.1; have fj := F.frame.2; refine .inl ⟨fun wq kq => ⟨FK.step kq, by exact DoJ.kept kq fj⟩, ?_⟩; have s32 := F.v 0 32; exact sv rfl), (fun LF aF wF F => by have FK : KB V [b9, bw] wF := F.frame.1; have fj := F.frame.2; refine .inl ⟨fun wq kq => ⟨FK.step kq, by exact DoJ.kept kq fj⟩, ?_⟩; have s42 := F.v 12 42; exact sv rfl), (fun LF aF wF F => by have FK : KB V [b9, bw] wF := F.frame.1; have fj := F.frame.2; refine .inr ?_; have s41 := F.v 10 41; have s43 := F.v 13 43; have hwk := (DoJ.parts fj).2; have cb := cell_of_block hwk 1 _ rfl; have fb := free_of_block hwk 1; exact stepG_store (w' := wF.setCell ⟨bw, 1, none⟩ (.int .i64 o.k)) (by simp [Region.wanted]) (by go_simp) ⟨FK.setCell (by simp) cb (noLimb_i64 _) _, DoJ.told NB fj⟩ (stab_of _ ⟨.inr vS, .inr vS, .inr vS, .inr vS, .inr vS, .inr vS, .inr vS, .inr (fun u h => by first | exact h.setCell cb (noLimb_i64 _) _ | exact ⟨h.choose, h.choose_spec.1, h.choose_spec.2.setCell cb (noLimb_i64 _) _⟩), .inr (fun u h => by first | exact h.setCell cb (noLimb_i64 _) _ | exact ⟨h.choose, h.choose_spec.1, h.choose_spec.2.setCell cb (noLimb_i64 _) _⟩), .inr (fun u h => by first | exact h.setCell cb (noLimb_i64 _) _ | exact ⟨h.choose, h.choose_spec.1, h.choose_spec.2.setCell cb (noLimb_i64 _) _⟩), .inr vS, .inr (fun u h => h), .inr vS, .inr vS, .inl rfl, trivial⟩) trivial),
      trivial⟩) ?_
   intro u w1 L1 hL j1 hu
   obtain ⟨k1, j1⟩ := j1
   have p39 := hp hu 7
   have p31 := hp hu 8
   have p40 := hp hu 9
   simp only [puts, slotOf, if_true, Act.put, List.setIfInBounds_toArray, List.set_cons_zero, List.set_cons_succ, List.getElem?_toArray, List.getElem?_cons_zero, List.getElem?_cons_succ, Option.bind_some, hv hu 0, hv hu 1, hv hu 2, hv hu 3, hv hu 4, hv hu 5, hv hu 6, hv hu 10, hv hu 12, hv hu 13]
   clear hu
   generalize u 7 = v39 at *
   generalize u 8 = v31 at *
   generalize u 9 = v40 at *
   have jj : DoJ b9 bw p o.k o.v true true w1 := by
    have jj := j1
    simp only [hL 11 (by decide), hL 14 (by decide)] at jj
    exact jj
   clear j1 hL p40 p39 p31 CC
   obtain ⟨⟨m1, P1, i1, q1, y1, m2, P2, i2, q2, y2, hb9, hiv⟩, hwk⟩ := jj.parts
   have Z := Lib.hid (hiv rfl)
   have HWK : Hid (Wk w1 bw p o.k) := Lib.hid hwk
   have h8 := ((HR.out.kept KV.out).kb k1 N8)
   have H8 := Lib.hid h8
   obtain ⟨-, u0, u1, u2, u3, u4, u5⟩ := h8.facts
   obtain ⟨x0, x1, x2, x3, x4, x5⟩ := h8.free
   obtain ⟨-, c0, c1, c2, c3, c4, c5⟩ := hb9.facts
   have kk : KB w [bw] w1 := ((K.out.trans KV.out).kb [bw]).trans k1 (by intro y hy; simp at hy; rcases hy with rfl | rfl; exact .inr (by omega); exact .inl (by simp))
   have KK := Lib.hid kk
   clear kk jj hb9 hiv hwk h8 k1 HI HJ HR HR9 HWW HWV
   go_simp
   go_wp2_with fail
   refine ret_iv (H8.out.laid _ _ _ _ _ _) rfl rfl rfl ⟨KK.out.trans ((KB.refl w1 [w.heap.size + 1 + 1]).ivW H8.out (by simp) _ _ _ _ _ _) (by intro y hy; simp at hy; exact .inr (by omega)), (ivW_other _ _ _ _ _ _ _ _ _ (by omega)).trans HWK.out, _, rfl, Z.out.ivW H8.out _ _ _ _ _ _⟩
  by_cases h7 : op = 7
  ·obtain rfl := h7
   have ho : opI 7 a b p = subI a b p := rfl
   rw [ho]
   have CC := Lib.hid (fun w1 (k : KB V [b9, bw] w1) => OPS.out.sub HS.out ((IA.out.kept (K.out.trans KV.out)).kb k) ((IB.out.kept (K.out.trans KV.out)).kb k) OA.out.1 OA.out.2 ((T.out.kept (K.out.trans KV.out)).kb k NG) p1 p2)
   clear ho IA IB OA T OPS HS
   generalize rawO (subI a b p) = o at *
   generalize a.lo.neg = n1 at *
   generalize a.lo.e = e1 at *
   generalize a.hi.neg = n2 at *
   generalize a.hi.e = e2 at *
   generalize b.lo.neg = n3 at *
   generalize b.lo.e = e3 at *
   generalize b.hi.neg = n4 at *
   generalize b.hi.e = e4 at *
   go_enter Tryz.func81, Tryz.ntmps81
   go_upto_region 1 with fail
   rw [← HW.out]
   go_upto_region 9 with fail
   rw [← HV.out, H9.out]
   refine region_linX (m := 15) (J := fun L w => KB V [b9, bw] w ∧ (fun L w => DoJ b9 bw p o.k o.v (L 11) (L 14) w) L w) (l := [(vP bw 0), (vE (.agg #[.bool n1, .slice A l c, .int .i64 e1, .bool n2, .slice A' l' c', .int .i64 e2])), (vE (.agg #[.bool n3, .slice B j d, .int .i64 e3, .bool n4, .slice B' j' d', .int .i64 e4])), (vP bw 0), (vP bw 0), (vP bw 0), (vE (.int .i64 (p : Int))), (fun v wv => ∃ d, v = .tuple #[d, .int .i64 o.k] ∧ IvR wv d o.v), (fun v wv => ∃ d, v = .tuple #[d, .int .i64 o.k] ∧ IvR wv d o.v), (fun v wv => IvR wv v o.v), (vE (.int .i64 o.k)), (fun v _ => True), (vP bw 0), (vP bw 1), (fun v _ => True)])
    (by kernel_rfl) rfl (by kernel_rfl) (by kernel_rfl) (by kernel_rfl) ⟨mE, mE, mE, mE, mE, mE, mE, fun v w w' k h => by obtain ⟨d, h1, h2⟩ := h; exact ⟨d, h1, h2.kept k⟩, fun v w w' k h => by obtain ⟨d, h1, h2⟩ := h; exact ⟨d, h1, h2.kept k⟩, fun v w w' k h => by first | exact h | exact h.kept k | exact ⟨h.1, h.2.kept k⟩, mE, fun v w w' k h => by first | exact h | exact h.kept k | exact ⟨h.1, h.2.kept k⟩, mE, mE, fun v w w' k h => by first | exact h | exact h.kept k | exact ⟨h.1, h.2.kept k⟩, trivial⟩ ⟨(KB.refl _ _).drew, (by exact ⟨⟨_, _, _, _, _, _, _, _, _, _, HR9.out, fun h => absurd h (by decide)⟩, HWV.out⟩)⟩ (⟨
      (fun LF aF wF F => by have FK : KB V [b9, bw] wF := F.frame.1; have fj := F.frame.2; refine .inl ⟨fun wq kq => ⟨FK.step kq, by exact DoJ.kept kq fj⟩, ?_⟩; have s0 : aF.tmps.getD 0 undef = (.pointer (some ⟨bw, 0, none⟩)) := F.o 0; exact sv rfl), (fun LF aF wF F => by have FK : KB V [b9, bw] wF := F.frame.1; have fj := F.frame.2; refine .inl ⟨fun wq kq => ⟨FK.step kq, by exact DoJ.kept kq fj⟩, ?_⟩; have s6 : aF.tmps.getD 6 undef = (.pointer (some ⟨w.heap.size, 0, none⟩)) := F.o 6; have c0 := cell_atX HI.out FK N6 0 _ rfl; have c1 := cell_atX HI.out FK N6 1 _ rfl; have c2 := cell_atX HI.out FK N6 2 _ rfl; have c3 := cell_atX HI.out FK N6 3 _ rfl; have c4 := cell_atX HI.out FK N6 4 _ rfl; have c5 := cell_atX HI.out FK N6 5 _ rfl; exact sv rfl), (fun LF aF wF F => by have FK : KB V [b9, bw] wF := F.frame.1; have fj := F.frame.2; refine .inl ⟨fun wq kq => ⟨FK.step kq, by exact DoJ.kept kq fj⟩, ?_⟩; have s7 : aF.tmps.getD 7 undef = (.pointer (some ⟨w.heap.size + 1, 0, none⟩)) := F.o 7; have c0 := cell_atX HJ.out FK N7 0 _ rfl; have c1 := cell_atX HJ.out FK N7 1 _ rfl; have c2 := cell_atX HJ.out FK N7 2 _ rfl; have c3 := cell_atX HJ.out FK N7 3 _ rfl; have c4 := cell_atX HJ.out FK N7 4 _ rfl; have c5 := cell_atX HJ.out FK N7 5 _ rfl; exact sv rfl), (fun LF aF wF F => by have FK : KB V [b9, bw] wF := F.frame.1; have fj := F.frame.2; refine .inl ⟨fun wq kq => ⟨FK.step kq, by exact DoJ.kept kq fj⟩, ?_⟩; have s0 : aF.tmps.getD 0 undef = (.pointer (some ⟨bw, 0, none⟩)) := F.o 0; exact sv rfl), (fun LF aF wF F => by have FK : KB V [b9, bw] wF := F.frame.1; have fj := F.frame.2; refine .inl ⟨fun wq kq => ⟨FK.step kq, by exact DoJ.kept kq fj⟩, ?_⟩; have s50 := F.v 3 50; exact sv rfl), (fun LF aF wF F => by have FK : KB V [b9, bw] wF := F.frame.1; have fj := F.frame.2; refine .inl ⟨fun wq kq => ⟨FK.step kq, by exact DoJ.kept kq fj⟩, ?_⟩; have s51 := F.v 4 51; exact sv rfl), (fun LF aF wF F => by have FK : KB V [b9, bw] wF := F.frame.1; have fj := F.frame.2; refine .inl ⟨fun wq kq => ⟨FK.step kq, by exact DoJ.kept kq fj⟩, ?_⟩; have s52 := F.v 5 52; exact sw (by (have cb := cell_of_block (DoJ.parts fj).2 0 _ rfl; go_simp)) rfl), (fun LF aF wF F => by have FK : KB V [b9, bw] wF := F.frame.1; have fj := F.frame.2; refine .inl ⟨fun wq kq => ⟨FK.step kq, by exact DoJ.kept kq fj⟩, ?_⟩; have s48 := F.v 1 48; have s49 := F.v 2 49; have s53 := F.v 6 53; exact sP (CC.out _ FK) fun _ _ h => h), (fun LF aF wF F => by have FK : KB V [b9, bw] wF := F.frame.1; have fj := F.frame.2; refine .inl ⟨fun wq kq => ⟨FK.step kq, by exact DoJ.kept kq fj⟩, ?_⟩; have s54 := F.p 7 54; exact step_val (by simp [Region.wanted]) rfl s54), (fun LF aF wF F => by have FK : KB V [b9, bw] wF := F.frame.1; have fj := F.frame.2; refine .inl ⟨fun wq kq => ⟨FK.step kq, by exact DoJ.kept kq fj⟩, ?_⟩; have s46 := F.p 8 46; obtain ⟨dd, ee, hh⟩ := s46; exact step_val (by simp [Region.wanted]) (by go_simp) hh), (fun LF aF wF F => by have FK : KB V [b9, bw] wF := F.frame.1; have fj := F.frame.2; refine .inl ⟨fun wq kq => ⟨FK.step kq, by exact DoJ.kept kq fj⟩, ?_⟩; have s46 := F.p 8 46; exact sw (by obtain ⟨dd, ee, hh⟩ := s46; go_simp) rfl), (fun LF aF wF F => by have FK : KB V [b9, bw] wF := F.frame.1; have fj := F.frame.2; refine .inr ?_; have s9 : aF.tmps.getD 9 undef = (.pointer (some ⟨b9, 0, none⟩)) := F.o 9; have s55 := F.p 9 55; obtain ⟨P1, i1, k1, P2, i2, k2, ee, z1, z2⟩ := ivR_split s55; simp only [Array.getD_eq_getD_getElem?] at ee; obtain ⟨⟨_, _, _, _, _, _, _, _, _, _, hbb, -⟩, hwk⟩ := DoJ.parts fj; obtain ⟨-, q0, q1, q2, q3, q4, q5⟩ := hbb.facts; obtain ⟨g0, g1, g2, g3, g4, g5⟩ := hbb.free; exact stepG_store (w' := ivW wF b9 _ _ _ _ _ _) (by simp [Region.wanted]) (by go_simp; rfl) ⟨FK.ivW hbb (by simp) _ _ _ _ _ _, ⟨_, _, _, _, _, _, _, _, _, _, hbb.laid _ _ _ _ _ _, fun _ => (show IvR wF (.agg #[_, _, _, _, _, _]) o.v from ⟨_, _, _, _, _, _, rfl, z1, z2⟩).ivW hbb _ _ _ _ _ _⟩, (ivW_other _ _ _ _ _ _ _ _ _ NB).trans hwk⟩ (stab_of _ ⟨.inr vS, .inr vS, .inr vS, .inr vS, .inr vS, .inr vS, .inr vS, .inr (fun u h => by first | exact h.ivW hbb _ _ _ _ _ _ | exact ⟨h.choose, h.choose_spec.1, h.choose_spec.2.ivW hbb _ _ _ _ _ _⟩), .inr (fun u h => by first | exact h.ivW hbb _ _ _ _ _ _ | exact ⟨h.choose, h.choose_spec.1, h.choose_spec.2.ivW hbb _ _ _ _ _ _⟩), .inr (fun u h => by first | exact h.ivW hbb _ _ _ _ _ _ | exact ⟨h.choose, h.choose_spec.1, h.choose_spec.2.ivW hbb _ _ _ _ _ _⟩), .inr vS, .inl rfl, .inr vS, .inr vS, .inr (fun u h => h), trivial⟩) trivial), (fun LF aF wF F => by have FK : KB V [b9, bw] wF := F.frame.1; have fj := F.frame.2; refine .inl ⟨fun wq kq => ⟨FK.step kq, by exact DoJ.kept kq fj⟩, ?_⟩; have s47 := F.v 0 47; exact sv rfl), (fun LF aF wF F => by have FK : KB V [b9, bw] wF := F.frame.1; have fj := F.frame.2; refine .inl ⟨fun wq kq => ⟨FK.step kq, by exact DoJ.kept kq fj⟩, ?_⟩; have s57 := F.v 12 57; exact sv rfl), (fun LF aF wF F => by have FK : KB V [b9, bw] wF := F.frame.1; have fj := F.frame.2; refine .inr ?_; have s56 := F.v 10 56; have s58 := F.v 13 58; have hwk := (DoJ.parts fj).2; have cb := cell_of_block hwk 1 _ rfl; have fb := free_of_block hwk 1; exact stepG_store (w' := wF.setCell ⟨bw, 1, none⟩ (.int .i64 o.k)) (by simp [Region.wanted]) (by go_simp) ⟨FK.setCell (by simp) cb (noLimb_i64 _) _, DoJ.told NB fj⟩ (stab_of _ ⟨.inr vS, .inr vS, .inr vS, .inr vS, .inr vS, .inr vS, .inr vS, .inr (fun u h => by first | exact h.setCell cb (noLimb_i64 _) _ | exact ⟨h.choose, h.choose_spec.1, h.choose_spec.2.setCell cb (noLimb_i64 _) _⟩), .inr (fun u h => by first | exact h.setCell cb (noLimb_i64 _) _ | exact ⟨h.choose, h.choose_spec.1, h.choose_spec.2.setCell cb (noLimb_i64 _) _⟩), .inr (fun u h => by first | exact h.setCell cb (noLimb_i64 _) _ | exact ⟨h.choose, h.choose_spec.1, h.choose_spec.2.setCell cb (noLimb_i64 _) _⟩), .inr vS, .inr (fun u h => h), .inr vS, .inr vS, .inl rfl, trivial⟩) trivial),
      trivial⟩) ?_
   intro u w1 L1 hL j1 hu
   obtain ⟨k1, j1⟩ := j1
   have p54 := hp hu 7
   have p46 := hp hu 8
   have p55 := hp hu 9
   simp only [puts, slotOf, if_true, Act.put, List.setIfInBounds_toArray, List.set_cons_zero, List.set_cons_succ, List.getElem?_toArray, List.getElem?_cons_zero, List.getElem?_cons_succ, Option.bind_some, hv hu 0, hv hu 1, hv hu 2, hv hu 3, hv hu 4, hv hu 5, hv hu 6, hv hu 10, hv hu 12, hv hu 13]
   clear hu
   generalize u 7 = v54 at *
   generalize u 8 = v46 at *
   generalize u 9 = v55 at *
   have jj : DoJ b9 bw p o.k o.v true true w1 := by
    have jj := j1
    simp only [hL 11 (by decide), hL 14 (by decide)] at jj
    exact jj
   clear j1 hL p55 p54 p46 CC
   obtain ⟨⟨m1, P1, i1, q1, y1, m2, P2, i2, q2, y2, hb9, hiv⟩, hwk⟩ := jj.parts
   have Z := Lib.hid (hiv rfl)
   have HWK : Hid (Wk w1 bw p o.k) := Lib.hid hwk
   have h8 := ((HR.out.kept KV.out).kb k1 N8)
   have H8 := Lib.hid h8
   obtain ⟨-, u0, u1, u2, u3, u4, u5⟩ := h8.facts
   obtain ⟨x0, x1, x2, x3, x4, x5⟩ := h8.free
   obtain ⟨-, c0, c1, c2, c3, c4, c5⟩ := hb9.facts
   have kk : KB w [bw] w1 := ((K.out.trans KV.out).kb [bw]).trans k1 (by intro y hy; simp at hy; rcases hy with rfl | rfl; exact .inr (by omega); exact .inl (by simp))
   have KK := Lib.hid kk
   clear kk jj hb9 hiv hwk h8 k1 HI HJ HR HR9 HWW HWV
   go_simp
   go_wp2_with fail
   refine ret_iv (H8.out.laid _ _ _ _ _ _) rfl rfl rfl ⟨KK.out.trans ((KB.refl w1 [w.heap.size + 1 + 1]).ivW H8.out (by simp) _ _ _ _ _ _) (by intro y hy; simp at hy; exact .inr (by omega)), (ivW_other _ _ _ _ _ _ _ _ _ (by omega)).trans HWK.out, _, rfl, Z.out.ivW H8.out _ _ _ _ _ _⟩
  by_cases h8 : op = 8
  ·obtain rfl := h8
   have ho : opI 8 a b p = mulI a b p := rfl
   rw [ho]
   have CC := Lib.hid (fun w1 (k : KB V [b9, bw] w1) => OPS.out.mul HS.out ((IA.out.kept (K.out.trans KV.out)).kb k) ((IB.out.kept (K.out.trans KV.out)).kb k) OA.out.1 OA.out.2 ((T.out.kept (K.out.trans KV.out)).kb k NG) p1 p2)
   clear ho IA IB OA T OPS HS
   generalize rawO (mulI a b p) = o at *
   generalize a.lo.neg = n1 at *
   generalize a.lo.e = e1 at *
   generalize a.hi.neg = n2 at *
   generalize a.hi.e = e2 at *
   generalize b.lo.neg = n3 at *
   generalize b.lo.e = e3 at *
   generalize b.hi.neg = n4 at *
   generalize b.hi.e = e4 at *
   go_enter Tryz.func81, Tryz.ntmps81
   go_upto_region 1 with fail
   rw [← HW.out]
   go_upto_region 11 with fail
   rw [← HV.out, H9.out]
   refine region_linX (m := 15) (J := fun L w => KB V [b9, bw] w ∧ (fun L w => DoJ b9 bw p o.k o.v (L 11) (L 14) w) L w) (l := [(vP bw 0), (vE (.agg #[.bool n1, .slice A l c, .int .i64 e1, .bool n2, .slice A' l' c', .int .i64 e2])), (vE (.agg #[.bool n3, .slice B j d, .int .i64 e3, .bool n4, .slice B' j' d', .int .i64 e4])), (vP bw 0), (vP bw 0), (vP bw 0), (vE (.int .i64 (p : Int))), (fun v wv => ∃ d, v = .tuple #[d, .int .i64 o.k] ∧ IvR wv d o.v), (fun v wv => ∃ d, v = .tuple #[d, .int .i64 o.k] ∧ IvR wv d o.v), (fun v wv => IvR wv v o.v), (vE (.int .i64 o.k)), (fun v _ => True), (vP bw 0), (vP bw 1), (fun v _ => True)])
    (by kernel_rfl) rfl (by kernel_rfl) (by kernel_rfl) (by kernel_rfl) ⟨mE, mE, mE, mE, mE, mE, mE, fun v w w' k h => by obtain ⟨d, h1, h2⟩ := h; exact ⟨d, h1, h2.kept k⟩, fun v w w' k h => by obtain ⟨d, h1, h2⟩ := h; exact ⟨d, h1, h2.kept k⟩, fun v w w' k h => by first | exact h | exact h.kept k | exact ⟨h.1, h.2.kept k⟩, mE, fun v w w' k h => by first | exact h | exact h.kept k | exact ⟨h.1, h.2.kept k⟩, mE, mE, fun v w w' k h => by first | exact h | exact h.kept k | exact ⟨h.1, h.2.kept k⟩, trivial⟩ ⟨(KB.refl _ _).drew, (by exact ⟨⟨_, _, _, _, _, _, _, _, _, _, HR9.out, fun h => absurd h (by decide)⟩, HWV.out⟩)⟩ (⟨
      (fun LF aF wF F => by have FK : KB V [b9, bw] wF := F.frame.1; have fj := F.frame.2; refine .inl ⟨fun wq kq => ⟨FK.step kq, by exact DoJ.kept kq fj⟩, ?_⟩; have s0 : aF.tmps.getD 0 undef = (.pointer (some ⟨bw, 0, none⟩)) := F.o 0; exact sv rfl), (fun LF aF wF F => by have FK : KB V [b9, bw] wF := F.frame.1; have fj := F.frame.2; refine .inl ⟨fun wq kq => ⟨FK.step kq, by exact DoJ.kept kq fj⟩, ?_⟩; have s6 : aF.tmps.getD 6 undef = (.pointer (some ⟨w.heap.size, 0, none⟩)) := F.o 6; have c0 := cell_atX HI.out FK N6 0 _ rfl; have c1 := cell_atX HI.out FK N6 1 _ rfl; have c2 := cell_atX HI.out FK N6 2 _ rfl; have c3 := cell_atX HI.out FK N6 3 _ rfl; have c4 := cell_atX HI.out FK N6 4 _ rfl; have c5 := cell_atX HI.out FK N6 5 _ rfl; exact sv rfl), (fun LF aF wF F => by have FK : KB V [b9, bw] wF := F.frame.1; have fj := F.frame.2; refine .inl ⟨fun wq kq => ⟨FK.step kq, by exact DoJ.kept kq fj⟩, ?_⟩; have s7 : aF.tmps.getD 7 undef = (.pointer (some ⟨w.heap.size + 1, 0, none⟩)) := F.o 7; have c0 := cell_atX HJ.out FK N7 0 _ rfl; have c1 := cell_atX HJ.out FK N7 1 _ rfl; have c2 := cell_atX HJ.out FK N7 2 _ rfl; have c3 := cell_atX HJ.out FK N7 3 _ rfl; have c4 := cell_atX HJ.out FK N7 4 _ rfl; have c5 := cell_atX HJ.out FK N7 5 _ rfl; exact sv rfl), (fun LF aF wF F => by have FK : KB V [b9, bw] wF := F.frame.1; have fj := F.frame.2; refine .inl ⟨fun wq kq => ⟨FK.step kq, by exact DoJ.kept kq fj⟩, ?_⟩; have s0 : aF.tmps.getD 0 undef = (.pointer (some ⟨bw, 0, none⟩)) := F.o 0; exact sv rfl), (fun LF aF wF F => by have FK : KB V [b9, bw] wF := F.frame.1; have fj := F.frame.2; refine .inl ⟨fun wq kq => ⟨FK.step kq, by exact DoJ.kept kq fj⟩, ?_⟩; have s65 := F.v 3 65; exact sv rfl), (fun LF aF wF F => by have FK : KB V [b9, bw] wF := F.frame.1; have fj := F.frame.2; refine .inl ⟨fun wq kq => ⟨FK.step kq, by exact DoJ.kept kq fj⟩, ?_⟩; have s66 := F.v 4 66; exact sv rfl), (fun LF aF wF F => by have FK : KB V [b9, bw] wF := F.frame.1; have fj := F.frame.2; refine .inl ⟨fun wq kq => ⟨FK.step kq, by exact DoJ.kept kq fj⟩, ?_⟩; have s67 := F.v 5 67; exact sw (by (have cb := cell_of_block (DoJ.parts fj).2 0 _ rfl; go_simp)) rfl), (fun LF aF wF F => by have FK : KB V [b9, bw] wF := F.frame.1; have fj := F.frame.2; refine .inl ⟨fun wq kq => ⟨FK.step kq, by exact DoJ.kept kq fj⟩, ?_⟩; have s63 := F.v 1 63; have s64 := F.v 2 64; have s68 := F.v 6 68; exact sP (CC.out _ FK) fun _ _ h => h), (fun LF aF wF F => by have FK : KB V [b9, bw] wF := F.frame.1; have fj := F.frame.2; refine .inl ⟨fun wq kq => ⟨FK.step kq, by exact DoJ.kept kq fj⟩, ?_⟩; have s69 := F.p 7 69; exact step_val (by simp [Region.wanted]) rfl s69), (fun LF aF wF F => by have FK : KB V [b9, bw] wF := F.frame.1; have fj := F.frame.2; refine .inl ⟨fun wq kq => ⟨FK.step kq, by exact DoJ.kept kq fj⟩, ?_⟩; have s61 := F.p 8 61; obtain ⟨dd, ee, hh⟩ := s61; exact step_val (by simp [Region.wanted]) (by go_simp) hh), (fun LF aF wF F => by have FK : KB V [b9, bw] wF := F.frame.1; have fj := F.frame.2; refine .inl ⟨fun wq kq => ⟨FK.step kq, by exact DoJ.kept kq fj⟩, ?_⟩; have s61 := F.p 8 61; exact sw (by obtain ⟨dd, ee, hh⟩ := s61; go_simp) rfl), (fun LF aF wF F => by have FK : KB V [b9, bw] wF := F.frame.1; have fj := F.frame.2; refine .inr ?_; have s9 : aF.tmps.getD 9 undef = (.pointer (some ⟨b9, 0, none⟩)) := F.o 9; have s70 := F.p 9 70; obtain ⟨P1, i1, k1, P2, i2, k2, ee, z1, z2⟩ := ivR_split s70; simp only [Array.getD_eq_getD_getElem?] at ee; obtain ⟨⟨_, _, _, _, _, _, _, _, _, _, hbb, -⟩, hwk⟩ := DoJ.parts fj; obtain ⟨-, q0, q1, q2, q3, q4, q5⟩ := hbb.facts; obtain ⟨g0, g1, g2, g3, g4, g5⟩ := hbb.free; exact stepG_store (w' := ivW wF b9 _ _ _ _ _ _) (by simp [Region.wanted]) (by go_simp; rfl) ⟨FK.ivW hbb (by simp) _ _ _ _ _ _, ⟨_, _, _, _, _, _, _, _, _, _, hbb.laid _ _ _ _ _ _, fun _ => (show IvR wF (.agg #[_, _, _, _, _, _]) o.v from ⟨_, _, _, _, _, _, rfl, z1, z2⟩).ivW hbb _ _ _ _ _ _⟩, (ivW_other _ _ _ _ _ _ _ _ _ NB).trans hwk⟩ (stab_of _ ⟨.inr vS, .inr vS, .inr vS, .inr vS, .inr vS, .inr vS, .inr vS, .inr (fun u h => by first | exact h.ivW hbb _ _ _ _ _ _ | exact ⟨h.choose, h.choose_spec.1, h.choose_spec.2.ivW hbb _ _ _ _ _ _⟩), .inr (fun u h => by first | exact h.ivW hbb _ _ _ _ _ _ | exact ⟨h.choose, h.choose_spec.1, h.choose_spec.2.ivW hbb _ _ _ _ _ _⟩), .inr (fun u h => by first | exact h.ivW hbb _ _ _ _ _ _ | exact ⟨h.choose, h.choose_spec.1, h.choose_spec.2.ivW hbb _ _ _ _ _ _⟩), .inr vS, .inl rfl, .inr vS, .inr vS, .inr (fun u h => h), trivial⟩) trivial), (fun LF aF wF F => by have FK : KB V [b9, bw] wF := F.frame.1; have fj := F.frame.2; refine .inl ⟨fun wq kq => ⟨FK.step kq, by exact DoJ.kept kq fj⟩, ?_⟩; have s62 := F.v 0 62; exact sv rfl), (fun LF aF wF F => by have FK : KB V [b9, bw] wF := F.frame.1; have fj := F.frame.2; refine .inl ⟨fun wq kq => ⟨FK.step kq, by exact DoJ.kept kq fj⟩, ?_⟩; have s72 := F.v 12 72; exact sv rfl), (fun LF aF wF F => by have FK : KB V [b9, bw] wF := F.frame.1; have fj := F.frame.2; refine .inr ?_; have s71 := F.v 10 71; have s73 := F.v 13 73; have hwk := (DoJ.parts fj).2; have cb := cell_of_block hwk 1 _ rfl; have fb := free_of_block hwk 1; exact stepG_store (w' := wF.setCell ⟨bw, 1, none⟩ (.int .i64 o.k)) (by simp [Region.wanted]) (by go_simp) ⟨FK.setCell (by simp) cb (noLimb_i64 _) _, DoJ.told NB fj⟩ (stab_of _ ⟨.inr vS, .inr vS, .inr vS, .inr vS, .inr vS, .inr vS, .inr vS, .inr (fun u h => by first | exact h.setCell cb (noLimb_i64 _) _ | exact ⟨h.choose, h.choose_spec.1, h.choose_spec.2.setCell cb (noLimb_i64 _) _⟩), .inr (fun u h => by first | exact h.setCell cb (noLimb_i64 _) _ | exact ⟨h.choose, h.choose_spec.1, h.choose_spec.2.setCell cb (noLimb_i64 _) _⟩), .inr (fun u h => by first | exact h.setCell cb (noLimb_i64 _) _ | exact ⟨h.choose, h.choose_spec.1, h.choose_spec.2.setCell cb (noLimb_i64 _) _⟩), .inr vS, .inr (fun u h => h), .inr vS, .inr vS, .inl rfl, trivial⟩) trivial),
      trivial⟩) ?_
   intro u w1 L1 hL j1 hu
   obtain ⟨k1, j1⟩ := j1
   have p69 := hp hu 7
   have p61 := hp hu 8
   have p70 := hp hu 9
   simp only [puts, slotOf, if_true, Act.put, List.setIfInBounds_toArray, List.set_cons_zero, List.set_cons_succ, List.getElem?_toArray, List.getElem?_cons_zero, List.getElem?_cons_succ, Option.bind_some, hv hu 0, hv hu 1, hv hu 2, hv hu 3, hv hu 4, hv hu 5, hv hu 6, hv hu 10, hv hu 12, hv hu 13]
   clear hu
   generalize u 7 = v69 at *
   generalize u 8 = v61 at *
   generalize u 9 = v70 at *
   have jj : DoJ b9 bw p o.k o.v true true w1 := by
    have jj := j1
    simp only [hL 11 (by decide), hL 14 (by decide)] at jj
    exact jj
   clear j1 hL p70 p69 p61 CC
   obtain ⟨⟨m1, P1, i1, q1, y1, m2, P2, i2, q2, y2, hb9, hiv⟩, hwk⟩ := jj.parts
   have Z := Lib.hid (hiv rfl)
   have HWK : Hid (Wk w1 bw p o.k) := Lib.hid hwk
   have h8 := ((HR.out.kept KV.out).kb k1 N8)
   have H8 := Lib.hid h8
   obtain ⟨-, u0, u1, u2, u3, u4, u5⟩ := h8.facts
   obtain ⟨x0, x1, x2, x3, x4, x5⟩ := h8.free
   obtain ⟨-, c0, c1, c2, c3, c4, c5⟩ := hb9.facts
   have kk : KB w [bw] w1 := ((K.out.trans KV.out).kb [bw]).trans k1 (by intro y hy; simp at hy; rcases hy with rfl | rfl; exact .inr (by omega); exact .inl (by simp))
   have KK := Lib.hid kk
   clear kk jj hb9 hiv hwk h8 k1 HI HJ HR HR9 HWW HWV
   go_simp
   go_wp2_with fail
   refine ret_iv (H8.out.laid _ _ _ _ _ _) rfl rfl rfl ⟨KK.out.trans ((KB.refl w1 [w.heap.size + 1 + 1]).ivW H8.out (by simp) _ _ _ _ _ _) (by intro y hy; simp at hy; exact .inr (by omega)), (ivW_other _ _ _ _ _ _ _ _ _ (by omega)).trans HWK.out, _, rfl, Z.out.ivW H8.out _ _ _ _ _ _⟩
  by_cases h9' : op = 9
  ·obtain rfl := h9'
   have ho : opI 9 a b p = divI a b p := rfl
   rw [ho]
   have CC := Lib.hid (fun w1 (k : KB V [b9, bw] w1) => OPS.out.div HS.out ((IA.out.kept (K.out.trans KV.out)).kb k) ((IB.out.kept (K.out.trans KV.out)).kb k) OA.out.1 OA.out.2 ((T.out.kept (K.out.trans KV.out)).kb k NG) p1 p2)
   clear ho IA IB OA T OPS HS
   generalize rawO (divI a b p) = o at *
   generalize a.lo.neg = n1 at *
   generalize a.lo.e = e1 at *
   generalize a.hi.neg = n2 at *
   generalize a.hi.e = e2 at *
   generalize b.lo.neg = n3 at *
   generalize b.lo.e = e3 at *
   generalize b.hi.neg = n4 at *
   generalize b.hi.e = e4 at *
   go_enter Tryz.func81, Tryz.ntmps81
   go_upto_region 1 with fail
   rw [← HW.out]
   go_upto_region 13 with fail
   rw [← HV.out, H9.out]
   refine region_linX (m := 15) (J := fun L w => KB V [b9, bw] w ∧ (fun L w => DoJ b9 bw p o.k o.v (L 11) (L 14) w) L w) (l := [(vP bw 0), (vE (.agg #[.bool n1, .slice A l c, .int .i64 e1, .bool n2, .slice A' l' c', .int .i64 e2])), (vE (.agg #[.bool n3, .slice B j d, .int .i64 e3, .bool n4, .slice B' j' d', .int .i64 e4])), (vP bw 0), (vP bw 0), (vP bw 0), (vE (.int .i64 (p : Int))), (fun v wv => ∃ d, v = .tuple #[d, .int .i64 o.k] ∧ IvR wv d o.v), (fun v wv => ∃ d, v = .tuple #[d, .int .i64 o.k] ∧ IvR wv d o.v), (fun v wv => IvR wv v o.v), (vE (.int .i64 o.k)), (fun v _ => True), (vP bw 0), (vP bw 1), (fun v _ => True)])
    (by kernel_rfl) rfl (by kernel_rfl) (by kernel_rfl) (by kernel_rfl) ⟨mE, mE, mE, mE, mE, mE, mE, fun v w w' k h => by obtain ⟨d, h1, h2⟩ := h; exact ⟨d, h1, h2.kept k⟩, fun v w w' k h => by obtain ⟨d, h1, h2⟩ := h; exact ⟨d, h1, h2.kept k⟩, fun v w w' k h => by first | exact h | exact h.kept k | exact ⟨h.1, h.2.kept k⟩, mE, fun v w w' k h => by first | exact h | exact h.kept k | exact ⟨h.1, h.2.kept k⟩, mE, mE, fun v w w' k h => by first | exact h | exact h.kept k | exact ⟨h.1, h.2.kept k⟩, trivial⟩ ⟨(KB.refl _ _).drew, (by exact ⟨⟨_, _, _, _, _, _, _, _, _, _, HR9.out, fun h => absurd h (by decide)⟩, HWV.out⟩)⟩ (⟨
      (fun LF aF wF F => by have FK : KB V [b9, bw] wF := F.frame.1; have fj := F.frame.2; refine .inl ⟨fun wq kq => ⟨FK.step kq, by exact DoJ.kept kq fj⟩, ?_⟩; have s0 : aF.tmps.getD 0 undef = (.pointer (some ⟨bw, 0, none⟩)) := F.o 0; exact sv rfl), (fun LF aF wF F => by have FK : KB V [b9, bw] wF := F.frame.1; have fj := F.frame.2; refine .inl ⟨fun wq kq => ⟨FK.step kq, by exact DoJ.kept kq fj⟩, ?_⟩; have s6 : aF.tmps.getD 6 undef = (.pointer (some ⟨w.heap.size, 0, none⟩)) := F.o 6; have c0 := cell_atX HI.out FK N6 0 _ rfl; have c1 := cell_atX HI.out FK N6 1 _ rfl; have c2 := cell_atX HI.out FK N6 2 _ rfl; have c3 := cell_atX HI.out FK N6 3 _ rfl; have c4 := cell_atX HI.out FK N6 4 _ rfl; have c5 := cell_atX HI.out FK N6 5 _ rfl; exact sv rfl), (fun LF aF wF F => by have FK : KB V [b9, bw] wF := F.frame.1; have fj := F.frame.2; refine .inl ⟨fun wq kq => ⟨FK.step kq, by exact DoJ.kept kq fj⟩, ?_⟩; have s7 : aF.tmps.getD 7 undef = (.pointer (some ⟨w.heap.size + 1, 0, none⟩)) := F.o 7; have c0 := cell_atX HJ.out FK N7 0 _ rfl; have c1 := cell_atX HJ.out FK N7 1 _ rfl; have c2 := cell_atX HJ.out FK N7 2 _ rfl; have c3 := cell_atX HJ.out FK N7 3 _ rfl; have c4 := cell_atX HJ.out FK N7 4 _ rfl; have c5 := cell_atX HJ.out FK N7 5 _ rfl; exact sv rfl), (fun LF aF wF F => by have FK : KB V [b9, bw] wF := F.frame.1; have fj := F.frame.2; refine .inl ⟨fun wq kq => ⟨FK.step kq, by exact DoJ.kept kq fj⟩, ?_⟩; have s0 : aF.tmps.getD 0 undef = (.pointer (some ⟨bw, 0, none⟩)) := F.o 0; exact sv rfl), (fun LF aF wF F => by have FK : KB V [b9, bw] wF := F.frame.1; have fj := F.frame.2; refine .inl ⟨fun wq kq => ⟨FK.step kq, by exact DoJ.kept kq fj⟩, ?_⟩; have s80 := F.v 3 80; exact sv rfl), (fun LF aF wF F => by have FK : KB V [b9, bw] wF := F.frame.1; have fj := F.frame.2; refine .inl ⟨fun wq kq => ⟨FK.step kq, by exact DoJ.kept kq fj⟩, ?_⟩; have s81 := F.v 4 81; exact sv rfl), (fun LF aF wF F => by have FK : KB V [b9, bw] wF := F.frame.1; have fj := F.frame.2; refine .inl ⟨fun wq kq => ⟨FK.step kq, by exact DoJ.kept kq fj⟩, ?_⟩; have s82 := F.v 5 82; exact sw (by (have cb := cell_of_block (DoJ.parts fj).2 0 _ rfl; go_simp)) rfl), (fun LF aF wF F => by have FK : KB V [b9, bw] wF := F.frame.1; have fj := F.frame.2; refine .inl ⟨fun wq kq => ⟨FK.step kq, by exact DoJ.kept kq fj⟩, ?_⟩; have s78 := F.v 1 78; have s79 := F.v 2 79; have s83 := F.v 6 83; exact sP (CC.out _ FK) fun _ _ h => h), (fun LF aF wF F => by have FK : KB V [b9, bw] wF := F.frame.1; have fj := F.frame.2; refine .inl ⟨fun wq kq => ⟨FK.step kq, by exact DoJ.kept kq fj⟩, ?_⟩; have s84 := F.p 7 84; exact step_val (by simp [Region.wanted]) rfl s84), (fun LF aF wF F => by have FK : KB V [b9, bw] wF := F.frame.1; have fj := F.frame.2; refine .inl ⟨fun wq kq => ⟨FK.step kq, by exact DoJ.kept kq fj⟩, ?_⟩; have s76 := F.p 8 76; obtain ⟨dd, ee, hh⟩ := s76; exact step_val (by simp [Region.wanted]) (by go_simp) hh), (fun LF aF wF F => by have FK : KB V [b9, bw] wF := F.frame.1; have fj := F.frame.2; refine .inl ⟨fun wq kq => ⟨FK.step kq, by exact DoJ.kept kq fj⟩, ?_⟩; have s76 := F.p 8 76; exact sw (by obtain ⟨dd, ee, hh⟩ := s76; go_simp) rfl), (fun LF aF wF F => by have FK : KB V [b9, bw] wF := F.frame.1; have fj := F.frame.2; refine .inr ?_; have s9 : aF.tmps.getD 9 undef = (.pointer (some ⟨b9, 0, none⟩)) := F.o 9; have s85 := F.p 9 85; obtain ⟨P1, i1, k1, P2, i2, k2, ee, z1, z2⟩ := ivR_split s85; simp only [Array.getD_eq_getD_getElem?] at ee; obtain ⟨⟨_, _, _, _, _, _, _, _, _, _, hbb, -⟩, hwk⟩ := DoJ.parts fj; obtain ⟨-, q0, q1, q2, q3, q4, q5⟩ := hbb.facts; obtain ⟨g0, g1, g2, g3, g4, g5⟩ := hbb.free; exact stepG_store (w' := ivW wF b9 _ _ _ _ _ _) (by simp [Region.wanted]) (by go_simp; rfl) ⟨FK.ivW hbb (by simp) _ _ _ _ _ _, ⟨_, _, _, _, _, _, _, _, _, _, hbb.laid _ _ _ _ _ _, fun _ => (show IvR wF (.agg #[_, _, _, _, _, _]) o.v from ⟨_, _, _, _, _, _, rfl, z1, z2⟩).ivW hbb _ _ _ _ _ _⟩, (ivW_other _ _ _ _ _ _ _ _ _ NB).trans hwk⟩ (stab_of _ ⟨.inr vS, .inr vS, .inr vS, .inr vS, .inr vS, .inr vS, .inr vS, .inr (fun u h => by first | exact h.ivW hbb _ _ _ _ _ _ | exact ⟨h.choose, h.choose_spec.1, h.choose_spec.2.ivW hbb _ _ _ _ _ _⟩), .inr (fun u h => by first | exact h.ivW hbb _ _ _ _ _ _ | exact ⟨h.choose, h.choose_spec.1, h.choose_spec.2.ivW hbb _ _ _ _ _ _⟩), .inr (fun u h => by first | exact h.ivW hbb _ _ _ _ _ _ | exact ⟨h.choose, h.choose_spec.1, h.choose_spec.2.ivW hbb _ _ _ _ _ _⟩), .inr vS, .inl rfl, .inr vS, .inr vS, .inr (fun u h => h), trivial⟩) trivial), (fun LF aF wF F => by have FK : KB V [b9, bw] wF := F.frame.1; have fj := F.frame.2; refine .inl ⟨fun wq kq => ⟨FK.step kq, by exact DoJ.kept kq fj⟩, ?_⟩; have s77 := F.v 0 77; exact sv rfl), (fun LF aF wF F => by have FK : KB V [b9, bw] wF := F.frame.1; have fj := F.frame.2; refine .inl ⟨fun wq kq => ⟨FK.step kq, by exact DoJ.kept kq fj⟩, ?_⟩; have s87 := F.v 12 87; exact sv rfl), (fun LF aF wF F => by have FK : KB V [b9, bw] wF := F.frame.1; have fj := F.frame.2; refine .inr ?_; have s86 := F.v 10 86; have s88 := F.v 13 88; have hwk := (DoJ.parts fj).2; have cb := cell_of_block hwk 1 _ rfl; have fb := free_of_block hwk 1; exact stepG_store (w' := wF.setCell ⟨bw, 1, none⟩ (.int .i64 o.k)) (by simp [Region.wanted]) (by go_simp) ⟨FK.setCell (by simp) cb (noLimb_i64 _) _, DoJ.told NB fj⟩ (stab_of _ ⟨.inr vS, .inr vS, .inr vS, .inr vS, .inr vS, .inr vS, .inr vS, .inr (fun u h => by first | exact h.setCell cb (noLimb_i64 _) _ | exact ⟨h.choose, h.choose_spec.1, h.choose_spec.2.setCell cb (noLimb_i64 _) _⟩), .inr (fun u h => by first | exact h.setCell cb (noLimb_i64 _) _ | exact ⟨h.choose, h.choose_spec.1, h.choose_spec.2.setCell cb (noLimb_i64 _) _⟩), .inr (fun u h => by first | exact h.setCell cb (noLimb_i64 _) _ | exact ⟨h.choose, h.choose_spec.1, h.choose_spec.2.setCell cb (noLimb_i64 _) _⟩), .inr vS, .inr (fun u h => h), .inr vS, .inr vS, .inl rfl, trivial⟩) trivial),
      trivial⟩) ?_
   intro u w1 L1 hL j1 hu
   obtain ⟨k1, j1⟩ := j1
   have p84 := hp hu 7
   have p76 := hp hu 8
   have p85 := hp hu 9
   simp only [puts, slotOf, if_true, Act.put, List.setIfInBounds_toArray, List.set_cons_zero, List.set_cons_succ, List.getElem?_toArray, List.getElem?_cons_zero, List.getElem?_cons_succ, Option.bind_some, hv hu 0, hv hu 1, hv hu 2, hv hu 3, hv hu 4, hv hu 5, hv hu 6, hv hu 10, hv hu 12, hv hu 13]
   clear hu
   generalize u 7 = v84 at *
   generalize u 8 = v76 at *
   generalize u 9 = v85 at *
   have jj : DoJ b9 bw p o.k o.v true true w1 := by
    have jj := j1
    simp only [hL 11 (by decide), hL 14 (by decide)] at jj
    exact jj
   clear j1 hL p85 p84 p76 CC
   obtain ⟨⟨m1, P1, i1, q1, y1, m2, P2, i2, q2, y2, hb9, hiv⟩, hwk⟩ := jj.parts
   have Z := Lib.hid (hiv rfl)
   have HWK : Hid (Wk w1 bw p o.k) := Lib.hid hwk
   have h8 := ((HR.out.kept KV.out).kb k1 N8)
   have H8 := Lib.hid h8
   obtain ⟨-, u0, u1, u2, u3, u4, u5⟩ := h8.facts
   obtain ⟨x0, x1, x2, x3, x4, x5⟩ := h8.free
   obtain ⟨-, c0, c1, c2, c3, c4, c5⟩ := hb9.facts
   have kk : KB w [bw] w1 := ((K.out.trans KV.out).kb [bw]).trans k1 (by intro y hy; simp at hy; rcases hy with rfl | rfl; exact .inr (by omega); exact .inl (by simp))
   have KK := Lib.hid kk
   clear kk jj hb9 hiv hwk h8 k1 HI HJ HR HR9 HWW HWV
   go_simp
   go_wp2_with fail
   refine ret_iv (H8.out.laid _ _ _ _ _ _) rfl rfl rfl ⟨KK.out.trans ((KB.refl w1 [w.heap.size + 1 + 1]).ivW H8.out (by simp) _ _ _ _ _ _) (by intro y hy; simp at hy; exact .inr (by omega)), (ivW_other _ _ _ _ _ _ _ _ _ (by omega)).trans HWK.out, _, rfl, Z.out.ivW H8.out _ _ _ _ _ _⟩
  have ho : opI op a b p = negI a p := by unfold opI; rw [if_neg h6, if_neg h7, if_neg h8, if_neg h9']
  rw [ho]
  have CC := Lib.hid (fun w1 (k : KB V [b9, bw] w1) => OPS.out.neg (by have h := HS.out; unfold DoS at h; rwa [if_neg (by omega)] at h) ((IA.out.kept (K.out.trans KV.out)).kb k) OA.out.1 ((T.out.kept (K.out.trans KV.out)).kb k NG) p1 p2)
  have g6 : (op == 6) = false := by simp [h6]
  have g7 : (op == 7) = false := by simp [h7]
  have g8 : (op == 8) = false := by simp [h8]
  have g9 : (op == 9) = false := by simp [h9']
  clear ho IA IB OA T h6 h7 h8 h9' OPS HS
  generalize rawO (negI a p) = o at *
  generalize a.lo.neg = n1 at *
  generalize a.lo.e = e1 at *
  generalize a.hi.neg = n2 at *
  generalize a.hi.e = e2 at *
  generalize b.lo.neg = n3 at *
  generalize b.lo.e = e3 at *
  generalize b.hi.neg = n4 at *
  generalize b.hi.e = e4 at *
  go_enter Tryz.func81, Tryz.ntmps81
  go_upto_region 1 with fail
  rw [← HW.out]
  go_upto_region 5 with fail
  rw [← HV.out, H9.out]
  refine region_linX (m := 14) (J := fun L w => KB V [b9, bw] w ∧ (fun L w => DoJ b9 bw p o.k o.v (L 10) (L 13) w) L w) (l := [(vP bw 0), (vE (.agg #[.bool n1, .slice A l c, .int .i64 e1, .bool n2, .slice A' l' c', .int .i64 e2])), (vP bw 0), (vP bw 0), (vP bw 0), (vE (.int .i64 (p : Int))), (fun v wv => ∃ d, v = .tuple #[d, .int .i64 o.k] ∧ IvR wv d o.v), (fun v wv => ∃ d, v = .tuple #[d, .int .i64 o.k] ∧ IvR wv d o.v), (fun v wv => IvR wv v o.v), (vE (.int .i64 o.k)), (fun v _ => True), (vP bw 0), (vP bw 1), (fun v _ => True)])
   (by kernel_rfl) rfl (by kernel_rfl) (by kernel_rfl) (by kernel_rfl) ⟨mE, mE, mE, mE, mE, mE, fun v w w' k h => by obtain ⟨d, h1, h2⟩ := h; exact ⟨d, h1, h2.kept k⟩, fun v w w' k h => by obtain ⟨d, h1, h2⟩ := h; exact ⟨d, h1, h2.kept k⟩, fun v w w' k h => by first | exact h | exact h.kept k | exact ⟨h.1, h.2.kept k⟩, mE, fun v w w' k h => by first | exact h | exact h.kept k | exact ⟨h.1, h.2.kept k⟩, mE, mE, fun v w w' k h => by first | exact h | exact h.kept k | exact ⟨h.1, h.2.kept k⟩, trivial⟩ ⟨(KB.refl _ _).drew, (by exact ⟨⟨_, _, _, _, _, _, _, _, _, _, HR9.out, fun h => absurd h (by decide)⟩, HWV.out⟩)⟩ (⟨
     (fun LF aF wF F => by have FK : KB V [b9, bw] wF := F.frame.1; have fj := F.frame.2; refine .inl ⟨fun wq kq => ⟨FK.step kq, by exact DoJ.kept kq fj⟩, ?_⟩; have s0 : aF.tmps.getD 0 undef = (.pointer (some ⟨bw, 0, none⟩)) := F.o 0; exact sv rfl), (fun LF aF wF F => by have FK : KB V [b9, bw] wF := F.frame.1; have fj := F.frame.2; refine .inl ⟨fun wq kq => ⟨FK.step kq, by exact DoJ.kept kq fj⟩, ?_⟩; have s6 : aF.tmps.getD 6 undef = (.pointer (some ⟨w.heap.size, 0, none⟩)) := F.o 6; have c0 := cell_atX HI.out FK N6 0 _ rfl; have c1 := cell_atX HI.out FK N6 1 _ rfl; have c2 := cell_atX HI.out FK N6 2 _ rfl; have c3 := cell_atX HI.out FK N6 3 _ rfl; have c4 := cell_atX HI.out FK N6 4 _ rfl; have c5 := cell_atX HI.out FK N6 5 _ rfl; exact sv rfl), (fun LF aF wF F => by have FK : KB V [b9, bw] wF := F.frame.1; have fj := F.frame.2; refine .inl ⟨fun wq kq => ⟨FK.step kq, by exact DoJ.kept kq fj⟩, ?_⟩; have s0 : aF.tmps.getD 0 undef = (.pointer (some ⟨bw, 0, none⟩)) := F.o 0; exact sv rfl), (fun LF aF wF F => by have FK : KB V [b9, bw] wF := F.frame.1; have fj := F.frame.2; refine .inl ⟨fun wq kq => ⟨FK.step kq, by exact DoJ.kept kq fj⟩, ?_⟩; have s20 := F.v 2 20; exact sv rfl), (fun LF aF wF F => by have FK : KB V [b9, bw] wF := F.frame.1; have fj := F.frame.2; refine .inl ⟨fun wq kq => ⟨FK.step kq, by exact DoJ.kept kq fj⟩, ?_⟩; have s21 := F.v 3 21; exact sv rfl), (fun LF aF wF F => by have FK : KB V [b9, bw] wF := F.frame.1; have fj := F.frame.2; refine .inl ⟨fun wq kq => ⟨FK.step kq, by exact DoJ.kept kq fj⟩, ?_⟩; have s22 := F.v 4 22; exact sw (by (have cb := cell_of_block (DoJ.parts fj).2 0 _ rfl; go_simp)) rfl), (fun LF aF wF F => by have FK : KB V [b9, bw] wF := F.frame.1; have fj := F.frame.2; refine .inl ⟨fun wq kq => ⟨FK.step kq, by exact DoJ.kept kq fj⟩, ?_⟩; have s19 := F.v 1 19; have s23 := F.v 5 23; exact sP (CC.out _ FK) fun _ _ h => h), (fun LF aF wF F => by have FK : KB V [b9, bw] wF := F.frame.1; have fj := F.frame.2; refine .inl ⟨fun wq kq => ⟨FK.step kq, by exact DoJ.kept kq fj⟩, ?_⟩; have s24 := F.p 6 24; exact step_val (by simp [Region.wanted]) rfl s24), (fun LF aF wF F => by have FK : KB V [b9, bw] wF := F.frame.1; have fj := F.frame.2; refine .inl ⟨fun wq kq => ⟨FK.step kq, by exact DoJ.kept kq fj⟩, ?_⟩; have s17 := F.p 7 17; obtain ⟨dd, ee, hh⟩ := s17; exact step_val (by simp [Region.wanted]) (by go_simp) hh), (fun LF aF wF F => by have FK : KB V [b9, bw] wF := F.frame.1; have fj := F.frame.2; refine .inl ⟨fun wq kq => ⟨FK.step kq, by exact DoJ.kept kq fj⟩, ?_⟩; have s17 := F.p 7 17; exact sw (by obtain ⟨dd, ee, hh⟩ := s17; go_simp) rfl), (fun LF aF wF F => by have FK : KB V [b9, bw] wF := F.frame.1; have fj := F.frame.2; refine .inr ?_; have s9 : aF.tmps.getD 9 undef = (.pointer (some ⟨b9, 0, none⟩)) := F.o 9; have s25 := F.p 8 25; obtain ⟨P1, i1, k1, P2, i2, k2, ee, z1, z2⟩ := ivR_split s25; simp only [Array.getD_eq_getD_getElem?] at ee; obtain ⟨⟨_, _, _, _, _, _, _, _, _, _, hbb, -⟩, hwk⟩ := DoJ.parts fj; obtain ⟨-, q0, q1, q2, q3, q4, q5⟩ := hbb.facts; obtain ⟨g0, g1, g2, g3, g4, g5⟩ := hbb.free; exact stepG_store (w' := ivW wF b9 _ _ _ _ _ _) (by simp [Region.wanted]) (by go_simp; rfl) ⟨FK.ivW hbb (by simp) _ _ _ _ _ _, ⟨_, _, _, _, _, _, _, _, _, _, hbb.laid _ _ _ _ _ _, fun _ => (show IvR wF (.agg #[_, _, _, _, _, _]) o.v from ⟨_, _, _, _, _, _, rfl, z1, z2⟩).ivW hbb _ _ _ _ _ _⟩, (ivW_other _ _ _ _ _ _ _ _ _ NB).trans hwk⟩ (stab_of _ ⟨.inr vS, .inr vS, .inr vS, .inr vS, .inr vS, .inr vS, .inr (fun u h => by first | exact h.ivW hbb _ _ _ _ _ _ | exact ⟨h.choose, h.choose_spec.1, h.choose_spec.2.ivW hbb _ _ _ _ _ _⟩), .inr (fun u h => by first | exact h.ivW hbb _ _ _ _ _ _ | exact ⟨h.choose, h.choose_spec.1, h.choose_spec.2.ivW hbb _ _ _ _ _ _⟩), .inr (fun u h => by first | exact h.ivW hbb _ _ _ _ _ _ | exact ⟨h.choose, h.choose_spec.1, h.choose_spec.2.ivW hbb _ _ _ _ _ _⟩), .inr vS, .inl rfl, .inr vS, .inr vS, .inr (fun u h => h), trivial⟩) trivial), (fun LF aF wF F => by have FK : KB V [b9, bw] wF := F.frame.1; have fj := F.frame.2; refine .inl ⟨fun wq kq => ⟨FK.step kq, by exact DoJ.kept kq fj⟩, ?_⟩; have s18 := F.v 0 18; exact sv rfl), (fun LF aF wF F => by have FK : KB V [b9, bw] wF := F.frame.1; have fj := F.frame.2; refine .inl ⟨fun wq kq => ⟨FK.step kq, by exact DoJ.kept kq fj⟩, ?_⟩; have s27 := F.v 11 27; exact sv rfl), (fun LF aF wF F => by have FK : KB V [b9, bw] wF := F.frame.1; have fj := F.frame.2; refine .inr ?_; have s26 := F.v 9 26; have s28 := F.v 12 28; have hwk := (DoJ.parts fj).2; have cb := cell_of_block hwk 1 _ rfl; have fb := free_of_block hwk 1; exact stepG_store (w' := wF.setCell ⟨bw, 1, none⟩ (.int .i64 o.k)) (by simp [Region.wanted]) (by go_simp) ⟨FK.setCell (by simp) cb (noLimb_i64 _) _, DoJ.told NB fj⟩ (stab_of _ ⟨.inr vS, .inr vS, .inr vS, .inr vS, .inr vS, .inr vS, .inr (fun u h => by first | exact h.setCell cb (noLimb_i64 _) _ | exact ⟨h.choose, h.choose_spec.1, h.choose_spec.2.setCell cb (noLimb_i64 _) _⟩), .inr (fun u h => by first | exact h.setCell cb (noLimb_i64 _) _ | exact ⟨h.choose, h.choose_spec.1, h.choose_spec.2.setCell cb (noLimb_i64 _) _⟩), .inr (fun u h => by first | exact h.setCell cb (noLimb_i64 _) _ | exact ⟨h.choose, h.choose_spec.1, h.choose_spec.2.setCell cb (noLimb_i64 _) _⟩), .inr vS, .inr (fun u h => h), .inr vS, .inr vS, .inl rfl, trivial⟩) trivial),
     trivial⟩) ?_
  intro u w1 L1 hL j1 hu
  obtain ⟨k1, j1⟩ := j1
  have p24 := hp hu 6
  have p17 := hp hu 7
  have p25 := hp hu 8
  simp only [puts, slotOf, if_true, Act.put, List.setIfInBounds_toArray, List.set_cons_zero, List.set_cons_succ, List.getElem?_toArray, List.getElem?_cons_zero, List.getElem?_cons_succ, Option.bind_some, hv hu 0, hv hu 1, hv hu 2, hv hu 3, hv hu 4, hv hu 5, hv hu 9, hv hu 11, hv hu 12]
  clear hu
  generalize u 6 = v24 at *
  generalize u 7 = v17 at *
  generalize u 8 = v25 at *
  have jj : DoJ b9 bw p o.k o.v true true w1 := by
   have jj := j1
   simp only [hL 10 (by decide), hL 13 (by decide)] at jj
   exact jj
  clear j1 hL p25 p24 p17 CC
  obtain ⟨⟨m1, P1, i1, q1, y1, m2, P2, i2, q2, y2, hb9, hiv⟩, hwk⟩ := jj.parts
  have Z := Lib.hid (hiv rfl)
  have HWK : Hid (Wk w1 bw p o.k) := Lib.hid hwk
  have h8 := ((HR.out.kept KV.out).kb k1 N8)
  have H8 := Lib.hid h8
  obtain ⟨-, u0, u1, u2, u3, u4, u5⟩ := h8.facts
  obtain ⟨x0, x1, x2, x3, x4, x5⟩ := h8.free
  obtain ⟨-, c0, c1, c2, c3, c4, c5⟩ := hb9.facts
  have kk : KB w [bw] w1 := ((K.out.trans KV.out).kb [bw]).trans k1 (by intro y hy; simp at hy; rcases hy with rfl | rfl; exact .inr (by omega); exact .inl (by simp))
  have KK := Lib.hid kk
  clear kk jj hb9 hiv hwk h8 k1 HI HJ HR HR9 HWW HWV
  go_simp
  go_wp2_with fail
  refine ret_iv (H8.out.laid _ _ _ _ _ _) rfl rfl rfl ⟨KK.out.trans ((KB.refl w1 [w.heap.size + 1 + 1]).ivW H8.out (by simp) _ _ _ _ _ _) (by intro y hy; simp at hy; exact .inr (by omega)), (ivW_other _ _ _ _ _ _ _ _ _ (by omega)).trans HWK.out, _, rfl, Z.out.ivW H8.out _ _ _ _ _ _⟩
 ·have hdo : rawO (doI op a b p e) = ⟨rzI, e⟩ := by unfold doI; rw [if_neg he]; exact congrArg (Outc.mk · e) iz_rawz
  rw [hdo]
  have he' : (e != 0) = true := by simp [he]
  obtain ⟨-, r0, r1, r2, r3, r4, r5⟩ := HR.out.facts
  obtain ⟨f0, f1, f2, f3, f4, f5⟩ := HR.out.free
  clear hdo he IA IB OA T OPS HS HI HJ HR9 HV HWV KV
  generalize a.lo.neg = n1 at *
  generalize a.lo.e = e1 at *
  generalize a.hi.neg = n2 at *
  generalize a.hi.e = e2 at *
  generalize b.lo.neg = n3 at *
  generalize b.lo.e = e3 at *
  generalize b.hi.neg = n4 at *
  generalize b.hi.e = e4 at *
  go_enter Tryz.func81, Tryz.ntmps81
  go_upto_region 1 with fail
  rw [← HW.out]
  go_wp2_with fail
  refine ret_iv (HR.out.laid _ _ _ _ _ _) rfl rfl rfl ⟨Kept.kb (ivW_kept K.out (by omega)) _, ?_, _, rfl, ivR_zero _⟩
  exact (ivW_other _ _ _ _ _ _ _ _ _ (by omega)).trans HWW.out
end Go.Proofs.YtgododcbmkpbjaaGreatDoor
