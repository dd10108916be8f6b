/- Contracts of package slope, second part: one. -/
import Derived.Test.YtgododcbmkpbjaaGreatDoorClaimSmeanp33
import Derived.Test.YtgododcbmkpbjaaGreatDoorClaimSmeanp35
set_option maxRecDepth 100000
set_option maxHeartbeats 16000000
namespace Go.Proofs.YtgododcbmkpbjaaGreatDoor
open Go.RowKit
theorem opI_ok {op : Int} {a b : Iv} (ha : a.Ok) (hb : b.Ok) {p : Nat} (hp : 1 ≤ p) : OkI (opI op a b p) := by
 unfold opI
 split
 ·exact addI_ok ha hb hp
 split
 ·exact subI_ok ha hb hp
 split
 ·exact mulI_ok hp
 split
 ·exact divI_ok hb hp
 ·exact negI_ok ha hp
theorem doI_ok {op : Int} {a b : Iv} (ha : a.Ok) (hb : b.Ok) {p : Nat} (hp : 1 ≤ p) (e : Int) : (doI op a b p e).v.Ok := by
 unfold doI
 split
 ·exact (opI_ok ha hb hp).1
 ·exact iz_ok
theorem two_ok : two.Ok := pt_ok dt_ok
/-- How far a region with two operations of the worker has come. -/
def OneJ (b14 bw : Nat) (p e k1 k2 : Int) (r : RawI) (l1 l2 l3 : Bool) (w : World) : Prop :=
 (∃ n A l c d n' A' l' c' d', BlkI w b14 (.bool n) (.slice A l c) (.int .i64 d) (.bool n') (.slice A' l' c') (.int .i64 d') ∧ (l3 = true → IvR w (.agg #[.bool n, .slice A l c, .int .i64 d, .bool n', .slice A' l' c', .int .i64 d']) r)) ∧
   Wk w bw p (if l1 then (if l2 then k2 else k1) else e) ∧ (l2 = true → l1 = true)
theorem OneJ.parts {b14 bw : Nat} {p e k1 k2 : Int} {r : RawI} {l1 l2 l3 : Bool} {w : World} (h : OneJ b14 bw p e k1 k2 r l1 l2 l3 w) :
 (∃ n A l c d n' A' l' c' d', BlkI w b14 (.bool n) (.slice A l c) (.int .i64 d) (.bool n') (.slice A' l' c') (.int .i64 d') ∧ (l3 = true → IvR w (.agg #[.bool n, .slice A l c, .int .i64 d, .bool n', .slice A' l' c', .int .i64 d']) r)) ∧
   Wk w bw p (if l1 then (if l2 then k2 else k1) else e) ∧ (l2 = true → l1 = true) := h
theorem OneJ.kept {b14 bw : Nat} {p e k1 k2 : Int} {r : RawI} {l1 l2 l3 : Bool} {w w' : World} (q : Kept w w') (h : OneJ b14 bw p e k1 k2 r l1 l2 l3 w) : OneJ b14 bw p e k1 k2 r l1 l2 l3 w' := by
 obtain ⟨⟨n, A, l, c, d, n', A', l', c', d', h1, h2⟩, h3, h4⟩ := h
 exact ⟨⟨n, A, l, c, d, n', A', l', c', d', h1.kept q, fun hl => (h2 hl).kept q⟩, h3.kept q, h4⟩
theorem OneJ.first {b14 bw : Nat} {p e k1 k2 : Int} {r : RawI} {l1 l2 l3 : Bool} {w w' : World} (hne : ¬ b14 = bw) (h : OneJ b14 bw p e k1 k2 r l1 l2 l3 w) (hl : l1 = false) (k : KB w [bw] w') (hw : Wk w' bw p k1) : OneJ b14 bw p e k1 k2 r true l2 l3 w' := by
 obtain ⟨⟨n, A, l, c, d, n', A', l', c', d', h1, h2⟩, h3, h4⟩ := h
 refine ⟨⟨n, A, l, c, d, n', A', l', c', d', h1.kb k (by simpa using hne), fun hl => (h2 hl).kb k⟩, ?_, fun _ => rfl⟩
 cases l2
 ·exact hw
 ·exact absurd (h4 rfl) (by simp [hl])
theorem OneJ.second {b14 bw : Nat} {p e k1 k2 : Int} {r : RawI} {l1 l2 l3 : Bool} {w w' : World} (hne : ¬ b14 = bw) (h : OneJ b14 bw p e k1 k2 r l1 l2 l3 w) (hl : l1 = true) (k : KB w [bw] w') (hw : Wk w' bw p k2) : OneJ b14 bw p e k1 k2 r l1 true l3 w' := by
 obtain ⟨⟨n, A, l, c, d, n', A', l', c', d', h1, h2⟩, h3, h4⟩ := h
 refine ⟨⟨n, A, l, c, d, n', A', l', c', d', h1.kb k (by simpa using hne), fun hl => (h2 hl).kb k⟩, ?_, fun _ => hl⟩
 rw [hl]; exact hw
theorem OneJ.laid {b14 bw : Nat} {p e k1 k2 : Int} {r : RawI} {l1 l2 l3 : Bool} {w : World} (hne : ¬ b14 = bw) (h : OneJ b14 bw p e k1 k2 r l1 l2 l3 w) {n n' : Bool} {A A' : Option Addr} {l c l' c' : Nat} {d d' : Int}
 (hr : IvR w (.agg #[.bool n, .slice A l c, .int .i64 d, .bool n', .slice A' l' c', .int .i64 d']) r) : OneJ b14 bw p e k1 k2 r l1 l2 true (ivW w b14 (.bool n) (.slice A l c) (.int .i64 d) (.bool n') (.slice A' l' c') (.int .i64 d')) := by
 obtain ⟨⟨n1, A1, i1, c1, d1, n1', A1', i1', c1', d1', h1, h2⟩, h3, h4⟩ := h
 exact ⟨⟨n, A, l, c, d, n', A', l', c', d', h1.laid _ _ _ _ _ _, fun _ => hr.ivW h1 _ _ _ _ _ _⟩, (ivW_other _ _ _ _ _ _ _ _ _ (fun h => hne h.symm)).trans h3, h4⟩
theorem OneJ.done {b14 bw : Nat} {p e k1 k2 : Int} {r : RawI} {w : World} (h : OneJ b14 bw p e k1 k2 r true true true w) :
 (∃ n A l c d n' A' l' c' d', BlkI w b14 (.bool n) (.slice A l c) (.int .i64 d) (.bool n') (.slice A' l' c') (.int .i64 d') ∧ IvR w (.agg #[.bool n, .slice A l c, .int .i64 d, .bool n', .slice A' l' c', .int .i64 d']) r) ∧ Wk w bw p k2 := by
 obtain ⟨⟨n, A, l, c, d, n', A', l', c', d', h1, h2⟩, h3, h4⟩ := h
 exact ⟨⟨n, A, l, c, d, n', A', l', c', d', h1, h2 rfl⟩, h3⟩
/-- Six boxes. -/
theorem box6i (w : World) (a0 a1 a2 a3 a4 a5 b0 b1 b2 b3 b4 b5 c0 c1 c2 c3 c4 c5 d0 d1 d2 d3 d4 d5 e0 e1 e2 e3 e4 e5 : Value) :
 ∃ W, W = (((((w.alloc (.cells #[a0, a1, a2, a3, a4, a5] 32)).alloc (.cells #[b0, b1, b2, b3, b4, b5] 32)).alloc (.cells #[c0, c1, c2, c3, c4, c5] 32)).alloc (.cells #[d0, d1, d2, d3, d4, d5] 32)).alloc (.cells #[e0, e1, e2, e3, e4, e5] 32)).alloc (.cells #[.bool false, .slice none 0 0, .int .i64 0, .bool false, .slice none 0 0, .int .i64 0] 32) ∧
 Kept w W ∧ W.heap.size = w.heap.size + 1 + 1 + 1 + 1 + 1 + 1 ∧ BlkI W w.heap.size a0 a1 a2 a3 a4 a5 ∧ BlkI W (w.heap.size + 1) b0 b1 b2 b3 b4 b5 ∧ BlkI W (w.heap.size + 1 + 1) c0 c1 c2 c3 c4 c5 ∧ BlkI W (w.heap.size + 1 + 1 + 1) d0 d1 d2 d3 d4 d5 ∧ BlkI W (w.heap.size + 1 + 1 + 1 + 1) e0 e1 e2 e3 e4 e5 ∧
 BlkI W (w.heap.size + 1 + 1 + 1 + 1 + 1) (.bool false) (.slice none 0 0) (.int .i64 0) (.bool false) (.slice none 0 0) (.int .i64 0) := by
 have st : ∀ (v : World) (n : Nat) (x0 x1 x2 x3 x4 x5 : Value), v.heap.size = n → BlkI (v.alloc (.cells #[x0, x1, x2, x3, x4, x5] 32)) n x0 x1 x2 x3 x4 x5 ∧ (v.alloc (.cells #[x0, x1, x2, x3, x4, x5] 32)).heap.size = n + 1 ∧ Kept v (v.alloc (.cells #[x0, x1, x2, x3, x4, x5] 32)) := by
  intro v n x0 x1 x2 x3 x4 x5 h
  subst h
  exact ⟨blkI_new _ _ _ _ _ _ _, by simp, kept_alloc _ _⟩
 obtain ⟨w1, h1⟩ : ∃ v, v = w.alloc (.cells #[a0, a1, a2, a3, a4, a5] 32) := ⟨_, rfl⟩
 obtain ⟨p1, q1, k1⟩ := st w _ a0 a1 a2 a3 a4 a5 rfl
 rw [← h1] at p1 q1 k1 ⊢
 obtain ⟨w2, h2⟩ : ∃ v, v = w1.alloc (.cells #[b0, b1, b2, b3, b4, b5] 32) := ⟨_, rfl⟩
 obtain ⟨p2, q2, k2⟩ := st w1 _ b0 b1 b2 b3 b4 b5 q1
 rw [← h2] at p2 q2 k2 ⊢
 obtain ⟨w3, h3⟩ : ∃ v, v = w2.alloc (.cells #[c0, c1, c2, c3, c4, c5] 32) := ⟨_, rfl⟩
 obtain ⟨p3, q3, k3⟩ := st w2 _ c0 c1 c2 c3 c4 c5 q2
 rw [← h3] at p3 q3 k3 ⊢
 obtain ⟨w4, h4⟩ : ∃ v, v = w3.alloc (.cells #[d0, d1, d2, d3, d4, d5] 32) := ⟨_, rfl⟩
 obtain ⟨p4, q4, k4⟩ := st w3 _ d0 d1 d2 d3 d4 d5 q3
 rw [← h4] at p4 q4 k4 ⊢
 obtain ⟨w5, h5⟩ : ∃ v, v = w4.alloc (.cells #[e0, e1, e2, e3, e4, e5] 32) := ⟨_, rfl⟩
 obtain ⟨p5, q5, k5⟩ := st w4 _ e0 e1 e2 e3 e4 e5 q4
 rw [← h5] at p5 q5 k5 ⊢
 obtain ⟨p6, q6, k6⟩ := st w5 _ (.bool false) (.slice none 0 0) (.int .i64 0) (.bool false) (.slice none 0 0) (.int .i64 0) q5
 exact ⟨_, rfl, ((((k1.trans k2).trans k3).trans k4).trans k5).trans k6, q6, ((((p1.kept k2).kept k3).kept k4).kept k5).kept k6, (((p2.kept k3).kept k4).kept k5).kept k6, ((p3.kept k4).kept k5).kept k6, (p4.kept k5).kept k6, p5.kept k6, p6⟩
theorem one_c {S : Int → Prop} {w : World} {bw : Nat} {va vb vc vd ve : Value} {a b c da db : Iv} {op : Int} {p : Nat} {e : Int} (hw : Wk w bw p e) (ha : IvC w va a) (hb : IvC w vb b) (hc : IvC w vc c) (hd : IvC w vd da) (he : IvC w ve db)
 (oa : a.Ok) (ob : b.Ok) (oc : c.Ok) (od : da.Ok) (oe : db.Ok) (hT : Tab w) (p1 : 1 ≤ p) (p2 : p ≤ 2000) (O : OpsC S) (hD : DerS S op) :
 Calls Tryz.prog 40 #[.pointer (some ⟨bw, 0, none⟩), .int .i64 op, va, vb, vc, vd, ve] w (RetWk bw p (rawO (oneS p op a b c da db e)) w) := by
 obtain ⟨a0, a1, a2, a3, a4, a5, rfl, -, -⟩ := (show IvR _ _ _ from ha)
 obtain ⟨b0, b1, b2, b3, b4, b5, rfl, -, -⟩ := (show IvR _ _ _ from hb)
 obtain ⟨c0, c1, c2, c3, c4, c5, rfl, -, -⟩ := (show IvR _ _ _ from hc)
 obtain ⟨d0, d1, d2, d3, d4, d5, rfl, -, -⟩ := (show IvR _ _ _ from hd)
 obtain ⟨e0, e1, e2, e3, e4, e5, rfl, -, -⟩ := (show IvR _ _ _ from he)
 have OPS := Lib.hid O
 have DER := Lib.hid hD
 clear O hD
 have OA := Lib.hid oa
 have OB := Lib.hid ob
 have OC := Lib.hid oc
 have OD := Lib.hid od
 have OE := Lib.hid oe
 have lw := hw.lt
 have gl := hT.lt
 have gn : 0 ≠ bw := hT.ne (cell_of_block hw 0 _ rfl) (by intro y h; cases h)
 obtain ⟨W, hW, kW, lW, B9, B10, B11, B12, B13, B14⟩ := box6i w a0 a1 a2 a3 a4 a5 b0 b1 b2 b3 b4 b5 c0 c1 c2 c3 c4 c5 d0 d1 d2 d3 d4 d5 e0 e1 e2 e3 e4 e5
 have PC := Lib.hid (show Calls Tryz.prog 39 #[.int .i64 2] W (RetI (pt (fitD false 2 0).v).raw W) from spoint_c (n := 2) (by decide) (hT.kept kW))
 rw [fit_t] at PC
 have HW := Lib.hid hW
 go_enter Tryz.func40, Tryz.ntmps40
 go_upto_region 1 with fail
 rw [← HW.out]
 clear HW hW oa ob oc od oe
 go_wp2_with fail
 refine PC.out.mono ?_
 rintro e' w2 ⟨q, u, rfl, hp⟩
 obtain ⟨T1, jt, yt, T2, js, ys, rfl, -, -⟩ := ivR_split hp
 simp only []
 obtain ⟨t0, ht0⟩ : ∃ x, x = (pt dt).raw.lo.neg := ⟨_, rfl⟩
 obtain ⟨t2, ht2⟩ : ∃ x, x = (pt dt).raw.lo.e := ⟨_, rfl⟩
 obtain ⟨t3, ht3⟩ : ∃ x, x = (pt dt).raw.hi.neg := ⟨_, rfl⟩
 obtain ⟨t5, ht5⟩ : ∃ x, x = (pt dt).raw.hi.e := ⟨_, rfl⟩
 rw [← ht0, ← ht2, ← ht3, ← ht5] at hp ⊢
 clear ht0 ht2 ht3 ht5
 obtain ⟨V, hV, kV, B15, lV⟩ := boxV w2 (.bool t0) (.slice T1 jt yt) (.int .i64 t2) (.bool t3) (.slice T2 js ys) (.int .i64 t5)
 have kk := q.trans kV
 have K := Lib.hid (kW.trans kk)
 have H9 := Lib.hid (B9.kept kk)
 have H10 := Lib.hid (B10.kept kk)
 have H11 := Lib.hid (B11.kept kk)
 have H12 := Lib.hid (B12.kept kk)
 have H13 := Lib.hid (B13.kept kk)
 have H14 := Lib.hid (B14.kept kk)
 have H15 := Lib.hid B15
 have IA := Lib.hid (IvC.kept ha K.out)
 have IB := Lib.hid (IvC.kept hb K.out)
 have IC := Lib.hid (IvC.kept hc K.out)
 have ID := Lib.hid (IvC.kept hd K.out)
 have IE := Lib.hid (IvC.kept he K.out)
 have IT := Lib.hid (show IvC V _ two from hp.kept kV)
 have WK := Lib.hid (hw.kept K.out)
 have T := Lib.hid (hT.kept K.out)
 have lq := q.size
 have NG : 0 ∉ [bw] := by simpa using gn
 go_upto_region 2 with fail
 rw [← hV]
 clear hV kW q kk kV B9 B10 B11 B12 B13 B14 B15 ha hb hc hd he hp hw hT PC
 have N9 : w.heap.size ∉ [bw] := by simp; omega
 have N10 : w.heap.size + 1 ∉ [bw] := by simp; omega
 have N11 : w.heap.size + 1 + 1 ∉ [bw] := by simp; omega
 have N12 : w.heap.size + 1 + 1 + 1 ∉ [bw] := by simp; omega
 have N13 : w.heap.size + 1 + 1 + 1 + 1 ∉ [bw] := by simp; omega
 have N14 : w.heap.size + 1 + 1 + 1 + 1 + 1 ∉ [bw] := by simp; omega
 have N15 : w2.heap.size ∉ [bw] := by simp; omega
 have M9 : w.heap.size ∉ [w.heap.size + 1 + 1 + 1 + 1 + 1, bw] := by simp; omega
 have M10 : w.heap.size + 1 ∉ [w.heap.size + 1 + 1 + 1 + 1 + 1, bw] := by simp; omega
 have M11 : w.heap.size + 1 + 1 ∉ [w.heap.size + 1 + 1 + 1 + 1 + 1, bw] := by simp; omega
 have M12 : w.heap.size + 1 + 1 + 1 ∉ [w.heap.size + 1 + 1 + 1 + 1 + 1, bw] := by simp; omega
 have M13 : w.heap.size + 1 + 1 + 1 + 1 ∉ [w.heap.size + 1 + 1 + 1 + 1 + 1, bw] := by simp; omega
 have M15 : w2.heap.size ∉ [w.heap.size + 1 + 1 + 1 + 1 + 1, bw] := by simp; omega
 have MG : 0 ∉ [w.heap.size + 1 + 1 + 1 + 1 + 1, bw] := by simp; omega
 have NE : ¬ w.heap.size + 1 + 1 + 1 + 1 + 1 = bw := by omega
 generalize g14 : w.heap.size + 1 + 1 + 1 + 1 + 1 = b14 at *
 generalize g13 : w.heap.size + 1 + 1 + 1 + 1 = b13 at *
 generalize g12 : w.heap.size + 1 + 1 + 1 = b12 at *
 generalize g11 : w.heap.size + 1 + 1 = b11 at *
 generalize g10 : w.heap.size + 1 = b10 at *
 generalize g9 : w.heap.size = b9 at *
 generalize g15 : w2.heap.size = b15 at *
 by_cases h67 : op = 6 ∨ op = 7 ∨ op = 10
 ·have ho : oneS p op a b c da db e = doI op da db p e := by unfold oneS; rw [if_pos h67]
  rw [ho]
  rcases h67 with rfl | rfl | rfl
  ·
   have D := Lib.hid (do_c (op := 6) WK.out ID.out IE.out OD.out OE.out T.out p1 p2 OPS.out (DER.out 6 (by decide)))
   clear ho H9 H10 H11 H15 IT IA IB IC
   obtain ⟨-, f0, f1, f2, f3, f4, f5⟩ := H12.out.facts
   obtain ⟨-, g0, g1, g2, g3, g4, g5⟩ := H13.out.facts
   go_wp2_with fail
   refine D.out.mono ?_
   rintro e' w3 ⟨kb, hwk, u, rfl, hv⟩
   obtain ⟨P1, i1, q1, P2, i2, q2, rfl, z1, z2⟩ := ivR_split hv
   have h14 := H14.out.kb kb N14
   obtain ⟨-, r0, r1, r2, r3, r4, r5⟩ := h14.facts
   obtain ⟨x0, x1, x2, x3, x4, x5⟩ := h14.free
   have HB := Lib.hid h14
   have Z := Lib.hid hv
   have KK := Lib.hid ((K.out.kb [bw]).trans kb (by intro y hy; exact .inl hy))
   have WW := Lib.hid hwk
   clear h14 hv z1 z2 kb hwk D f0 f1 f2 f3 f4 f5 g0 g1 g2 g3 g4 g5 T WK
   simp only []
   go_wp2_with fail
   refine ret_iv (HB.out.laid _ _ _ _ _ _) rfl rfl rfl ⟨KK.out.trans ((KB.refl w3 [b14]).ivW HB.out (by simp) _ _ _ _ _ _) (by intro y hy; simp at hy; exact .inr (by omega)), (ivW_other _ _ _ _ _ _ _ _ _ (by omega)).trans WW.out, _, rfl, Z.out.ivW HB.out _ _ _ _ _ _⟩
  ·
   have D := Lib.hid (do_c (op := 7) WK.out ID.out IE.out OD.out OE.out T.out p1 p2 OPS.out (DER.out 7 (by decide)))
   clear ho H9 H10 H11 H15 IT IA IB IC
   obtain ⟨-, f0, f1, f2, f3, f4, f5⟩ := H12.out.facts
   obtain ⟨-, g0, g1, g2, g3, g4, g5⟩ := H13.out.facts
   go_wp2_with fail
   refine D.out.mono ?_
   rintro e' w3 ⟨kb, hwk, u, rfl, hv⟩
   obtain ⟨P1, i1, q1, P2, i2, q2, rfl, z1, z2⟩ := ivR_split hv
   have h14 := H14.out.kb kb N14
   obtain ⟨-, r0, r1, r2, r3, r4, r5⟩ := h14.facts
   obtain ⟨x0, x1, x2, x3, x4, x5⟩ := h14.free
   have HB := Lib.hid h14
   have Z := Lib.hid hv
   have KK := Lib.hid ((K.out.kb [bw]).trans kb (by intro y hy; exact .inl hy))
   have WW := Lib.hid hwk
   clear h14 hv z1 z2 kb hwk D f0 f1 f2 f3 f4 f5 g0 g1 g2 g3 g4 g5 T WK
   simp only []
   go_wp2_with fail
   refine ret_iv (HB.out.laid _ _ _ _ _ _) rfl rfl rfl ⟨KK.out.trans ((KB.refl w3 [b14]).ivW HB.out (by simp) _ _ _ _ _ _) (by intro y hy; simp at hy; exact .inr (by omega)), (ivW_other _ _ _ _ _ _ _ _ _ (by omega)).trans WW.out, _, rfl, Z.out.ivW HB.out _ _ _ _ _ _⟩
  ·
   have D := Lib.hid (do_c (op := 10) WK.out ID.out IE.out OD.out OE.out T.out p1 p2 OPS.out (DER.out 10 (by decide)))
   clear ho H9 H10 H11 H15 IT IA IB IC
   obtain ⟨-, f0, f1, f2, f3, f4, f5⟩ := H12.out.facts
   obtain ⟨-, g0, g1, g2, g3, g4, g5⟩ := H13.out.facts
   go_wp2_with fail
   refine D.out.mono ?_
   rintro e' w3 ⟨kb, hwk, u, rfl, hv⟩
   obtain ⟨P1, i1, q1, P2, i2, q2, rfl, z1, z2⟩ := ivR_split hv
   have h14 := H14.out.kb kb N14
   obtain ⟨-, r0, r1, r2, r3, r4, r5⟩ := h14.facts
   obtain ⟨x0, x1, x2, x3, x4, x5⟩ := h14.free
   have HB := Lib.hid h14
   have Z := Lib.hid hv
   have KK := Lib.hid ((K.out.kb [bw]).trans kb (by intro y hy; exact .inl hy))
   have WW := Lib.hid hwk
   clear h14 hv z1 z2 kb hwk D f0 f1 f2 f3 f4 f5 g0 g1 g2 g3 g4 g5 T WK
   simp only []
   go_wp2_with fail
   refine ret_iv (HB.out.laid _ _ _ _ _ _) rfl rfl rfl ⟨KK.out.trans ((KB.refl w3 [b14]).ivW HB.out (by simp) _ _ _ _ _ _) (by intro y hy; simp at hy; exact .inr (by omega)), (ivW_other _ _ _ _ _ _ _ _ _ (by omega)).trans WW.out, _, rfl, Z.out.ivW HB.out _ _ _ _ _ _⟩
 by_cases h13 : op = 13
 ·obtain rfl := h13
  have ho : oneS p 13 a b c da db e = doI 8 c da p e := rfl
  rw [ho]
  have D := Lib.hid (do_c (op := 8) WK.out IC.out ID.out OC.out OD.out T.out p1 p2 OPS.out (DER.out 8 (by decide)))
  clear ho H9 H10 H13 H15 IT IA IB IE
  obtain ⟨-, f0, f1, f2, f3, f4, f5⟩ := H11.out.facts
  obtain ⟨-, g0, g1, g2, g3, g4, g5⟩ := H12.out.facts
  go_wp2_with fail
  refine D.out.mono ?_
  rintro e' w3 ⟨kb, hwk, u, rfl, hv⟩
  obtain ⟨P1, i1, q1, P2, i2, q2, rfl, z1, z2⟩ := ivR_split hv
  have h14 := H14.out.kb kb N14
  obtain ⟨-, r0, r1, r2, r3, r4, r5⟩ := h14.facts
  obtain ⟨x0, x1, x2, x3, x4, x5⟩ := h14.free
  have HB := Lib.hid h14
  have Z := Lib.hid hv
  have KK := Lib.hid ((K.out.kb [bw]).trans kb (by intro y hy; exact .inl hy))
  have WW := Lib.hid hwk
  clear h14 hv z1 z2 kb hwk D f0 f1 f2 f3 f4 f5 g0 g1 g2 g3 g4 g5 T WK
  simp only []
  go_wp2_with fail
  refine ret_iv (HB.out.laid _ _ _ _ _ _) rfl rfl rfl ⟨KK.out.trans ((KB.refl w3 [b14]).ivW HB.out (by simp) _ _ _ _ _ _) (by intro y hy; simp at hy; exact .inr (by omega)), (ivW_other _ _ _ _ _ _ _ _ _ (by omega)).trans WW.out, _, rfl, Z.out.ivW HB.out _ _ _ _ _ _⟩
 by_cases h8 : op = 8
 ·obtain rfl := h8
  obtain ⟨o1, ho1⟩ : ∃ o, o = doI 8 da b p e := ⟨_, rfl⟩
  obtain ⟨o2, ho2⟩ : ∃ o, o = doI 8 a db p o1.k := ⟨_, rfl⟩
  obtain ⟨o3, ho3⟩ : ∃ o, o = doI 6 o1.v o2.v p o2.k := ⟨_, rfl⟩
  have ho : oneS p 8 a b c da db e = o3 := by rw [ho3, ho2, ho1]; rfl
  have HO := Lib.hid ho
  have X1 := Lib.hid (show o1.v.Ok by rw [ho1]; exact doI_ok OD.out OB.out p1 _)
  have X2 := Lib.hid (show o2.v.Ok by rw [ho2]; exact doI_ok OA.out OE.out p1 _)
  have Y1 := Lib.hid ho1
  have Y2 := Lib.hid ho2
  have Y3 := Lib.hid ho3
  clear ho ho1 ho2 ho3
  have D := Lib.hid (show Calls _ _ _ V (RetWk bw p (rawO o1) V) by rw [Y1.out]; exact do_c WK.out ID.out IB.out OD.out OB.out T.out p1 p2 OPS.out (DER.out 8 (by decide)))
  obtain ⟨-, f0, f1, f2, f3, f4, f5⟩ := H12.out.facts
  obtain ⟨-, g0, g1, g2, g3, g4, g5⟩ := H10.out.facts
  go_wp2_with fail
  refine D.out.mono ?_
  rintro e' w3 ⟨kb, hwk, u, rfl, hv⟩
  obtain ⟨U1, i1, z1, U2, i2, z2, rfl, -, -⟩ := ivR_split hv
  simp only []
  obtain ⟨u0, hu0⟩ : ∃ x, x = (rawO o1).v.lo.neg := ⟨_, rfl⟩
  obtain ⟨u2, hu2⟩ : ∃ x, x = (rawO o1).v.lo.e := ⟨_, rfl⟩
  obtain ⟨u3, hu3⟩ : ∃ x, x = (rawO o1).v.hi.neg := ⟨_, rfl⟩
  obtain ⟨u5, hu5⟩ : ∃ x, x = (rawO o1).v.hi.e := ⟨_, rfl⟩
  rw [← hu0, ← hu2, ← hu3, ← hu5] at hv ⊢
  clear hu0 hu2 hu3 hu5
  obtain ⟨V2, hV, kV, B16, lV2⟩ := boxV w3 (.bool u0) (.slice U1 i1 z1) (.int .i64 u2) (.bool u3) (.slice U2 i2 z2) (.int .i64 u5)
  have k2 := kb.step kV
  have l2 := kb.size
  replace H9 := Lib.hid (H9.out.kb k2 N9); replace H13 := Lib.hid (H13.out.kb k2 N13); replace IA := Lib.hid (IA.out.kb k2); replace IE := Lib.hid (IE.out.kb k2)
  replace H14 := Lib.hid (H14.out.kb k2 N14)
  have H16 := Lib.hid B16
  have I16 := Lib.hid (show IvC V2 _ o1.v from hv.kept kV)
  replace WK := Lib.hid (hwk.kept kV)
  replace T := Lib.hid (T.out.kb k2 NG)
  have KK := Lib.hid ((K.out.kb [bw]).trans k2 (by intro y hy; exact .inl hy))
  have M16 : w3.heap.size ∉ [b14, bw] := by have := H14.out.facts.1; simp; omega
  go_upto_region 9 with fail
  rw [← hV]
  clear hV kV k2 kb hwk hv B16 D f0 f1 f2 f3 f4 f5 g0 g1 g2 g3 g4 g5 IB ID IC IT H10 H11 H12 H15 N10 N11 N12 N15
  generalize g16 : w3.heap.size = b16 at *
  refine region_linX (m := 8) (J := fun L w => KB V2 [b14, bw] w ∧ (fun L w => OneJ b14 bw p o1.k o2.k o3.k o3.v.raw (L 5) (L 6) (L 7) w) L w) (l := [(vP bw 0), (vE (.agg #[.bool u0, .slice U1 i1 z1, .int .i64 u2, .bool u3, .slice U2 i2 z2, .int .i64 u5])), (vP bw 0), (vE (.agg #[a0, a1, a2, a3, a4, a5])), (vE (.agg #[e0, e1, e2, e3, e4, e5])), (fun v wv => IvR wv v o2.v.raw), (fun v wv => IvR wv v o3.v.raw), (fun v _ => True)])
   (by kernel_rfl) rfl (by kernel_rfl) (by kernel_rfl) (by kernel_rfl) ⟨mE, mE, mE, mE, mE, fun v w w' k h => by first | exact h | exact h.kept k | exact ⟨h.1, h.2.kept k⟩, fun v w w' k h => by first | exact h | exact h.kept k | exact ⟨h.1, h.2.kept k⟩, fun v w w' k h => by first | exact h | exact h.kept k | exact ⟨h.1, h.2.kept k⟩, trivial⟩ ⟨(KB.refl _ _).drew, (by exact ⟨⟨_, _, _, _, _, _, _, _, _, _, H14.out, fun h => absurd h (by decide)⟩, WK.out, fun h => absurd h (by decide)⟩)⟩ (⟨
     (fun LF aF wF F => by have FK : KB V2 [b14, bw] wF := F.frame.1; have fj := F.frame.2; refine .inl ⟨fun wq kq => ⟨FK.step kq, by exact OneJ.kept kq fj⟩, ?_⟩; have s0 : aF.tmps.getD 0 undef = (.pointer (some ⟨bw, 0, none⟩)) := F.o 0; exact sv rfl), (fun LF aF wF F => by have FK : KB V2 [b14, bw] wF := F.frame.1; have fj := F.frame.2; refine .inl ⟨fun wq kq => ⟨FK.step kq, by exact OneJ.kept kq fj⟩, ?_⟩; have s16 : aF.tmps.getD 16 undef = (.pointer (some ⟨b16, 0, none⟩)) := F.o 16; have c0 := cell_atX H16.out FK M16 0 _ rfl; have c1 := cell_atX H16.out FK M16 1 _ rfl; have c2 := cell_atX H16.out FK M16 2 _ rfl; have c3 := cell_atX H16.out FK M16 3 _ rfl; have c4 := cell_atX H16.out FK M16 4 _ rfl; have c5 := cell_atX H16.out FK M16 5 _ rfl; exact sv rfl), (fun LF aF wF F => by have FK : KB V2 [b14, bw] wF := F.frame.1; have fj := F.frame.2; refine .inl ⟨fun wq kq => ⟨FK.step kq, by exact OneJ.kept kq fj⟩, ?_⟩; have s0 : aF.tmps.getD 0 undef = (.pointer (some ⟨bw, 0, none⟩)) := F.o 0; exact sv rfl), (fun LF aF wF F => by have FK : KB V2 [b14, bw] wF := F.frame.1; have fj := F.frame.2; refine .inl ⟨fun wq kq => ⟨FK.step kq, by exact OneJ.kept kq fj⟩, ?_⟩; have s9 : aF.tmps.getD 9 undef = (.pointer (some ⟨b9, 0, none⟩)) := F.o 9; have c0 := cell_atX H9.out FK M9 0 _ rfl; have c1 := cell_atX H9.out FK M9 1 _ rfl; have c2 := cell_atX H9.out FK M9 2 _ rfl; have c3 := cell_atX H9.out FK M9 3 _ rfl; have c4 := cell_atX H9.out FK M9 4 _ rfl; have c5 := cell_atX H9.out FK M9 5 _ rfl; exact sv rfl), (fun LF aF wF F => by have FK : KB V2 [b14, bw] wF := F.frame.1; have fj := F.frame.2; refine .inl ⟨fun wq kq => ⟨FK.step kq, by exact OneJ.kept kq fj⟩, ?_⟩; have s13 : aF.tmps.getD 13 undef = (.pointer (some ⟨b13, 0, none⟩)) := F.o 13; have c0 := cell_atX H13.out FK M13 0 _ rfl; have c1 := cell_atX H13.out FK M13 1 _ rfl; have c2 := cell_atX H13.out FK M13 2 _ rfl; have c3 := cell_atX H13.out FK M13 3 _ rfl; have c4 := cell_atX H13.out FK M13 4 _ rfl; have c5 := cell_atX H13.out FK M13 5 _ rfl; exact sv rfl), (fun LF aF wF F => by have FK : KB V2 [b14, bw] wF := F.frame.1; have fj := F.frame.2; refine .inr ?_; have s37 := F.v 2 37; have s38 := F.v 3 38; have s39 := F.v 4 39; have fw := (OneJ.parts fj).2.1; simp only [F.yet, Bool.false_eq_true, if_false] at fw; have DD := do_c (op := 8) fw (IA.out.kb FK) (IE.out.kb FK) OA.out OE.out (T.out.kb FK MG) p1 p2 OPS.out (DER.out 8 (by decide)); rw [← Y2.out] at DD; exact stepG_call (by simp [Region.wanted]) (by go_simp) DD (fun e1 w1 he => by obtain ⟨kb, hwk, u, rfl, hv⟩ := he; exact ⟨u, rfl, ⟨⟨FK.trans kb (by simp), OneJ.first NE fj F.yet kb hwk⟩, (stab_of _ ⟨.inr vS, .inr vS, .inr vS, .inr vS, .inr vS, .inl rfl, .inr (fun u h => by exact h.kb kb), .inr (fun u h => h), trivial⟩)⟩, hv⟩)), (fun LF aF wF F => by have FK : KB V2 [b14, bw] wF := F.frame.1; have fj := F.frame.2; refine .inr ?_; have s35 := F.v 0 35; have s36 := F.v 1 36; have s40 := F.p 5 40; have fw := (OneJ.parts fj).2.1; have f5 := F.wait 5 (by kernel_rfl); simp only [F.yet, f5, Bool.false_eq_true, if_false, if_true] at fw; have DD := do_c (op := 6) fw (I16.out.kb FK) s40 X1.out X2.out (T.out.kb FK MG) p1 p2 OPS.out (DER.out 6 (by decide)); rw [← Y3.out] at DD; exact stepG_call (by simp [Region.wanted]) (by go_simp) DD (fun e1 w1 he => by obtain ⟨kb, hwk, u, rfl, hv⟩ := he; exact ⟨u, rfl, ⟨⟨FK.trans kb (by simp), OneJ.second NE fj f5 kb hwk⟩, (stab_of _ ⟨.inr vS, .inr vS, .inr vS, .inr vS, .inr vS, .inr (fun u h => by exact h.kb kb), .inl rfl, .inr (fun u h => h), trivial⟩)⟩, hv⟩)), (fun LF aF wF F => by have FK : KB V2 [b14, bw] wF := F.frame.1; have fj := F.frame.2; refine .inr ?_; have s14 : aF.tmps.getD 14 undef = (.pointer (some ⟨b14, 0, none⟩)) := F.o 14; have s41 := F.p 6 41; obtain ⟨P1, i1, k1, P2, i2, k2, ee, z1, z2⟩ := ivR_split s41; simp only [Array.getD_eq_getD_getElem?] at ee; obtain ⟨⟨_, _, _, _, _, _, _, _, _, _, hbb, -⟩, -, -⟩ := OneJ.parts fj; obtain ⟨-, q0, q1, q2, q3, q4, q5⟩ := hbb.facts; obtain ⟨g0, g1, g2, g3, g4, g5⟩ := hbb.free; exact stepG_store (w' := ivW wF b14 _ _ _ _ _ _) (by simp [Region.wanted]) (by go_simp; rfl) ⟨FK.ivW hbb (by simp) _ _ _ _ _ _, OneJ.laid NE fj (show IvR wF (.agg #[_, _, _, _, _, _]) o3.v.raw from ⟨_, _, _, _, _, _, rfl, z1, z2⟩)⟩ (stab_of _ ⟨.inr vS, .inr vS, .inr vS, .inr vS, .inr vS, .inr (fun u h => by exact h.ivW hbb _ _ _ _ _ _), .inr (fun u h => by exact h.ivW hbb _ _ _ _ _ _), .inl rfl, trivial⟩) trivial),
     trivial⟩) ?_
  intro u w1 L1 hL j1 hu
  obtain ⟨k1, j1⟩ := j1
  have p40 := hp hu 5
  have p41 := hp hu 6
  simp only [puts, slotOf, if_true, Act.put, List.setIfInBounds_toArray, List.set_cons_zero, List.set_cons_succ, List.getElem?_toArray, List.getElem?_cons_zero, List.getElem?_cons_succ, Option.bind_some, hv hu 0, hv hu 1, hv hu 2, hv hu 3, hv hu 4]
  clear hu
  generalize u 5 = v40 at *
  generalize u 6 = v41 at *
  have jj : OneJ b14 bw p o1.k o2.k o3.k o3.v.raw true true true w1 := by
   have jj := j1
   simp only [hL 5 (by decide), hL 6 (by decide), hL 7 (by decide)] at jj
   exact jj
  obtain ⟨⟨_, _, _, _, _, _, _, _, _, _, hb14, hiv⟩, hwk⟩ := jj.done
  have Z := Lib.hid hiv
  have WW := Lib.hid hwk
  have HB := Lib.hid hb14
  have KF := Lib.hid (KK.out.trans k1 (by intro y hy; simp at hy; rcases hy with rfl | rfl; exact .inr (by omega); exact .inl (by simp)))
  clear j1 hL jj hiv hwk hb14 k1
  go_simp
  go_wp2_with fail
  exact ret_iv HB.out rfl rfl rfl ⟨KF.out, by rw [HO.out]; exact WW.out, _, rfl, by rw [HO.out]; exact Z.out⟩
 by_cases h9' : op = 9
 ·obtain rfl := h9'
  obtain ⟨o1, ho1⟩ : ∃ o, o = doI 8 c db p e := ⟨_, rfl⟩
  obtain ⟨o2, ho2⟩ : ∃ o, o = doI 7 da o1.v p o1.k := ⟨_, rfl⟩
  obtain ⟨o3, ho3⟩ : ∃ o, o = doI 9 o2.v b p o2.k := ⟨_, rfl⟩
  have ho : oneS p 9 a b c da db e = o3 := by rw [ho3, ho2, ho1]; rfl
  have HO := Lib.hid ho
  have X1 := Lib.hid (show o1.v.Ok by rw [ho1]; exact doI_ok OC.out OE.out p1 _)
  have X2 := Lib.hid (show o2.v.Ok by rw [ho2]; exact doI_ok OD.out X1.out p1 _)
  have Y1 := Lib.hid ho1
  have Y2 := Lib.hid ho2
  have Y3 := Lib.hid ho3
  clear ho ho1 ho2 ho3
  have D := Lib.hid (show Calls _ _ _ V (RetWk bw p (rawO o1) V) by rw [Y1.out]; exact do_c WK.out IC.out IE.out OC.out OE.out T.out p1 p2 OPS.out (DER.out 8 (by decide)))
  obtain ⟨-, f0, f1, f2, f3, f4, f5⟩ := H11.out.facts
  obtain ⟨-, g0, g1, g2, g3, g4, g5⟩ := H13.out.facts
  go_wp2_with fail
  refine D.out.mono ?_
  rintro e' w3 ⟨kb, hwk, u, rfl, hv⟩
  obtain ⟨U1, i1, z1, U2, i2, z2, rfl, -, -⟩ := ivR_split hv
  simp only []
  obtain ⟨u0, hu0⟩ : ∃ x, x = (rawO o1).v.lo.neg := ⟨_, rfl⟩
  obtain ⟨u2, hu2⟩ : ∃ x, x = (rawO o1).v.lo.e := ⟨_, rfl⟩
  obtain ⟨u3, hu3⟩ : ∃ x, x = (rawO o1).v.hi.neg := ⟨_, rfl⟩
  obtain ⟨u5, hu5⟩ : ∃ x, x = (rawO o1).v.hi.e := ⟨_, rfl⟩
  rw [← hu0, ← hu2, ← hu3, ← hu5] at hv ⊢
  clear hu0 hu2 hu3 hu5
  obtain ⟨V2, hV, kV, B16, lV2⟩ := boxV w3 (.bool u0) (.slice U1 i1 z1) (.int .i64 u2) (.bool u3) (.slice U2 i2 z2) (.int .i64 u5)
  have k2 := kb.step kV
  have l2 := kb.size
  replace H10 := Lib.hid (H10.out.kb k2 N10); replace H12 := Lib.hid (H12.out.kb k2 N12); replace IB := Lib.hid (IB.out.kb k2); replace ID := Lib.hid (ID.out.kb k2)
  replace H14 := Lib.hid (H14.out.kb k2 N14)
  have H16 := Lib.hid B16
  have I16 := Lib.hid (show IvC V2 _ o1.v from hv.kept kV)
  replace WK := Lib.hid (hwk.kept kV)
  replace T := Lib.hid (T.out.kb k2 NG)
  have KK := Lib.hid ((K.out.kb [bw]).trans k2 (by intro y hy; exact .inl hy))
  have M16 : w3.heap.size ∉ [b14, bw] := by have := H14.out.facts.1; simp; omega
  go_upto_region 12 with fail
  rw [← hV]
  clear hV kV k2 kb hwk hv B16 D f0 f1 f2 f3 f4 f5 g0 g1 g2 g3 g4 g5 IA IE IC IT H9 H11 H13 H15 N9 N11 N13 N15
  generalize g16 : w3.heap.size = b16 at *
  refine region_linX (m := 8) (J := fun L w => KB V2 [b14, bw] w ∧ (fun L w => OneJ b14 bw p o1.k o2.k o3.k o3.v.raw (L 4) (L 6) (L 7) w) L w) (l := [(vP bw 0), (vP bw 0), (vE (.agg #[d0, d1, d2, d3, d4, d5])), (vE (.agg #[.bool u0, .slice U1 i1 z1, .int .i64 u2, .bool u3, .slice U2 i2 z2, .int .i64 u5])), (fun v wv => IvR wv v o2.v.raw), (vE (.agg #[b0, b1, b2, b3, b4, b5])), (fun v wv => IvR wv v o3.v.raw), (fun v _ => True)])
   (by kernel_rfl) rfl (by kernel_rfl) (by kernel_rfl) (by kernel_rfl) ⟨mE, mE, mE, mE, fun v w w' k h => by first | exact h | exact h.kept k | exact ⟨h.1, h.2.kept k⟩, mE, fun v w w' k h => by first | exact h | exact h.kept k | exact ⟨h.1, h.2.kept k⟩, fun v w w' k h => by first | exact h | exact h.kept k | exact ⟨h.1, h.2.kept k⟩, trivial⟩ ⟨(KB.refl _ _).drew, (by exact ⟨⟨_, _, _, _, _, _, _, _, _, _, H14.out, fun h => absurd h (by decide)⟩, WK.out, fun h => absurd h (by decide)⟩)⟩ (⟨
     (fun LF aF wF F => by have FK : KB V2 [b14, bw] wF := F.frame.1; have fj := F.frame.2; refine .inl ⟨fun wq kq => ⟨FK.step kq, by exact OneJ.kept kq fj⟩, ?_⟩; have s0 : aF.tmps.getD 0 undef = (.pointer (some ⟨bw, 0, none⟩)) := F.o 0; exact sv rfl), (fun LF aF wF F => by have FK : KB V2 [b14, bw] wF := F.frame.1; have fj := F.frame.2; refine .inl ⟨fun wq kq => ⟨FK.step kq, by exact OneJ.kept kq fj⟩, ?_⟩; have s0 : aF.tmps.getD 0 undef = (.pointer (some ⟨bw, 0, none⟩)) := F.o 0; exact sv rfl), (fun LF aF wF F => by have FK : KB V2 [b14, bw] wF := F.frame.1; have fj := F.frame.2; refine .inl ⟨fun wq kq => ⟨FK.step kq, by exact OneJ.kept kq fj⟩, ?_⟩; have s12 : aF.tmps.getD 12 undef = (.pointer (some ⟨b12, 0, none⟩)) := F.o 12; have c0 := cell_atX H12.out FK M12 0 _ rfl; have c1 := cell_atX H12.out FK M12 1 _ rfl; have c2 := cell_atX H12.out FK M12 2 _ rfl; have c3 := cell_atX H12.out FK M12 3 _ rfl; have c4 := cell_atX H12.out FK M12 4 _ rfl; have c5 := cell_atX H12.out FK M12 5 _ rfl; exact sv rfl), (fun LF aF wF F => by have FK : KB V2 [b14, bw] wF := F.frame.1; have fj := F.frame.2; refine .inl ⟨fun wq kq => ⟨FK.step kq, by exact OneJ.kept kq fj⟩, ?_⟩; have s17 : aF.tmps.getD 17 undef = (.pointer (some ⟨b16, 0, none⟩)) := F.o 17; have c0 := cell_atX H16.out FK M16 0 _ rfl; have c1 := cell_atX H16.out FK M16 1 _ rfl; have c2 := cell_atX H16.out FK M16 2 _ rfl; have c3 := cell_atX H16.out FK M16 3 _ rfl; have c4 := cell_atX H16.out FK M16 4 _ rfl; have c5 := cell_atX H16.out FK M16 5 _ rfl; exact sv rfl), (fun LF aF wF F => by have FK : KB V2 [b14, bw] wF := F.frame.1; have fj := F.frame.2; refine .inr ?_; have s49 := F.v 1 49; have s50 := F.v 2 50; have s51 := F.v 3 51; have fw := (OneJ.parts fj).2.1; simp only [F.yet, Bool.false_eq_true, if_false] at fw; have DD := do_c (op := 7) fw (ID.out.kb FK) (I16.out.kb FK) OD.out X1.out (T.out.kb FK MG) p1 p2 OPS.out (DER.out 7 (by decide)); rw [← Y2.out] at DD; exact stepG_call (by simp [Region.wanted]) (by go_simp) DD (fun e1 w1 he => by obtain ⟨kb, hwk, u, rfl, hv⟩ := he; exact ⟨u, rfl, ⟨⟨FK.trans kb (by simp), OneJ.first NE fj F.yet kb hwk⟩, (stab_of _ ⟨.inr vS, .inr vS, .inr vS, .inr vS, .inl rfl, .inr vS, .inr (fun u h => by exact h.kb kb), .inr (fun u h => h), trivial⟩)⟩, hv⟩)), (fun LF aF wF F => by have FK : KB V2 [b14, bw] wF := F.frame.1; have fj := F.frame.2; refine .inl ⟨fun wq kq => ⟨FK.step kq, by exact OneJ.kept kq fj⟩, ?_⟩; have s10 : aF.tmps.getD 10 undef = (.pointer (some ⟨b10, 0, none⟩)) := F.o 10; have c0 := cell_atX H10.out FK M10 0 _ rfl; have c1 := cell_atX H10.out FK M10 1 _ rfl; have c2 := cell_atX H10.out FK M10 2 _ rfl; have c3 := cell_atX H10.out FK M10 3 _ rfl; have c4 := cell_atX H10.out FK M10 4 _ rfl; have c5 := cell_atX H10.out FK M10 5 _ rfl; exact sv rfl), (fun LF aF wF F => by have FK : KB V2 [b14, bw] wF := F.frame.1; have fj := F.frame.2; refine .inr ?_; have s48 := F.v 0 48; have s52 := F.p 4 52; have s53 := F.v 5 53; have fw := (OneJ.parts fj).2.1; have f5 := F.wait 4 (by kernel_rfl); simp only [F.yet, f5, Bool.false_eq_true, if_false, if_true] at fw; have DD := do_c (op := 9) fw s52 (IB.out.kb FK) X2.out OB.out (T.out.kb FK MG) p1 p2 OPS.out (DER.out 9 (by decide)); rw [← Y3.out] at DD; exact stepG_call (by simp [Region.wanted]) (by go_simp) DD (fun e1 w1 he => by obtain ⟨kb, hwk, u, rfl, hv⟩ := he; exact ⟨u, rfl, ⟨⟨FK.trans kb (by simp), OneJ.second NE fj f5 kb hwk⟩, (stab_of _ ⟨.inr vS, .inr vS, .inr vS, .inr vS, .inr (fun u h => by exact h.kb kb), .inr vS, .inl rfl, .inr (fun u h => h), trivial⟩)⟩, hv⟩)), (fun LF aF wF F => by have FK : KB V2 [b14, bw] wF := F.frame.1; have fj := F.frame.2; refine .inr ?_; have s14 : aF.tmps.getD 14 undef = (.pointer (some ⟨b14, 0, none⟩)) := F.o 14; have s54 := F.p 6 54; obtain ⟨P1, i1, k1, P2, i2, k2, ee, z1, z2⟩ := ivR_split s54; simp only [Array.getD_eq_getD_getElem?] at ee; obtain ⟨⟨_, _, _, _, _, _, _, _, _, _, hbb, -⟩, -, -⟩ := OneJ.parts fj; obtain ⟨-, q0, q1, q2, q3, q4, q5⟩ := hbb.facts; obtain ⟨g0, g1, g2, g3, g4, g5⟩ := hbb.free; exact stepG_store (w' := ivW wF b14 _ _ _ _ _ _) (by simp [Region.wanted]) (by go_simp; rfl) ⟨FK.ivW hbb (by simp) _ _ _ _ _ _, OneJ.laid NE fj (show IvR wF (.agg #[_, _, _, _, _, _]) o3.v.raw from ⟨_, _, _, _, _, _, rfl, z1, z2⟩)⟩ (stab_of _ ⟨.inr vS, .inr vS, .inr vS, .inr vS, .inr (fun u h => by exact h.ivW hbb _ _ _ _ _ _), .inr vS, .inr (fun u h => by exact h.ivW hbb _ _ _ _ _ _), .inl rfl, trivial⟩) trivial),
     trivial⟩) ?_
  intro u w1 L1 hL j1 hu
  obtain ⟨k1, j1⟩ := j1
  have p52 := hp hu 4
  have p54 := hp hu 6
  simp only [puts, slotOf, if_true, Act.put, List.setIfInBounds_toArray, List.set_cons_zero, List.set_cons_succ, List.getElem?_toArray, List.getElem?_cons_zero, List.getElem?_cons_succ, Option.bind_some, hv hu 0, hv hu 1, hv hu 2, hv hu 3, hv hu 5]
  clear hu
  generalize u 4 = v52 at *
  generalize u 6 = v54 at *
  have jj : OneJ b14 bw p o1.k o2.k o3.k o3.v.raw true true true w1 := by
   have jj := j1
   simp only [hL 4 (by decide), hL 6 (by decide), hL 7 (by decide)] at jj
   exact jj
  obtain ⟨⟨_, _, _, _, _, _, _, _, _, _, hb14, hiv⟩, hwk⟩ := jj.done
  have Z := Lib.hid hiv
  have WW := Lib.hid hwk
  have HB := Lib.hid hb14
  have KF := Lib.hid (KK.out.trans k1 (by intro y hy; simp at hy; rcases hy with rfl | rfl; exact .inr (by omega); exact .inl (by simp)))
  clear j1 hL jj hiv hwk hb14 k1
  go_simp
  go_wp2_with fail
  exact ret_iv HB.out rfl rfl rfl ⟨KF.out, by rw [HO.out]; exact WW.out, _, rfl, by rw [HO.out]; exact Z.out⟩
 by_cases h11 : op = 11
 ·obtain rfl := h11
  obtain ⟨o2, ho2⟩ : ∃ o, o = doI 8 two a p e := ⟨_, rfl⟩
  obtain ⟨o3, ho3⟩ : ∃ o, o = doI 8 o2.v da p o2.k := ⟨_, rfl⟩
  have ho : oneS p 11 a b c da db e = o3 := by rw [ho3, ho2]; rfl
  have HO := Lib.hid ho
  have X2 := Lib.hid (show o2.v.Ok by rw [ho2]; exact doI_ok two_ok OA.out p1 _)
  have Y2 := Lib.hid ho2
  have Y3 := Lib.hid ho3
  clear ho ho2 ho3
  have KK := Lib.hid (K.out.kb [bw])
  go_upto_region 14 with fail
  refine region_linX (m := 8) (J := fun L w => KB V [b14, bw] w ∧ (fun L w => OneJ b14 bw p e o2.k o3.k o3.v.raw (L 4) (L 6) (L 7) w) L w) (l := [(vP bw 0), (vP bw 0), (vE (.agg #[.bool t0, .slice T1 jt yt, .int .i64 t2, .bool t3, .slice T2 js ys, .int .i64 t5])), (vE (.agg #[a0, a1, a2, a3, a4, a5])), (fun v wv => IvR wv v o2.v.raw), (vE (.agg #[d0, d1, d2, d3, d4, d5])), (fun v wv => IvR wv v o3.v.raw), (fun v _ => True)])
   (by kernel_rfl) rfl (by kernel_rfl) (by kernel_rfl) (by kernel_rfl) ⟨mE, mE, mE, mE, fun v w w' k h => by first | exact h | exact h.kept k | exact ⟨h.1, h.2.kept k⟩, mE, fun v w w' k h => by first | exact h | exact h.kept k | exact ⟨h.1, h.2.kept k⟩, fun v w w' k h => by first | exact h | exact h.kept k | exact ⟨h.1, h.2.kept k⟩, trivial⟩ ⟨(KB.refl _ _).drew, (by exact ⟨⟨_, _, _, _, _, _, _, _, _, _, H14.out, fun h => absurd h (by decide)⟩, WK.out, fun h => absurd h (by decide)⟩)⟩ (⟨
     (fun LF aF wF F => by have FK : KB V [b14, bw] wF := F.frame.1; have fj := F.frame.2; refine .inl ⟨fun wq kq => ⟨FK.step kq, by exact OneJ.kept kq fj⟩, ?_⟩; have s0 : aF.tmps.getD 0 undef = (.pointer (some ⟨bw, 0, none⟩)) := F.o 0; exact sv rfl), (fun LF aF wF F => by have FK : KB V [b14, bw] wF := F.frame.1; have fj := F.frame.2; refine .inl ⟨fun wq kq => ⟨FK.step kq, by exact OneJ.kept kq fj⟩, ?_⟩; have s0 : aF.tmps.getD 0 undef = (.pointer (some ⟨bw, 0, none⟩)) := F.o 0; exact sv rfl), (fun LF aF wF F => by have FK : KB V [b14, bw] wF := F.frame.1; have fj := F.frame.2; refine .inl ⟨fun wq kq => ⟨FK.step kq, by exact OneJ.kept kq fj⟩, ?_⟩; have s15 : aF.tmps.getD 15 undef = (.pointer (some ⟨b15, 0, none⟩)) := F.o 15; have c0 := cell_atX H15.out FK M15 0 _ rfl; have c1 := cell_atX H15.out FK M15 1 _ rfl; have c2 := cell_atX H15.out FK M15 2 _ rfl; have c3 := cell_atX H15.out FK M15 3 _ rfl; have c4 := cell_atX H15.out FK M15 4 _ rfl; have c5 := cell_atX H15.out FK M15 5 _ rfl; exact sv rfl), (fun LF aF wF F => by have FK : KB V [b14, bw] wF := F.frame.1; have fj := F.frame.2; refine .inl ⟨fun wq kq => ⟨FK.step kq, by exact OneJ.kept kq fj⟩, ?_⟩; have s9 : aF.tmps.getD 9 undef = (.pointer (some ⟨b9, 0, none⟩)) := F.o 9; have c0 := cell_atX H9.out FK M9 0 _ rfl; have c1 := cell_atX H9.out FK M9 1 _ rfl; have c2 := cell_atX H9.out FK M9 2 _ rfl; have c3 := cell_atX H9.out FK M9 3 _ rfl; have c4 := cell_atX H9.out FK M9 4 _ rfl; have c5 := cell_atX H9.out FK M9 5 _ rfl; exact sv rfl), (fun LF aF wF F => by have FK : KB V [b14, bw] wF := F.frame.1; have fj := F.frame.2; refine .inr ?_; have s58 := F.v 1 58; have s59 := F.v 2 59; have s60 := F.v 3 60; have fw := (OneJ.parts fj).2.1; simp only [F.yet, Bool.false_eq_true, if_false] at fw; have DD := do_c (op := 8) fw (IT.out.kb FK) (IA.out.kb FK) two_ok OA.out (T.out.kb FK MG) p1 p2 OPS.out (DER.out 8 (by decide)); rw [← Y2.out] at DD; exact stepG_call (by simp [Region.wanted]) (by go_simp) DD (fun e1 w1 he => by obtain ⟨kb, hwk, u, rfl, hv⟩ := he; exact ⟨u, rfl, ⟨⟨FK.trans kb (by simp), OneJ.first NE fj F.yet kb hwk⟩, (stab_of _ ⟨.inr vS, .inr vS, .inr vS, .inr vS, .inl rfl, .inr vS, .inr (fun u h => by exact h.kb kb), .inr (fun u h => h), trivial⟩)⟩, hv⟩)), (fun LF aF wF F => by have FK : KB V [b14, bw] wF := F.frame.1; have fj := F.frame.2; refine .inl ⟨fun wq kq => ⟨FK.step kq, by exact OneJ.kept kq fj⟩, ?_⟩; have s12 : aF.tmps.getD 12 undef = (.pointer (some ⟨b12, 0, none⟩)) := F.o 12; have c0 := cell_atX H12.out FK M12 0 _ rfl; have c1 := cell_atX H12.out FK M12 1 _ rfl; have c2 := cell_atX H12.out FK M12 2 _ rfl; have c3 := cell_atX H12.out FK M12 3 _ rfl; have c4 := cell_atX H12.out FK M12 4 _ rfl; have c5 := cell_atX H12.out FK M12 5 _ rfl; exact sv rfl), (fun LF aF wF F => by have FK : KB V [b14, bw] wF := F.frame.1; have fj := F.frame.2; refine .inr ?_; have s57 := F.v 0 57; have s61 := F.p 4 61; have s62 := F.v 5 62; have fw := (OneJ.parts fj).2.1; have f5 := F.wait 4 (by kernel_rfl); simp only [F.yet, f5, Bool.false_eq_true, if_false, if_true] at fw; have DD := do_c (op := 8) fw s61 (ID.out.kb FK) X2.out OD.out (T.out.kb FK MG) p1 p2 OPS.out (DER.out 8 (by decide)); rw [← Y3.out] at DD; exact stepG_call (by simp [Region.wanted]) (by go_simp) DD (fun e1 w1 he => by obtain ⟨kb, hwk, u, rfl, hv⟩ := he; exact ⟨u, rfl, ⟨⟨FK.trans kb (by simp), OneJ.second NE fj f5 kb hwk⟩, (stab_of _ ⟨.inr vS, .inr vS, .inr vS, .inr vS, .inr (fun u h => by exact h.kb kb), .inr vS, .inl rfl, .inr (fun u h => h), trivial⟩)⟩, hv⟩)), (fun LF aF wF F => by have FK : KB V [b14, bw] wF := F.frame.1; have fj := F.frame.2; refine .inr ?_; have s14 : aF.tmps.getD 14 undef = (.pointer (some ⟨b14, 0, none⟩)) := F.o 14; have s63 := F.p 6 63; obtain ⟨P1, i1, k1, P2, i2, k2, ee, z1, z2⟩ := ivR_split s63; simp only [Array.getD_eq_getD_getElem?] at ee; obtain ⟨⟨_, _, _, _, _, _, _, _, _, _, hbb, -⟩, -, -⟩ := OneJ.parts fj; obtain ⟨-, q0, q1, q2, q3, q4, q5⟩ := hbb.facts; obtain ⟨g0, g1, g2, g3, g4, g5⟩ := hbb.free; exact stepG_store (w' := ivW wF b14 _ _ _ _ _ _) (by simp [Region.wanted]) (by go_simp; rfl) ⟨FK.ivW hbb (by simp) _ _ _ _ _ _, OneJ.laid NE fj (show IvR wF (.agg #[_, _, _, _, _, _]) o3.v.raw from ⟨_, _, _, _, _, _, rfl, z1, z2⟩)⟩ (stab_of _ ⟨.inr vS, .inr vS, .inr vS, .inr vS, .inr (fun u h => by exact h.ivW hbb _ _ _ _ _ _), .inr vS, .inr (fun u h => by exact h.ivW hbb _ _ _ _ _ _), .inl rfl, trivial⟩) trivial),
     trivial⟩) ?_
  intro u w1 L1 hL j1 hu
  obtain ⟨k1, j1⟩ := j1
  have p61 := hp hu 4
  have p63 := hp hu 6
  simp only [puts, slotOf, if_true, Act.put, List.setIfInBounds_toArray, List.set_cons_zero, List.set_cons_succ, List.getElem?_toArray, List.getElem?_cons_zero, List.getElem?_cons_succ, Option.bind_some, hv hu 0, hv hu 1, hv hu 2, hv hu 3, hv hu 5]
  clear hu
  generalize u 4 = v61 at *
  generalize u 6 = v63 at *
  have jj : OneJ b14 bw p e o2.k o3.k o3.v.raw true true true w1 := by
   have jj := j1
   simp only [hL 4 (by decide), hL 6 (by decide), hL 7 (by decide)] at jj
   exact jj
  obtain ⟨⟨_, _, _, _, _, _, _, _, _, _, hb14, hiv⟩, hwk⟩ := jj.done
  have Z := Lib.hid hiv
  have WW := Lib.hid hwk
  have HB := Lib.hid hb14
  have KF := Lib.hid (KK.out.trans k1 (by intro y hy; simp at hy; rcases hy with rfl | rfl; exact .inr (by omega); exact .inl (by simp)))
  clear j1 hL jj hiv hwk hb14 k1
  go_simp
  go_wp2_with fail
  exact ret_iv HB.out rfl rfl rfl ⟨KF.out, by rw [HO.out]; exact WW.out, _, rfl, by rw [HO.out]; exact Z.out⟩
 by_cases h12 : op = 12
 ·obtain rfl := h12
  obtain ⟨o2, ho2⟩ : ∃ o, o = doI 8 two c p e := ⟨_, rfl⟩
  obtain ⟨o3, ho3⟩ : ∃ o, o = doI 9 da o2.v p o2.k := ⟨_, rfl⟩
  have ho : oneS p 12 a b c da db e = o3 := by rw [ho3, ho2]; rfl
  have HO := Lib.hid ho
  have X2 := Lib.hid (show o2.v.Ok by rw [ho2]; exact doI_ok two_ok OC.out p1 _)
  have Y2 := Lib.hid ho2
  have Y3 := Lib.hid ho3
  clear ho ho2 ho3
  have KK := Lib.hid (K.out.kb [bw])
  go_upto_region 16 with fail
  refine region_linX (m := 8) (J := fun L w => KB V [b14, bw] w ∧ (fun L w => OneJ b14 bw p e o2.k o3.k o3.v.raw (L 5) (L 6) (L 7) w) L w) (l := [(vP bw 0), (vE (.agg #[d0, d1, d2, d3, d4, d5])), (vP bw 0), (vE (.agg #[.bool t0, .slice T1 jt yt, .int .i64 t2, .bool t3, .slice T2 js ys, .int .i64 t5])), (vE (.agg #[c0, c1, c2, c3, c4, c5])), (fun v wv => IvR wv v o2.v.raw), (fun v wv => IvR wv v o3.v.raw), (fun v _ => True)])
   (by kernel_rfl) rfl (by kernel_rfl) (by kernel_rfl) (by kernel_rfl) ⟨mE, mE, mE, mE, mE, fun v w w' k h => by first | exact h | exact h.kept k | exact ⟨h.1, h.2.kept k⟩, fun v w w' k h => by first | exact h | exact h.kept k | exact ⟨h.1, h.2.kept k⟩, fun v w w' k h => by first | exact h | exact h.kept k | exact ⟨h.1, h.2.kept k⟩, trivial⟩ ⟨(KB.refl _ _).drew, (by exact ⟨⟨_, _, _, _, _, _, _, _, _, _, H14.out, fun h => absurd h (by decide)⟩, WK.out, fun h => absurd h (by decide)⟩)⟩ (⟨
     (fun LF aF wF F => by have FK : KB V [b14, bw] wF := F.frame.1; have fj := F.frame.2; refine .inl ⟨fun wq kq => ⟨FK.step kq, by exact OneJ.kept kq fj⟩, ?_⟩; have s0 : aF.tmps.getD 0 undef = (.pointer (some ⟨bw, 0, none⟩)) := F.o 0; exact sv rfl), (fun LF aF wF F => by have FK : KB V [b14, bw] wF := F.frame.1; have fj := F.frame.2; refine .inl ⟨fun wq kq => ⟨FK.step kq, by exact OneJ.kept kq fj⟩, ?_⟩; have s12 : aF.tmps.getD 12 undef = (.pointer (some ⟨b12, 0, none⟩)) := F.o 12; have c0 := cell_atX H12.out FK M12 0 _ rfl; have c1 := cell_atX H12.out FK M12 1 _ rfl; have c2 := cell_atX H12.out FK M12 2 _ rfl; have c3 := cell_atX H12.out FK M12 3 _ rfl; have c4 := cell_atX H12.out FK M12 4 _ rfl; have c5 := cell_atX H12.out FK M12 5 _ rfl; exact sv rfl), (fun LF aF wF F => by have FK : KB V [b14, bw] wF := F.frame.1; have fj := F.frame.2; refine .inl ⟨fun wq kq => ⟨FK.step kq, by exact OneJ.kept kq fj⟩, ?_⟩; have s0 : aF.tmps.getD 0 undef = (.pointer (some ⟨bw, 0, none⟩)) := F.o 0; exact sv rfl), (fun LF aF wF F => by have FK : KB V [b14, bw] wF := F.frame.1; have fj := F.frame.2; refine .inl ⟨fun wq kq => ⟨FK.step kq, by exact OneJ.kept kq fj⟩, ?_⟩; have s15 : aF.tmps.getD 15 undef = (.pointer (some ⟨b15, 0, none⟩)) := F.o 15; have c0 := cell_atX H15.out FK M15 0 _ rfl; have c1 := cell_atX H15.out FK M15 1 _ rfl; have c2 := cell_atX H15.out FK M15 2 _ rfl; have c3 := cell_atX H15.out FK M15 3 _ rfl; have c4 := cell_atX H15.out FK M15 4 _ rfl; have c5 := cell_atX H15.out FK M15 5 _ rfl; exact sv rfl), (fun LF aF wF F => by have FK : KB V [b14, bw] wF := F.frame.1; have fj := F.frame.2; refine .inl ⟨fun wq kq => ⟨FK.step kq, by exact OneJ.kept kq fj⟩, ?_⟩; have s11 : aF.tmps.getD 11 undef = (.pointer (some ⟨b11, 0, none⟩)) := F.o 11; have c0 := cell_atX H11.out FK M11 0 _ rfl; have c1 := cell_atX H11.out FK M11 1 _ rfl; have c2 := cell_atX H11.out FK M11 2 _ rfl; have c3 := cell_atX H11.out FK M11 3 _ rfl; have c4 := cell_atX H11.out FK M11 4 _ rfl; have c5 := cell_atX H11.out FK M11 5 _ rfl; exact sv rfl), (fun LF aF wF F => by have FK : KB V [b14, bw] wF := F.frame.1; have fj := F.frame.2; refine .inr ?_; have s68 := F.v 2 68; have s69 := F.v 3 69; have s70 := F.v 4 70; have fw := (OneJ.parts fj).2.1; simp only [F.yet, Bool.false_eq_true, if_false] at fw; have DD := do_c (op := 8) fw (IT.out.kb FK) (IC.out.kb FK) two_ok OC.out (T.out.kb FK MG) p1 p2 OPS.out (DER.out 8 (by decide)); rw [← Y2.out] at DD; exact stepG_call (by simp [Region.wanted]) (by go_simp) DD (fun e1 w1 he => by obtain ⟨kb, hwk, u, rfl, hv⟩ := he; exact ⟨u, rfl, ⟨⟨FK.trans kb (by simp), OneJ.first NE fj F.yet kb hwk⟩, (stab_of _ ⟨.inr vS, .inr vS, .inr vS, .inr vS, .inr vS, .inl rfl, .inr (fun u h => by exact h.kb kb), .inr (fun u h => h), trivial⟩)⟩, hv⟩)), (fun LF aF wF F => by have FK : KB V [b14, bw] wF := F.frame.1; have fj := F.frame.2; refine .inr ?_; have s66 := F.v 0 66; have s67 := F.v 1 67; have s71 := F.p 5 71; have fw := (OneJ.parts fj).2.1; have f5 := F.wait 5 (by kernel_rfl); simp only [F.yet, f5, Bool.false_eq_true, if_false, if_true] at fw; have DD := do_c (op := 9) fw (ID.out.kb FK) s71 OD.out X2.out (T.out.kb FK MG) p1 p2 OPS.out (DER.out 9 (by decide)); rw [← Y3.out] at DD; exact stepG_call (by simp [Region.wanted]) (by go_simp) DD (fun e1 w1 he => by obtain ⟨kb, hwk, u, rfl, hv⟩ := he; exact ⟨u, rfl, ⟨⟨FK.trans kb (by simp), OneJ.second NE fj f5 kb hwk⟩, (stab_of _ ⟨.inr vS, .inr vS, .inr vS, .inr vS, .inr vS, .inr (fun u h => by exact h.kb kb), .inl rfl, .inr (fun u h => h), trivial⟩)⟩, hv⟩)), (fun LF aF wF F => by have FK : KB V [b14, bw] wF := F.frame.1; have fj := F.frame.2; refine .inr ?_; have s14 : aF.tmps.getD 14 undef = (.pointer (some ⟨b14, 0, none⟩)) := F.o 14; have s72 := F.p 6 72; obtain ⟨P1, i1, k1, P2, i2, k2, ee, z1, z2⟩ := ivR_split s72; simp only [Array.getD_eq_getD_getElem?] at ee; obtain ⟨⟨_, _, _, _, _, _, _, _, _, _, hbb, -⟩, -, -⟩ := OneJ.parts fj; obtain ⟨-, q0, q1, q2, q3, q4, q5⟩ := hbb.facts; obtain ⟨g0, g1, g2, g3, g4, g5⟩ := hbb.free; exact stepG_store (w' := ivW wF b14 _ _ _ _ _ _) (by simp [Region.wanted]) (by go_simp; rfl) ⟨FK.ivW hbb (by simp) _ _ _ _ _ _, OneJ.laid NE fj (show IvR wF (.agg #[_, _, _, _, _, _]) o3.v.raw from ⟨_, _, _, _, _, _, rfl, z1, z2⟩)⟩ (stab_of _ ⟨.inr vS, .inr vS, .inr vS, .inr vS, .inr vS, .inr (fun u h => by exact h.ivW hbb _ _ _ _ _ _), .inr (fun u h => by exact h.ivW hbb _ _ _ _ _ _), .inl rfl, trivial⟩) trivial),
     trivial⟩) ?_
  intro u w1 L1 hL j1 hu
  obtain ⟨k1, j1⟩ := j1
  have p71 := hp hu 5
  have p72 := hp hu 6
  simp only [puts, slotOf, if_true, Act.put, List.setIfInBounds_toArray, List.set_cons_zero, List.set_cons_succ, List.getElem?_toArray, List.getElem?_cons_zero, List.getElem?_cons_succ, Option.bind_some, hv hu 0, hv hu 1, hv hu 2, hv hu 3, hv hu 4]
  clear hu
  generalize u 5 = v71 at *
  generalize u 6 = v72 at *
  have jj : OneJ b14 bw p e o2.k o3.k o3.v.raw true true true w1 := by
   have jj := j1
   simp only [hL 5 (by decide), hL 6 (by decide), hL 7 (by decide)] at jj
   exact jj
  obtain ⟨⟨_, _, _, _, _, _, _, _, _, _, hb14, hiv⟩, hwk⟩ := jj.done
  have Z := Lib.hid hiv
  have WW := Lib.hid hwk
  have HB := Lib.hid hb14
  have KF := Lib.hid (KK.out.trans k1 (by intro y hy; simp at hy; rcases hy with rfl | rfl; exact .inr (by omega); exact .inl (by simp)))
  clear j1 hL jj hiv hwk hb14 k1
  go_simp
  go_wp2_with fail
  exact ret_iv HB.out rfl rfl rfl ⟨KF.out, by rw [HO.out]; exact WW.out, _, rfl, by rw [HO.out]; exact Z.out⟩
 have ho : oneS p op a b c da db e = ⟨iz, e⟩ := by unfold oneS; rw [if_neg h67, if_neg h8, if_neg h9', if_neg h11, if_neg h12, if_neg h13]
 have HO := Lib.hid ho
 have g6' : (op == 6) = false := by simp; intro h; exact h67 (.inl h)
 have g7' : (op == 7) = false := by simp; intro h; exact h67 (.inr (.inl h))
 have g8' : (op == 8) = false := by simp [h8]
 have g9' : (op == 9) = false := by simp [h9']
 have g10' : (op == 10) = false := by simp; intro h; exact h67 (.inr (.inr h))
 have g11' : (op == 11) = false := by simp [h11]
 have g12' : (op == 12) = false := by simp [h12]
 have g13' : (op == 13) = false := by simp [h13]
 clear ho h67 h8 h9' h11 h12 h13 IA IB IC ID IE IT T H9 H10 H11 H12 H13 H15
 obtain ⟨-, r0, r1, r2, r3, r4, r5⟩ := H14.out.facts
 obtain ⟨x0, x1, x2, x3, x4, x5⟩ := H14.out.free
 go_wp2_with fail
 refine ret_iv (H14.out.laid _ _ _ _ _ _) rfl rfl rfl ⟨(K.out.kb [bw]).trans ((KB.refl V [b14]).ivW H14.out (by simp) _ _ _ _ _ _) (by intro y hy; simp at hy; exact .inr (by omega)), ?_, _, rfl, ?_⟩
 ·rw [HO.out]; exact (ivW_other _ _ _ _ _ _ _ _ _ (by omega)).trans WK.out
 ·rw [HO.out]; exact (show IvR _ _ iz.raw by rw [iz_rawz]; exact ivR_zero _)
end Go.Proofs.YtgododcbmkpbjaaGreatDoor
