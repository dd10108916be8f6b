/- What layer 9 tells of a few: told. -/
import Derived.Test.YtgododcbmkpbjaaGreatDoorClaimJexpp20
import Derived.Test.YtgododcbmkpbjaaGreatDoorClaimJexpp39
import Derived.Test.YtgododcbmkpbjaaGreatDoorClaimJexpp41
set_option maxRecDepth 100000
set_option maxHeartbeats 16000000
namespace Go.Proofs.YtgododcbmkpbjaaGreatDoor
open Go.RowKit
/-- What lies in Solve's boxes. -/
structure SvB (W : World) (H : Nat) (s o y0 y1 y2 y3 y4 y5 vx vp : Value) (k b : Int) : Prop where
 f : W.heap[H]? = some (.cells #[s, o] 27 (0, 0))
 t : BlkI W (H + 1) y0 y1 y2 y3 y4 y5
 x : W.heap[H + 1 + 1]? = some (.cells #[vx] 33 (0, 0))
 p : W.heap[H + 1 + 1 + 1]? = some (.cells #[vp] 33 (0, 0))
 k : W.heap[H + 1 + 1 + 1 + 1]? = some (.cells #[.int .i64 k] 3 (0, 0))
 b : W.heap[H + 1 + 1 + 1 + 1 + 1]? = some (.cells #[.int .i64 b] 3 (0, 0))
theorem SvB.kept {W W' : World} {H : Nat} {s o y0 y1 y2 y3 y4 y5 vx vp : Value} {k b : Int} (h : SvB W H s o y0 y1 y2 y3 y4 y5 vx vp k b) (q : Kept W W') : SvB W' H s o y0 y1 y2 y3 y4 y5 vx vp k b :=
 ⟨blk_kept h.f q, h.t.kept q, blk_kept h.x q, blk_kept h.p q, blk_kept h.k q, blk_kept h.b q⟩
theorem box6v (w : World) (o0 o1 o2 o3 o4 o5 : Array Value) (T0 T1 T2 T3 T4 T5 : TypeId) : ∃ W, W = (((((w.alloc (.cells o0 T0)).alloc (.cells o1 T1)).alloc (.cells o2 T2)).alloc (.cells o3 T3)).alloc (.cells o4 T4)).alloc (.cells o5 T5) ∧ Kept w W ∧
 W.heap[w.heap.size]? = some (.cells o0 T0 (0, 0)) ∧ W.heap[w.heap.size + 1]? = some (.cells o1 T1 (0, 0)) ∧ W.heap[w.heap.size + 1 + 1]? = some (.cells o2 T2 (0, 0)) ∧ W.heap[w.heap.size + 1 + 1 + 1]? = some (.cells o3 T3 (0, 0)) ∧
 W.heap[w.heap.size + 1 + 1 + 1 + 1]? = some (.cells o4 T4 (0, 0)) ∧ W.heap[w.heap.size + 1 + 1 + 1 + 1 + 1]? = some (.cells o5 T5 (0, 0)) := by
 have st : ∀ (v : World) (n : Nat) (c : Array Value) (T : TypeId), v.heap.size = n → (v.alloc (.cells c T)).heap[n]? = some (.cells c T (0, 0)) ∧ (v.alloc (.cells c T)).heap.size = n + 1 ∧ Kept v (v.alloc (.cells c T)) := by
  intro v n c T h
  subst h
  exact ⟨heap_alloc_new _ _, by simp, kept_alloc _ _⟩
 obtain ⟨p1, q1, k1⟩ := st w _ o0 T0 rfl
 obtain ⟨p2, q2, k2⟩ := st _ _ o1 T1 q1
 obtain ⟨p3, q3, k3⟩ := st _ _ o2 T2 q2
 obtain ⟨p4, q4, k4⟩ := st _ _ o3 T3 q3
 obtain ⟨p5, q5, k5⟩ := st _ _ o4 T4 q4
 obtain ⟨p6, q6, k6⟩ := st _ _ o5 T5 q5
 exact ⟨_, rfl, ((((k1.trans k2).trans k3).trans k4).trans k5).trans k6, blk_kept p1 ((((k2.trans k3).trans k4).trans k5).trans k6), blk_kept p2 (((k3.trans k4).trans k5).trans k6), blk_kept p3 ((k4.trans k5).trans k6), blk_kept p4 (k5.trans k6), blk_kept p5 k6, p6⟩
theorem solve_face {w : World} {A B A1 A2 AX AP : Option Addr} {l c m d l1 d1 l2 d2 nx cx np cp : Nat} {n1 n2 : Bool} {e1 e2 k b : Int} {O : Outc (List (List RawI))} (hz : O.k ≠ 0 → O.v = [])
 (h : ∀ w1, Kept w w1 → SvB w1 w.heap.size (.slice A l c) (.slice B m d) (.bool n1) (.slice A1 l1 d1) (.int .i64 e1) (.bool n2) (.slice A2 l2 d2) (.int .i64 e2) (.slice AX nx cx) (.slice AP np cp) k b →
   Calls Tryz.prog 52 #[.pointer (some ⟨w.heap.size + 1 + 1 + 1 + 1 + 1, 0, none⟩), .pointer (some ⟨w.heap.size + 1 + 1 + 1 + 1, 0, none⟩), .pointer (some ⟨w.heap.size, 0, none⟩), .pointer (some ⟨w.heap.size + 1 + 1, 0, none⟩), .pointer (some ⟨w.heap.size + 1 + 1 + 1, 0, none⟩), .pointer (some ⟨w.heap.size + 1, 0, none⟩)] w1 (GoesLL O w1)) :
 Calls Tryz.prog 24 #[.agg #[.slice A l c, .slice B m d], .agg #[.bool n1, .slice A1 l1 d1, .int .i64 e1, .bool n2, .slice A2 l2 d2, .int .i64 e2], .slice AX nx cx, .slice AP np cp, .int .i64 k, .int .i64 b] w (RetLL O w) := by
 have hmf : ∀ (fn : Fn) (first cap : Array Value) (w : World), (Instr.makeFunc fn first cap).run Tryz.prog w = .ok (.func fn first cap) w := fun _ _ _ _ => rfl
 obtain ⟨W, hW, kW, b0, b1, b2, b3, b4, b5⟩ := box6v w #[.slice A l c, .slice B m d] #[.bool n1, .slice A1 l1 d1, .int .i64 e1, .bool n2, .slice A2 l2 d2, .int .i64 e2] #[.slice AX nx cx] #[.slice AP np cp] #[.int .i64 k] #[.int .i64 b] 27 32 33 33 3 3
 have hf := face_cJ (w := W) (K := 52) (o := O) (fun w1 q => h w1 (kW.trans q) (SvB.kept ⟨b0, b1, b2, b3, b4, b5⟩ q)) hz (fun _ => rfl)
 have HF := Lib.hid hf
 have HW := Lib.hid hW
 have HK := Lib.hid kW
 clear hf hW kW b0 b1 b2 b3 b4 b5 h hz
 go_enter Tryz.func24, Tryz.ntmps24
 go_wp2_with (go_at_call 51; rw [← HW.out]; refine HF.out.mono ?_; rintro e w1 ⟨q, u, rfl, hd⟩; have HD := Lib.hid hd; have HQ := Lib.hid q; clear q hd HF HW; simp only [])
 go_ret2
 exact ⟨HK.out.trans HQ.out, _, rfl, HD.out⟩
/-- What lies in Series' boxes. -/
structure SeB (W : World) (H : Nat) (s o vt vx vq : Value) (k b : Int) : Prop where
 f : W.heap[H]? = some (.cells #[s, o] 27 (0, 0))
 t : W.heap[H + 1]? = some (.cells #[vt] 33 (0, 0))
 x : W.heap[H + 1 + 1]? = some (.cells #[vx] 42 (0, 0))
 p : W.heap[H + 1 + 1 + 1]? = some (.cells #[vq] 42 (0, 0))
 k : W.heap[H + 1 + 1 + 1 + 1]? = some (.cells #[.int .i64 k] 3 (0, 0))
 b : W.heap[H + 1 + 1 + 1 + 1 + 1]? = some (.cells #[.int .i64 b] 3 (0, 0))
theorem SeB.kept {W W' : World} {H : Nat} {s o vt vx vq : Value} {k b : Int} (h : SeB W H s o vt vx vq k b) (q : Kept W W') : SeB W' H s o vt vx vq k b :=
 ⟨blk_kept h.f q, blk_kept h.t q, blk_kept h.x q, blk_kept h.p q, blk_kept h.k q, blk_kept h.b q⟩
theorem series_face {w : World} {A B AT AX AQ : Option Addr} {l c m d nt ct nx cx nq cq : Nat} {k b : Int} {O : Outc (List (List RawI))} (hz : O.k ≠ 0 → O.v = [])
 (h : ∀ w1, Kept w w1 → SeB w1 w.heap.size (.slice A l c) (.slice B m d) (.slice AT nt ct) (.slice AX nx cx) (.slice AQ nq cq) k b →
   Calls Tryz.prog 65 #[.pointer (some ⟨w.heap.size + 1 + 1 + 1 + 1, 0, none⟩), .pointer (some ⟨w.heap.size + 1 + 1 + 1 + 1 + 1, 0, none⟩), .pointer (some ⟨w.heap.size, 0, none⟩), .pointer (some ⟨w.heap.size + 1 + 1, 0, none⟩), .pointer (some ⟨w.heap.size + 1 + 1 + 1, 0, none⟩), .pointer (some ⟨w.heap.size + 1, 0, none⟩)] w1 (GoesLL O w1)) :
 Calls Tryz.prog 27 #[.agg #[.slice A l c, .slice B m d], .slice AT nt ct, .slice AX nx cx, .slice AQ nq cq, .int .i64 k, .int .i64 b] w (RetLL O w) := by
 have hmf : ∀ (fn : Fn) (first cap : Array Value) (w : World), (Instr.makeFunc fn first cap).run Tryz.prog w = .ok (.func fn first cap) w := fun _ _ _ _ => rfl
 obtain ⟨W, hW, kW, b0, b1, b2, b3, b4, b5⟩ := box6v w #[.slice A l c, .slice B m d] #[.slice AT nt ct] #[.slice AX nx cx] #[.slice AQ nq cq] #[.int .i64 k] #[.int .i64 b] 27 33 42 42 3 3
 have hf := face_cJ (w := W) (K := 65) (o := O) (fun w1 q => h w1 (kW.trans q) (SeB.kept ⟨b0, b1, b2, b3, b4, b5⟩ q)) hz (fun _ => rfl)
 have HF := Lib.hid hf
 have HW := Lib.hid hW
 have HK := Lib.hid kW
 clear hf hW kW b0 b1 b2 b3 b4 b5 h hz
 go_enter Tryz.func27, Tryz.ntmps27
 go_wp2_with (go_at_call 51; rw [← HW.out]; refine HF.out.mono ?_; rintro e w1 ⟨q, u, rfl, hd⟩; have HD := Lib.hid hd; have HQ := Lib.hid q; clear q hd HF HW; simp only [])
 go_ret2
 exact ⟨HK.out.trans HQ.out, _, rfl, HD.out⟩
theorem rzI_good : rzI.iv.Ok ∧ rzI.iv.raw = rzI := by
 rw [← iz_rawz, Iv.raw_iv]
 exact ⟨iz_ok, rfl⟩
/-- Solve for one state, where nothing goes up. -/
theorem solve_one {S : Int → Prop} {ov : Iv → Nat → Outc Iv} {w : World} {k p : Nat} {vt vx : Value} {ls : List Ln} {outs : List Int} {a : RawI} {time c9 : List RawI} (O : OpsC S) (h9 : S 9)
 (hv : TpR w vt ls outs) (hx : OneI w vx a) (ga : a.iv.Ok ∧ a.iv.raw = a) (hok : LnOk ls) (hn : ls.length ≤ 200) (ho1 : outs.length = 1) (hor : ∀ n ∈ outs, 0 ≤ n ∧ n < (ls.length : Int)) (hw : withinJ k p = true) (hm : mayT ls outs 1 0 0 = true)
 (hL : ∀ n c, n < k → Gd c → c.length = n + 1 → ∀ i l, ls[i]? = some l → LinC false ov p n (time.take (n + 1)) [c] [] i l)
 (hT : Tab w) (hr : (roundI a.iv p).k = 0) (hst : stepsJ ov p ls outs time [] [[(roundI a.iv p).v.raw]] (List.range' 0 k) = ⟨[c9], 0⟩) :
 Calls Tryz.prog 24 #[vt, .agg #[.bool false, .slice none 0 0, .int .i64 0, .bool false, .slice none 0 0, .int .i64 0], vx, .slice none 0 0, .int .i64 (k : Int), .int .i64 (p : Int)] w (RetLL ⟨[c9], 0⟩ w) := by
 obtain ⟨b, x0, x1, x2, x3, x4, x5, rfl, hb, hA⟩ := hx
 have hv2 := hv
 obtain ⟨s, o, rfl, ⟨A, c, rfl, -, -⟩, ⟨B, d, rfl, -, -⟩⟩ := hv2
 obtain ⟨-, c0, c1, c2, c3, c4, c5⟩ := hb.facts
 exact solve_face (fun h => absurd rfl h) fun w1 q B => solve1_c O h9 B.b B.k B.f B.x B.p B.t (Six.kept ⟨c0, c1, c2, c3, c4, c5⟩ q) (hA.kept q) ga (ivR_zero _) rzI_good (hv.kept q) hok hn ho1 hor hw hm hL (hT.kept q) hr hst
/-- Solve where the tape may not be. -/
theorem solve_bad {w : World} {k p : Int} {vt : Value} {ls : List Ln} {outs : List Int} (hv : TpR w vt ls outs) (hok : LnOk ls) (hn : ls.length ≤ 200) (hno : outs.length ≤ 200) (hw : withinJ k p = true) (hm : mayT ls outs 0 0 0 = false) :
 Calls Tryz.prog 24 #[vt, .agg #[.bool false, .slice none 0 0, .int .i64 0, .bool false, .slice none 0 0, .int .i64 0], .slice none 0 0, .slice none 0 0, .int .i64 k, .int .i64 p] w (RetLL ⟨[], 1⟩ w) := by
 have hv2 := hv
 obtain ⟨s, o, rfl, ⟨A, c, rfl, -, -⟩, ⟨B, d, rfl, -, -⟩⟩ := hv2
 exact solve_face (fun _ => rfl) fun w1 q B => solve1_bad B.b B.k B.f B.x B.p (hv.kept q) hok (by omega) (by omega) (by decide) hw hm
theorem dof_zJ {w : World} {z : Int} (hz : z.natAbs ≤ 100000) {e : Int} (e1 : -40 ≤ e) (e2 : e ≤ 0) (hT : Tab w) : Calls Tryz.prog 13 #[.int .i64 z, .int .i64 e] w (RetE ⟨(dyz z e).raw, 0⟩ w) := by
 have hf := dyz_fit (z := z) (e := e) ⟨Nat.lt_of_le_of_lt hz (by decide), e1, e2⟩
 by_cases h : z < 0
 ·obtain ⟨n, rfl⟩ : ∃ n : Nat, z = -(n : Int) := ⟨z.natAbs, by omega⟩
  have := Of_neg (w := w) (k := n) (e := e) (by omega) (by omega) (by omega) (by omega) hT
  rw [decide_eq_true h, Int.natAbs_neg, Int.natAbs_natCast] at hf
  rw [hf] at this
  exact this
 ·obtain ⟨n, rfl⟩ : ∃ n : Nat, z = (n : Int) := ⟨z.natAbs, by omega⟩
  have := Of_pos (w := w) (k := n) (e := e) (by omega) (by omega) (by omega) hT
  rw [decide_eq_false h, Int.natAbs_natCast] at hf
  rw [hf] at this
  exact this
/-- A number's remainder, less a constant. -/
def kzJ (m c z : Int) : Int := (IntKind.u64.wrap z).tmod m - c
theorem kzJ_eq (z : Int) {m c : Int} (hm : 0 < m) (hm2 : m ≤ 1000) (hc : 0 ≤ c) (hc2 : c ≤ m) : wrap64 (wrap64 ((IntKind.u64.wrap z).tmod m) - c) = kzJ m c z ∧ -c ≤ kzJ m c z ∧ kzJ m c z < m - c := by
 unfold kzJ
 rw [IntKind.wrap_u64]
 have h0 : 0 ≤ z % 18446744073709551616 := Int.emod_nonneg _ (by decide)
 rw [Int.tmod_eq_emod_of_nonneg h0]
 have h1 : 0 ≤ z % 18446744073709551616 % m := Int.emod_nonneg _ (by omega)
 have h2 : z % 18446744073709551616 % m < m := Int.emod_lt_of_pos _ hm
 generalize z % 18446744073709551616 % m = x at *
 unfold wrap64
 omega
theorem nJ_of (p : Int) (c m : Nat) (hm : 0 < m) (hs : c + m ≤ 1000) : ∃ n : Nat, wrap64 ((c : Int) + wrap64 ((IntKind.u64.wrap p).tmod (m : Int))) = (n : Int) ∧ c ≤ n ∧ n < c + m := by
 rw [IntKind.wrap_u64]
 have h0 : 0 ≤ p % 18446744073709551616 := Int.emod_nonneg _ (by decide)
 rw [Int.tmod_eq_emod_of_nonneg h0]
 have h1 : 0 ≤ p % 18446744073709551616 % (m : Int) := Int.emod_nonneg _ (by omega)
 have h2 : p % 18446744073709551616 % (m : Int) < m := Int.emod_lt_of_pos _ (by omega)
 generalize p % 18446744073709551616 % (m : Int) = x at *
 refine ⟨(c + x).toNat, ?_, by omega, by omega⟩
 unfold wrap64
 omega
theorem qJ_of (p : Int) (m : Nat) (hm : 0 < m) (hs : m ≤ 1000) : ∃ n : Nat, wrap64 ((IntKind.u64.wrap p).tmod (m : Int)) = (n : Int) ∧ n < m := by
 rw [IntKind.wrap_u64]
 have h0 : 0 ≤ p % 18446744073709551616 := Int.emod_nonneg _ (by decide)
 rw [Int.tmod_eq_emod_of_nonneg h0]
 have h1 : 0 ≤ p % 18446744073709551616 % (m : Int) := Int.emod_nonneg _ (by omega)
 have h2 : p % 18446744073709551616 % (m : Int) < m := Int.emod_lt_of_pos _ (by omega)
 generalize p % 18446744073709551616 % (m : Int) = x at *
 refine ⟨x.toNat, ?_, by omega⟩
 unfold wrap64
 omega
theorem insJ1 {w : World} {b : Nat} {T : TypeId} {n : Int} (h : w.heap[b]? = some (.cells #[.int .i64 n] T (0, 0))) : InS w (.slice (some ⟨b, 0, none⟩) 1 1) [n] :=
 ⟨_, _, rfl, Nat.le_refl _, fun _ => ⟨b, 0, rfl, fun i a hi => by
  rcases i with _ | i
  ·cases hi; exact cell_of_block h 0 _ rfl
  ·simp at hi⟩⟩
theorem lnJ1 {w : World} {b : Nat} {T : TypeId} {op x y : Int} (h : w.heap[b]? = some (.cells #[.int .i64 op, .int .i64 x, .int .i64 y, .bool false, .slice none 0 0, .int .i64 0, .bool false, .slice none 0 0, .int .i64 0] T (0, 0))) : LnS w (.slice (some ⟨b, 0, none⟩) 1 1) [⟨op, x, y, rzI⟩] :=
 ⟨_, _, rfl, Nat.le_refl _, fun _ => ⟨b, 0, rfl, fun i a hi => by
  rcases i with _ | i
  ·cases hi
   exact ⟨cell_of_block h 0 _ rfl, cell_of_block h 1 _ rfl, cell_of_block h 2 _ rfl, _, _, _, _, _, _, cell_of_block h 3 _ rfl, cell_of_block h 4 _ rfl, cell_of_block h 5 _ rfl, cell_of_block h 6 _ rfl, cell_of_block h 7 _ rfl, cell_of_block h 8 _ rfl, ivR_zero _⟩
  ·simp at hi⟩⟩
/-- The boxes of a tape: its lines, its outs, itself. -/
theorem boxTJ (w : World) (cs : Array Value) (n1 : Int) (m : Nat) : ∃ V, V = ((w.alloc (.cells cs 41)).alloc (.cells #[.int .i64 n1] 3)).alloc (.cells #[.slice (some ⟨w.heap.size, 0, none⟩) m m, .slice (some ⟨w.heap.size + 1, 0, none⟩) 1 1] 27) ∧ Kept w V ∧
 V.heap[w.heap.size]? = some (.cells cs 41 (0, 0)) ∧ V.heap[w.heap.size + 1]? = some (.cells #[.int .i64 n1] 3 (0, 0)) ∧
 V.heap[w.heap.size + 1 + 1]? = some (.cells #[.slice (some ⟨w.heap.size, 0, none⟩) m m, .slice (some ⟨w.heap.size + 1, 0, none⟩) 1 1] 27 (0, 0)) := by
 have st : ∀ (v : World) (n : Nat) (c : Array Value) (T : TypeId), v.heap.size = n → (v.alloc (.cells c T)).heap[n]? = some (.cells c T (0, 0)) ∧ (v.alloc (.cells c T)).heap.size = n + 1 ∧ Kept v (v.alloc (.cells c T)) := by
  intro v n c T h
  subst h
  exact ⟨heap_alloc_new _ _, by simp, kept_alloc _ _⟩
 obtain ⟨p1, q1, k1⟩ := st w _ cs 41 rfl
 obtain ⟨p2, q2, k2⟩ := st _ _ #[.int .i64 n1] 3 q1
 obtain ⟨p3, q3, k3⟩ := st _ _ #[.slice (some ⟨w.heap.size, 0, none⟩) m m, .slice (some ⟨w.heap.size + 1, 0, none⟩) 1 1] 27 q2
 exact ⟨_, rfl, (k1.trans k2).trans k3, blk_kept p1 (k2.trans k3), blk_kept p2 k3, p3⟩
theorem lnOk_E : LnOk tE := by
 intro l hl
 simp only [tE, List.mem_cons, List.not_mem_nil, or_false] at hl
 subst hl
 exact ⟨by decide, by decide, by show (0 : Nat) ≤ 17592186044416; decide, by show (0 : Nat) ≤ 17592186044416; decide⟩
theorem linC_E {ov : Iv → Nat → Outc Iv} {p n : Nat} {t c : List RawI} (gc : Gd c) (hc : c.length = n + 1) (hn : n ≤ 900) (p1 : 1 ≤ p) (p2 : p ≤ 300) : ∀ i l, tE[i]? = some l → LinC false ov p n t [c] [] i l := by
 intro i l hl
 rcases i with _ | i
 ·cases hl
  exact linC3 rfl (j := 0) rfl (by simp) (by intro r hr; simp only [List.mem_singleton] at hr; subst hr; exact ⟨gc, hc⟩) hn p1 p2
 ·simp [tE] at hl
/-- What told solves: x' = x, from 1. -/
theorem told_steps : ∃ c9, stepsJ (fun _ _ => ⟨iz, 0⟩) 30 tE [0] [] [] [[(roundI (pt (dyz 8 (-3))) 30).v.raw]] (List.range' 0 3) = ⟨[c9], 0⟩ ∧ Gd c9 ∧ c9.length = 4 ∧ (gI c9 2).lo.e = -1 ∧ (gI c9 3).lo.q < (gI c9 3).hi.q := by
 obtain ⟨c9, h1, h2, h3⟩ := stepE (ov := fun _ _ => ⟨iz, 0⟩) (m := 8) (p := 30) ⟨by decide, by decide, by decide⟩ (K := 3) (by decide) []
 have e : c9 = (stepsJ (fun _ _ => ⟨iz, 0⟩) 30 tE [0] [] [] [[(roundI (pt (dyz 8 (-3))) 30).v.raw]] (List.range' 0 3)).v.getD 0 [] := by rw [h1]; rfl
 have e2 : (gI c9 2).lo.e = -1 := by rw [e]; decide +kernel
 have e3 : (gI c9 3).lo.m ≠ (gI c9 3).hi.m := by rw [e]; decide +kernel
 have ok := gI_ok h2.gd 3
 refine ⟨c9, h1, h2.gd, h3, e2, ?_⟩
 have hne : (gI c9 3).lo.q ≠ (gI c9 3).hi.q := fun h => e3 (congrArg Dy.m (q_inj ok.lo ok.hi h))
 have := ok.le
 grind
/-- Order or bits may not be. -/
theorem series1_bad {w : World} {bB bK bF bX bP bT : Nat} {k p : Int}
 (hB : w.heap[bB]? = some (.cells #[.int .i64 p] 3 (0, 0))) (hK : w.heap[bK]? = some (.cells #[.int .i64 k] 3 (0, 0))) (hw : withinJ k p = false) :
 Calls Tryz.prog 65 #[.pointer (some ⟨bK, 0, none⟩), .pointer (some ⟨bB, 0, none⟩), .pointer (some ⟨bF, 0, none⟩), .pointer (some ⟨bX, 0, none⟩), .pointer (some ⟨bP, 0, none⟩), .pointer (some ⟨bT, 0, none⟩)] w (GoesLL ⟨[], 1⟩ w) := by
 have WI := Lib.hid (fun w1 => show Calls Tryz.prog 54 #[.int .i64 k, .int .i64 p] w1 (RetQ (.bool false) w1) by have := within_c w1 k p; rwa [hw] at this)
 have HB := Lib.hid hB
 have HK := Lib.hid hK
 have BAD := Lib.hid (fun w1 (q : Kept w w1) => show GoesLL ⟨[], 1⟩ w (.panicked (failV 117 1)) w1 from ⟨q, .inr ⟨by decide, rfl⟩⟩)
 clear hB hK hw
 go_enter Tryz.func65, Tryz.ntmps65
 go_upto_region 1 with fail
 refine region_seq (m := 28) (V := VL [(vE (.int .i64 k)), (vE (.int .i64 p)), (vE (.bool false)), (vE (.bool false)), (vE undef), (vE undef), (vE undef), (vE undef), (vE undef), (vE undef), (vE (.bool false)), (vE (.bool false)), (vE undef), (vE undef), (vE undef), (vE undef), (vE (.bool false)), (vE (.bool false)), (vE undef), (vE undef), (vE undef), (vE (.bool false)), (vE (.bool false)), (vE undef), (vE undef), (vE undef), (vE (.bool false)), (fun v _ => False)])
  rfl (by kernel_rfl) (by kernel_rfl) (by kernel_rfl) (mono_of _ ⟨mE, mE, mE, mE, mE, mE, mE, mE, mE, mE, mE, mE, mE, mE, mE, mE, mE, mE, mE, mE, mE, mE, mE, mE, mE, mE, mE, fun v w w' k h => by first | exact h | exact h.kept k | exact ⟨h.1, h.2.kept k⟩, trivial⟩) (steps_of ⟨
   (fun aF wF F => by have s0 : aF.tmps.getD 0 undef = (.pointer (some ⟨bK, 0, none⟩)) := F.o 0; have c0 := cell_at HK.out F.kept 0 _ rfl; exact sv rfl), (fun aF wF F => by have s1 : aF.tmps.getD 1 undef = (.pointer (some ⟨bB, 0, none⟩)) := F.o 1; have c0 := cell_at HB.out F.kept 0 _ rfl; exact sv rfl), (fun aF wF F => by have s7 := F.v 0 7; have s8 := F.v 1 8; exact sQ (WI.out _) fun _ _ h => h), (fun aF wF F => by have s9 := F.v 2 9; exact sv rfl), (so 3 10), (so 3 10), (so 3 10), (so 3 10), (so 3 10), (so 3 10), (fun aF wF F => by have s10 := F.v 3 10; have s16 := F.v 9 16; exact sv rfl), (fun aF wF F => by have s17 := F.v 10 17; exact sv rfl), (so 11 18), (so 11 18), (so 11 18), (so 11 18), (fun aF wF F => by have s18 := F.v 11 18; have s22 := F.v 15 22; exact sv rfl), (fun aF wF F => by have s23 := F.v 16 23; exact sv rfl), (so 17 24), (so 17 24), (so 17 24), (fun aF wF F => by have s24 := F.v 17 24; have s27 := F.v 20 27; exact sv rfl), (fun aF wF F => by have s28 := F.v 21 28; exact sv rfl), (so 22 29), (so 22 29), (so 22 29), (fun aF wF F => by have s29 := F.v 22 29; have s32 := F.v 25 32; exact sv rfl), (fun aF wF F => by have s33 := F.v 26 33; exact step_call (by simp [Region.wanted]) (by go_simp) (must_ifJ false 1 _) (fun e w2 h => h.elim (fun ⟨v, he, hk, hb, _⟩ => absurd hb (by decide)) (fun ⟨c, he, h0, hc, hw2⟩ => .inr ⟨c, he, F.defers, by subst hc; exact BAD.out w2 (hw2 ▸ F.kept)⟩))),
   trivial⟩) ?_
 intro u w1 k1 hu
 have p34 := hp hu 27
 simp only [puts, slotOf, if_true, Act.put, z1, z2, z3, z4, z5, z6, z7, hv hu 0, hv hu 1, hv hu 2, hv hu 3, hv hu 4, hv hu 5, hv hu 6, hv hu 7, hv hu 8, hv hu 9, hv hu 10, hv hu 11, hv hu 12, hv hu 13, hv hu 14, hv hu 15, hv hu 16, hv hu 17, hv hu 18, hv hu 19, hv hu 20, hv hu 21, hv hu 22, hv hu 23, hv hu 24, hv hu 25, hv hu 26]
 clear hu
 generalize u 27 = v34 at *
 exact p34.elim
theorem series_bad {w : World} {k p : Int} {vt : Value} {ls : List Ln} {outs : List Int} (hv : TpR w vt ls outs) (hw : withinJ k p = false) :
 Calls Tryz.prog 27 #[vt, .slice none 0 0, .slice none 0 0, .slice none 0 0, .int .i64 k, .int .i64 p] w (RetLL ⟨[], 1⟩ w) := by
 obtain ⟨s, o, rfl, ⟨A, c, rfl, -, -⟩, ⟨B, d, rfl, -, -⟩⟩ := hv
 exact series_face (fun _ => rfl) fun w1 q B => series1_bad B.b B.k hw
theorem lim_newJ {w : World} {b n : Nat} {T : TypeId} (hn : n < 18446744073709551616) (h : w.heap[b]? = some (.cells #[.int .u64 (n : Int)] T (0, 0))) : Lim w (.slice (some ⟨b, 0, none⟩) 1 1) [n] := by
 refine ⟨fun x hx => by simp at hx; omega, some ⟨b, 0, none⟩, 1, rfl, Nat.le_refl _, fun _ => ⟨b, 0, rfl, (Array.getElem?_eq_some_iff.1 h).1, fun i hi => ?_⟩⟩
 have hi : i < 1 := hi
 obtain rfl : i = 0 := by omega
 exact cell_of_block h 0 _ rfl
theorem dy81 : (dyz 8 (-3)).raw = ⟨false, [1], 0⟩ := by
 have hl := limbs_one 1 (by decide) (by decide)
 have ht : tz 8 = 3 := tz_unique 8 3 1 rfl rfl
 have h : fitD false 8 (-3) = ⟨⟨false, 1, 0⟩, 0⟩ := by
  unfold fitD
  rw [ht, if_neg (by decide), if_neg (by show ¬ 64 < (limbs 1).length; rw [hl]; decide), if_neg (by decide), if_neg (by decide)]
  rfl
 have h2 : dyz 8 (-3) = ⟨false, 1, 0⟩ := congrArg Outc.v h
 rw [h2]; unfold Dy.raw; rw [hl]
theorem cellKJ {w w' : World} {b o : Nat} {v : Value} (h : w.cell? ⟨b, o, none⟩ = some v) (k : Kept w w') : w'.cell? ⟨b, o, none⟩ = some v := (k.cell (p := ⟨b, o, none⟩) (lt_of_cell h)).trans h
theorem told9_c {S : Int → Prop} {w : World} (O : OpsC S) (h9 : S 9) (hT : Tab w) : Calls Tryz.prog 26 #[] w (RetK (.bool true) w) := by
 have T := Lib.hid hT
 obtain ⟨c9, hst, gc9, lc9, he9, hq9⟩ := told_steps
 have hf := e8_first (m := 8) (p := 30) ⟨by decide, by decide, by decide⟩
 have C1 := Lib.hid (fun w1 (k : Kept w w1) vt vx (ht : TpR w1 vt tE [0]) (hx : OneI w1 vx ⟨⟨false, [1], 0⟩, ⟨false, [1], 0⟩⟩) => show Calls Tryz.prog 24 #[vt, .agg #[.bool false, .slice none 0 0, .int .i64 0, .bool false, .slice none 0 0, .int .i64 0], vx, .slice none 0 0, .int .i64 3, .int .i64 30] w1 (RetLL ⟨[c9], 0⟩ w1) by
  have e : (⟨⟨false, [1], 0⟩, ⟨false, [1], 0⟩⟩ : RawI) = (pt (dyz 8 (-3))).raw := by show _ = RawI.mk (dyz 8 (-3)).raw (dyz 8 (-3)).raw; rw [dy81]
  rw [e] at hx
  exact solve_one (ov := fun _ _ => ⟨iz, 0⟩) (k := 3) (p := 30) (time := []) O h9 ht hx ⟨by rw [Iv.raw_iv]; exact pt_ok (dyz_ok _ _), by rw [Iv.raw_iv]⟩ lnOk_E (by decide) rfl (by intro n hn; simp only [List.mem_singleton] at hn; subst hn; decide) rfl rfl
   (fun n c hn gc hc => linC_E gc hc (by omega) (by decide) (by decide)) (hT.kept k) (by rw [Iv.raw_iv]; exact hf.2.1.1) (by rw [Iv.raw_iv]; exact hst))
 have C2 := Lib.hid (fun w1 (_ : Kept w w1) vt (ht : TpR w1 vt tE [0]) => show Calls Tryz.prog 24 #[vt, .agg #[.bool false, .slice none 0 0, .int .i64 0, .bool false, .slice none 0 0, .int .i64 0], .slice none 0 0, .slice none 0 0, .int .i64 3, .int .i64 30] w1 (RetLL ⟨[], 1⟩ w1) from
  solve_bad ht lnOk_E (by decide) (by decide) rfl rfl)
 have C3 := Lib.hid (fun w1 (_ : Kept w w1) vt (ht : TpR w1 vt tE [0]) => show Calls Tryz.prog 27 #[vt, .slice none 0 0, .slice none 0 0, .slice none 0 0, .int .i64 13, .int .i64 30] w1 (RetLL ⟨[], 1⟩ w1) from series_bad ht rfl)
 obtain ⟨r2, hr2⟩ : ∃ r, r = gI c9 2 := ⟨_, rfl⟩
 obtain ⟨r3, hr3⟩ : ∃ r, r = gI c9 3 := ⟨_, rfl⟩
 have ok3 : r3.Ok := by rw [hr3]; exact gI_ok gc9 3
 rw [← hr2] at he9
 rw [← hr3] at hq9
 have CC := Lib.hid (fun w1 va vb (ha : DyR w1 va r3.lo.raw) (hb : DyR w1 vb r3.hi.raw) => show Calls Tryz.prog 21 #[va, vb] w1 (RetK (.int .i64 (-1)) w1) by
  have := dcmp_c ha hb ok3.lo ok3.hi
  rwa [cmpQ_of_lt hq9] at this)
 have PL := Lib.hid (fun w1 v (h : IvS w1 v c9) => h.place gc9 (by omega))
 have LC := Lib.hid lc9
 have R2 := Lib.hid hr2
 have R3 := Lib.hid hr3
 have E9 := Lib.hid (show r2.raw.lo.e = -1 from he9)
 clear hT hst gc9 lc9 he9 hq9 hf ok3 hr2 hr3 O
 go_enter Tryz.func26, Tryz.ntmps26
 go_wp2_with fail
 have hlim : Lim (w.alloc (.cells #[.int .u64 1] 60)) (.slice (some ⟨w.heap.size, 0, none⟩) 1 1) [1] := lim_newJ (n := 1) (T := 60) (by decide) (heap_alloc_new _ _)
 refine (iof_c (r := ⟨false, [1], 0⟩) ⟨_, rfl, hlim, by decide, by decide⟩).mono ?_
 rintro e w1 ⟨q, v, rfl, hv⟩
 obtain ⟨P1, l1, d1, P2, l2, d2, rfl, -, -⟩ := ivR_split hv
 have K1 := Lib.hid ((kept_alloc _ _).trans q)
 have HV1 := Lib.hid hv
 clear hlim hv q
 simp only [] at HV1 ⊢
 obtain ⟨V1, hV1, kV1, bV1⟩ := boxi1 w1 (.bool false) (.slice P1 l1 d1) (.int .i64 0) (.bool false) (.slice P2 l2 d2) (.int .i64 0)
 have HB1 := Lib.hid hV1
 go_upto_region 2 with fail
 rw [← HB1.out]
 obtain ⟨V2, hV2, kV2, b0, b1, b2⟩ := boxTJ V1 #[.int .i64 3, .int .i64 0, .int .i64 0, .bool false, .slice none 0 0, .int .i64 0, .bool false, .slice none 0 0, .int .i64 0] 0 1
 have HB2 := Lib.hid hV2
 have K2 := Lib.hid (K1.out.trans (kV1.trans kV2))
 have BI := Lib.hid (bV1.kept kV2)
 have IV := Lib.hid (HV1.out.kept (kV1.trans kV2))
 have BT := Lib.hid b2
 have TP := Lib.hid (show TpR V2 (.agg #[.slice (some ⟨V1.heap.size, 0, none⟩) 1 1, .slice (some ⟨V1.heap.size + 1, 0, none⟩) 1 1]) tE [0] from ⟨_, _, rfl, lnJ1 b0, insJ1 b1⟩)
 clear hV1 hV2 kV1 kV2 bV1 b0 b1 b2 HV1 HB1 K1
 go_upto_region 3 with fail
 rw [← HB2.out]
 clear HB2
 generalize V1.heap.size + 1 + 1 = n3 at *
 generalize w1.heap.size = n1 at *
 generalize V1.heap.size + 1 = n2 at *
 generalize V1.heap.size = n0 at *
 obtain ⟨c0, c1⟩ := cells2 BT.out
 obtain ⟨-, m0, m1, m2, m3, m4, m5⟩ := BI.out.facts
 go_wp2_with fail
 refine (C1.out _ (K2.out.trans (kept_alloc _ _)) _ _ (TP.out.kept (kept_alloc _ _)) (oneI_new IV.out)).mono ?_
 rintro e w3 ⟨q3, v3, rfl, hr3⟩
 obtain ⟨b3, o3, e3, s3, rfl, -, cell3, hs3⟩ := hr3.row (i := 0) (by simp)
 obtain ⟨br, orr, cr, rfl, -, hRG⟩ := PL.out w3 _ (show IvS w3 s3 c9 from hs3)
 have i2 := hRG w3 (Below.refl _ _) 2 (by have := LC.out; omega)
 have i3 := hRG w3 (Below.refl _ _) 3 (by have := LC.out; omega)
 rw [← R2.out] at i2
 rw [← R3.out] at i3
 rw [LC.out, Nat.add_zero] at cell3
 obtain ⟨y0, y1, y2, y3, y4, y5, -, -, s2, -, -, -, hI2⟩ := i2
 obtain ⟨A1, a1, a2, A2, a3, a4, hh, -, -⟩ := ivR_split hI2
 simp only [Value.agg.injEq, List.cons.injEq, Array.mk.injEq, and_true] at hh
 obtain ⟨rfl, rfl, rfl, rfl, rfl, rfl⟩ := hh
 rw [E9.out] at s2
 obtain ⟨x0, x1, x2, x3, x4, x5, t0, t1, t2, t3, t4, t5, hI3⟩ := i3
 obtain ⟨B1, f1, f2, B2, f3, f4, hh, dlo, dhi⟩ := ivR_split hI3
 simp only [Value.agg.injEq, List.cons.injEq, Array.mk.injEq, and_true] at hh
 obtain ⟨rfl, rfl, rfl, rfl, rfl, rfl⟩ := hh
 have kq := (kept_alloc V2 (.cells #[.bool false, .slice P1 l1 d1, .int .i64 0, .bool false, .slice P2 l2 d2, .int .i64 0] 32)).trans q3
 have K3 := Lib.hid (K2.out.trans kq)
 have TP3 := Lib.hid (TP.out.kept kq)
 have BT3 := Lib.hid (blk_kept BT.out kq)
 have S2 := Lib.hid s2
 have S3 := Lib.hid (And.intro t0 (And.intro t1 (And.intro t2 (And.intro t3 (And.intro t4 t5)))))
 have CE := Lib.hid cell3
 have DLO := Lib.hid dlo
 have DHI := Lib.hid dhi
 clear c0 c1 m0 m1 m2 m3 m4 m5 K2 TP BT IV BI hI2 hI3 dlo dhi t0 t1 t2 t3 t4 t5 s2 cell3 hs3 hRG kq q3 C1 PL
 obtain ⟨c0, c1⟩ := cells2 BT3.out
 simp only []
 go_wp2_with fail
 refine (C2.out _ K3.out _ TP3.out).mono ?_
 rintro e w4 ⟨q4, v4, rfl, hr4⟩
 obtain ⟨A4, c4, rfl, -, -⟩ := hr4
 have Q4 := Lib.hid q4
 clear c0 c1 q4
 obtain ⟨c0, c1⟩ := cells2 (blk_kept BT3.out Q4.out)
 simp only []
 go_wp2_with fail
 refine (C3.out _ (K3.out.trans Q4.out) _ (TP3.out.kept Q4.out)).mono ?_
 rintro e w5 ⟨q5, v5, rfl, hr5⟩
 obtain ⟨A5, c5, rfl, -, -⟩ := hr5
 have Q5 := Lib.hid (Q4.out.trans q5)
 clear c0 c1 q5 C2 C3
 simp only []
 go_wp2_with fail
 refine region_lin (m := 49) (V := VL [(vE (.int .i64 0)), (vE (.bool true)), (vE (.bool true)), (vE (.slice (some ⟨b3, o3, none⟩) 1 e3)), (vE (.int .i64 1)), (vE (.bool true)), (vE (.bool true)), (vE (.bool true)), (vE (.slice (some ⟨b3, o3, none⟩) 1 e3)), (vE (.pointer (some ⟨b3, o3, none⟩))), (vE (.slice (some ⟨br, orr, none⟩) 4 cr)), (vE (.int .i64 4)), (vE (.bool true)), (vE (.bool true)), (vE (.bool true)), (vE (.slice (some ⟨b3, o3, none⟩) 1 e3)), (vE (.pointer (some ⟨b3, o3, none⟩))), (vE (.slice (some ⟨br, orr, none⟩) 4 cr)), (vE (.pointer (some ⟨br, orr + 2 * 6, none⟩))), (vE (.pointer (some ⟨br, orr + 2 * 6, none⟩))), (vE (.pointer (some ⟨br, orr + 2 * 6 + 2, none⟩))), (vE (.int .i64 (-1))), (vE (.bool true)), (vE (.bool true)), (vE (.bool true)), (vE (.slice (some ⟨b3, o3, none⟩) 1 e3)), (vE (.pointer (some ⟨b3, o3, none⟩))), (vE (.slice (some ⟨br, orr, none⟩) 4 cr)), (vE (.pointer (some ⟨br, orr + 3 * 6, none⟩))), (vE (.pointer (some ⟨br, orr + 3 * 6, none⟩))), (vE (.agg #[.bool r3.raw.lo.neg, .slice B1 f1 f2, .int .i64 r3.raw.lo.e])), (vE (.slice (some ⟨b3, o3, none⟩) 1 e3)), (vE (.pointer (some ⟨b3, o3, none⟩))), (vE (.slice (some ⟨br, orr, none⟩) 4 cr)), (vE (.pointer (some ⟨br, orr + 3 * 6, none⟩))), (vE (.pointer (some ⟨br, orr + 3 * 6 + 3, none⟩))), (vE (.agg #[.bool r3.raw.hi.neg, .slice B2 f3 f4, .int .i64 r3.raw.hi.e])), (vE (.int .i64 (-1))), (vE (.bool true)), (vE (.bool true)), (vE (.bool true)), (vE (.int .i64 1)), (vE (.bool true)), (vE (.bool true)), (vE (.bool true)), (vE (.int .i64 1)), (vE (.bool true)), (vE (.bool true)), (vE (.bool true))])
  (by kernel_rfl) rfl (by kernel_rfl) (by kernel_rfl) (by kernel_rfl) (mono_of _ ⟨mE, mE, mE, mE, mE, mE, mE, mE, mE, mE, mE, mE, mE, mE, mE, mE, mE, mE, mE, mE, mE, mE, mE, mE, mE, mE, mE, mE, mE, mE, mE, mE, mE, mE, mE, mE, mE, mE, mE, mE, mE, mE, mE, mE, mE, mE, mE, mE, mE, trivial⟩) (steps_of ⟨
    (fun aF wF F => by have s4 : aF.tmps.getD 4 undef = (.int .i64 0) := F.o 4; exact sv rfl), (fun aF wF F => by have s35 := F.v 0 35; exact sv rfl), (fun aF wF F => by have s36 := F.v 1 36; exact sv rfl), (fun aF wF F => by have s3 : aF.tmps.getD 3 undef = (.slice (some ⟨b3, o3, none⟩) 1 e3) := F.o 3; have sg := F.v 2 37; exact step_val ((wanted_guard rfl rfl sg).trans rfl) (by go_simp) rfl), (fun aF wF F => by have s38 := F.v 3 38; have sg := F.v 2 37; exact step_val ((wanted_guard rfl rfl sg).trans rfl) (by go_simp) rfl), (fun aF wF F => by have s39 := F.v 4 39; have sg := F.v 2 37; exact step_val ((wanted_guard rfl rfl sg).trans rfl) (by go_simp) rfl), (fun aF wF F => by have s37 := F.v 2 37; have s40 := F.v 5 40; exact sv rfl), (fun aF wF F => by have s41 := F.v 6 41; exact sv rfl), (fun aF wF F => by have s3 : aF.tmps.getD 3 undef = (.slice (some ⟨b3, o3, none⟩) 1 e3) := F.o 3; have sg := F.v 7 42; exact step_val ((wanted_guard rfl rfl sg).trans rfl) (by go_simp) rfl), (fun aF wF F => by have s43 := F.v 8 43; have sg := F.v 7 42; exact step_val ((wanted_guard rfl rfl sg).trans rfl) (by go_simp) rfl), (fun aF wF F => by have s44 := F.v 9 44; have sg := F.v 7 42; exact step_val ((wanted_guard rfl rfl sg).trans rfl) (by (have n0 := cellKJ CE.out (Q5.out.trans F.kept); go_simp)) rfl), (fun aF wF F => by have s45 := F.v 10 45; have sg := F.v 7 42; exact step_val ((wanted_guard rfl rfl sg).trans rfl) (by go_simp) rfl), (fun aF wF F => by have s46 := F.v 11 46; have sg := F.v 7 42; exact step_val ((wanted_guard rfl rfl sg).trans rfl) (by go_simp) rfl), (fun aF wF F => by have s42 := F.v 7 42; have s47 := F.v 12 47; exact sv rfl), (fun aF wF F => by have s48 := F.v 13 48; exact sv rfl), (fun aF wF F => by have s3 : aF.tmps.getD 3 undef = (.slice (some ⟨b3, o3, none⟩) 1 e3) := F.o 3; have sg := F.v 14 49; exact step_val ((wanted_guard rfl rfl sg).trans rfl) (by go_simp) rfl), (fun aF wF F => by have s50 := F.v 15 50; have sg := F.v 14 49; exact step_val ((wanted_guard rfl rfl sg).trans rfl) (by go_simp) rfl), (fun aF wF F => by have s51 := F.v 16 51; have sg := F.v 14 49; exact step_val ((wanted_guard rfl rfl sg).trans rfl) (by (have n0 := cellKJ CE.out (Q5.out.trans F.kept); go_simp)) rfl), (fun aF wF F => by have s52 := F.v 17 52; have sg := F.v 14 49; exact step_val ((wanted_guard rfl rfl sg).trans rfl) (by go_simp) rfl), (fun aF wF F => by have s53 := F.v 18 53; have sg := F.v 14 49; exact step_val ((wanted_guard rfl rfl sg).trans rfl) (by go_simp) rfl), (fun aF wF F => by have s54 := F.v 19 54; have sg := F.v 14 49; exact step_val ((wanted_guard rfl rfl sg).trans rfl) (by go_simp) rfl), (fun aF wF F => by have s55 := F.v 20 55; have sg := F.v 14 49; exact step_val ((wanted_guard rfl rfl sg).trans rfl) (by (have n0 := cellKJ S2.out (Q5.out.trans F.kept); go_simp)) rfl), (fun aF wF F => by have s56 := F.v 21 56; have sg := F.v 14 49; exact step_val ((wanted_guard rfl rfl sg).trans rfl) (by go_simp) rfl), (fun aF wF F => by have s49 := F.v 14 49; have s57 := F.v 22 57; exact sv rfl), (fun aF wF F => by have s58 := F.v 23 58; exact sv rfl), (fun aF wF F => by have s3 : aF.tmps.getD 3 undef = (.slice (some ⟨b3, o3, none⟩) 1 e3) := F.o 3; have sg := F.v 24 59; exact step_val ((wanted_guard rfl rfl sg).trans rfl) (by go_simp) rfl), (fun aF wF F => by have s60 := F.v 25 60; have sg := F.v 24 59; exact step_val ((wanted_guard rfl rfl sg).trans rfl) (by go_simp) rfl), (fun aF wF F => by have s61 := F.v 26 61; have sg := F.v 24 59; exact step_val ((wanted_guard rfl rfl sg).trans rfl) (by (have n0 := cellKJ CE.out (Q5.out.trans F.kept); go_simp)) rfl), (fun aF wF F => by have s62 := F.v 27 62; have sg := F.v 24 59; exact step_val ((wanted_guard rfl rfl sg).trans rfl) (by go_simp) rfl), (fun aF wF F => by have s63 := F.v 28 63; have sg := F.v 24 59; exact step_val ((wanted_guard rfl rfl sg).trans rfl) (by go_simp) rfl), (fun aF wF F => by have s64 := F.v 29 64; have sg := F.v 24 59; exact step_val ((wanted_guard rfl rfl sg).trans rfl) (by (have n0 := cellKJ S3.out.1 (Q5.out.trans F.kept); have n1 := cellKJ S3.out.2.1 (Q5.out.trans F.kept); have n2 := cellKJ S3.out.2.2.1 (Q5.out.trans F.kept); go_simp)) rfl), (fun aF wF F => by have s3 : aF.tmps.getD 3 undef = (.slice (some ⟨b3, o3, none⟩) 1 e3) := F.o 3; have sg := F.v 24 59; exact step_val ((wanted_guard rfl rfl sg).trans rfl) (by go_simp) rfl), (fun aF wF F => by have s66 := F.v 31 66; have sg := F.v 24 59; exact step_val ((wanted_guard rfl rfl sg).trans rfl) (by go_simp) rfl), (fun aF wF F => by have s67 := F.v 32 67; have sg := F.v 24 59; exact step_val ((wanted_guard rfl rfl sg).trans rfl) (by (have n0 := cellKJ CE.out (Q5.out.trans F.kept); go_simp)) rfl), (fun aF wF F => by have s68 := F.v 33 68; have sg := F.v 24 59; exact step_val ((wanted_guard rfl rfl sg).trans rfl) (by go_simp) rfl), (fun aF wF F => by have s69 := F.v 34 69; have sg := F.v 24 59; exact step_val ((wanted_guard rfl rfl sg).trans rfl) (by go_simp) rfl), (fun aF wF F => by have s70 := F.v 35 70; have sg := F.v 24 59; exact step_val ((wanted_guard rfl rfl sg).trans rfl) (by (have n0 := cellKJ S3.out.2.2.2.1 (Q5.out.trans F.kept); have n1 := cellKJ S3.out.2.2.2.2.1 (Q5.out.trans F.kept); have n2 := cellKJ S3.out.2.2.2.2.2 (Q5.out.trans F.kept); go_simp)) rfl), (fun aF wF F => by have s65 := F.v 30 65; have s71 := F.v 36 71; have sg := F.v 24 59; exact step_good ((wanted_guard rfl rfl sg).trans rfl) (by go_simp) (CC.out _ _ _ (DLO.out.kept (Q5.out.trans F.kept)) (DHI.out.kept (Q5.out.trans F.kept))) (fun _ _ h => RetK.good h) (fun _ _ h => h)), (fun aF wF F => by have s72 := F.v 37 72; have sg := F.v 24 59; exact step_val ((wanted_guard rfl rfl sg).trans rfl) (by go_simp) rfl), (fun aF wF F => by have s59 := F.v 24 59; have s73 := F.v 38 73; exact sv rfl), (fun aF wF F => by have s74 := F.v 39 74; exact sv rfl), (fun aF wF F => by have s6 : aF.tmps.getD 6 undef = (.int .i64 1) := F.o 6; have sg := F.v 40 75; exact step_val ((wanted_guard rfl rfl sg).trans rfl) (by go_simp) rfl), (fun aF wF F => by have s76 := F.v 41 76; have sg := F.v 40 75; exact step_val ((wanted_guard rfl rfl sg).trans rfl) (by go_simp) rfl), (fun aF wF F => by have s75 := F.v 40 75; have s77 := F.v 42 77; exact sv rfl), (fun aF wF F => by have s78 := F.v 43 78; exact sv rfl), (fun aF wF F => by have s8 : aF.tmps.getD 8 undef = (.int .i64 1) := F.o 8; have sg := F.v 44 79; exact step_val ((wanted_guard rfl rfl sg).trans rfl) (by go_simp) rfl), (fun aF wF F => by have s80 := F.v 45 80; have sg := F.v 44 79; exact step_val ((wanted_guard rfl rfl sg).trans rfl) (by go_simp) rfl), (fun aF wF F => by have s79 := F.v 44 79; have s81 := F.v 46 81; exact sv rfl), (fun aF wF F => by have s82 := F.v 47 82; exact sv rfl),
    trivial⟩) ?_
 intro u w6 q6 hu
 simp only [puts, slotOf, if_true, Act.put, z1, z2, z3, z4, z5, z6, z7, hv hu 0, hv hu 1, hv hu 2, hv hu 3, hv hu 4, hv hu 5, hv hu 6, hv hu 7, hv hu 8, hv hu 9, hv hu 10, hv hu 11, hv hu 12, hv hu 13, hv hu 14, hv hu 15, hv hu 16, hv hu 17, hv hu 18, hv hu 19, hv hu 20, hv hu 21, hv hu 22, hv hu 23, hv hu 24, hv hu 25, hv hu 26, hv hu 27, hv hu 28, hv hu 29, hv hu 30, hv hu 31, hv hu 32, hv hu 33, hv hu 34, hv hu 35, hv hu 36, hv hu 37, hv hu 38, hv hu 39, hv hu 40, hv hu 41, hv hu 42, hv hu 43, hv hu 44, hv hu 45, hv hu 46, hv hu 47, hv hu 48]
 clear hu
 have KF := Lib.hid (K3.out.trans (Q5.out.trans q6))
 clear q6
 go_wp2_with fail
 go_ret
 exact ⟨rfl, KF.out⟩
end Go.Proofs.YtgododcbmkpbjaaGreatDoor
