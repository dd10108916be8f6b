/- Plain mathematics, no program: whole numbers times a power of two; of their points operations are exact. -/
import Derived.Test.YtgododcbmkpbjaaGreatDoorClaimJexpp14
import Derived.Test.YtgododcbmkpbjaaGreatDoorClaimJexpp24
import Derived.Test.YtgododcbmkpbjaaGreatDoorClaimJexpp32
set_option maxRecDepth 100000
set_option maxHeartbeats 16000000
namespace Go.Proofs.YtgododcbmkpbjaaGreatDoor
open Go.RowKit
/-- The clean one of a raw interval that may be. -/
def RawI.iv (a : RawI) : Iv := ⟨a.lo.dy, a.hi.dy⟩
theorem iv_clean {a : RawI} (h1 : Small a.lo.m) (h2 : Small a.hi.m) (h : mayI a = true) : a.iv.Ok ∧ a.iv.raw = a := by
 unfold mayI at h
 simp only [Bool.and_eq_true, decide_eq_true_eq] at h
 obtain ⟨⟨m1, m2⟩, m3⟩ := h
 obtain ⟨c1, d1⟩ := mayD_clean h1 m1
 obtain ⟨c2, d2⟩ := mayD_clean h2 m2
 exact ⟨⟨d1, d2, cmpQ_le.1 m3⟩, by unfold RawI.iv Iv.raw; simp only [c1, c2]⟩
theorem Iv.raw_iv (a : Iv) : a.raw.iv = a := by unfold Iv.raw RawI.iv; simp only [Dy.raw_dy]
theorem bind_iz {α : Type} {o : Outc α} {f : α → Outc Iv} (hf : ∀ x, (f x).k ≠ 0 → (f x).v = iz) (h : (o.bind iz f).k ≠ 0) : (o.bind iz f).v = iz := by
 unfold Outc.bind at *
 by_cases h1 : o.k = 0
 ·rw [if_pos h1] at h ⊢; exact hf _ h
 ·rw [if_neg h1]
theorem four_iz {a b c d : Outc Dy} {f : Dy → Dy → Dy → Dy → Outc Iv} (hf : ∀ x y z u, (f x y z u).k ≠ 0 → (f x y z u).v = iz) (h : (four a b c d f).k ≠ 0) : (four a b c d f).v = iz := by
 unfold four at *
 exact bind_iz (fun x => bind_iz fun y => bind_iz fun z => bind_iz fun u => hf x y z u) h
theorem divI_iz {a b : Iv} {p : Nat} (h : (divI a b p).k ≠ 0) : (divI a b p).v = iz := by
 unfold divI at *
 by_cases hs : hasZero b = true
 ·rw [if_pos hs]
 ·rw [if_neg hs] at h ⊢; exact four_iz (fun _ _ _ _ h => four_iz (fun _ _ _ _ h => absurd rfl h) h) h
theorem rawO_iz {o : Outc Iv} (h : o.k ≠ 0 → o.v = iz) : (rawO o).k ≠ 0 → (rawO o).v = rzI := fun hk => by
 show o.v.raw = rzI
 rw [h hk, iz_raw]
theorem new_at (w : World) (o : Obj) (n : Nat) (h : w.heap.size = n) : (w.alloc o).heap[n]? = some o := by subst h; exact heap_alloc_new _ _
theorem blkI_at (w : World) (n : Nat) (x y z x' y' z' : Value) (h : w.heap.size = n) : BlkI (w.alloc (.cells #[x, y, z, x', y', z'] 32)) n x y z x' y' z' := new_at w _ n h
/-- The boxes of an operation with two intervals, and the list of both. -/
theorem boxesA2 (w : World) (x0 x1 x2 x3 x4 x5 y0 y1 y2 y3 y4 y5 p : Value) : ∃ W, W = ((((w.alloc (.cells #[x0, x1, x2, x3, x4, x5] 32)).alloc (.cells #[y0, y1, y2, y3, y4, y5] 32)).alloc (.cells #[p] 3)).alloc (.cells #[.bool false, .slice none 0 0, .int .i64 0, .bool false, .slice none 0 0, .int .i64 0] 32)).alloc (.cells #[x0, x1, x2, x3, x4, x5, y0, y1, y2, y3, y4, y5] 32) ∧
 Kept w W ∧ BlkI W w.heap.size x0 x1 x2 x3 x4 x5 ∧ BlkI W (w.heap.size + 1) y0 y1 y2 y3 y4 y5 ∧ W.cell? ⟨w.heap.size + 1 + 1, 0, none⟩ = some p ∧ BlkI W (w.heap.size + 1 + 1 + 1) (.bool false) (.slice none 0 0) (.int .i64 0) (.bool false) (.slice none 0 0) (.int .i64 0) ∧
 W.heap[w.heap.size + 1 + 1 + 1 + 1]? = some (.cells #[x0, x1, x2, x3, x4, x5, y0, y1, y2, y3, y4, y5] 32 (0, 0)) := by
 refine ⟨_, rfl, ((((kept_alloc _ _).trans (kept_alloc _ _)).trans (kept_alloc _ _)).trans (kept_alloc _ _)).trans (kept_alloc _ _), ?_, ?_, ?_, ?_, new_at _ _ _ (by simp)⟩
 ·exact ((((blkI_at w _ _ _ _ _ _ _ rfl).kept (kept_alloc _ _)).kept (kept_alloc _ _)).kept (kept_alloc _ _)).kept (kept_alloc _ _)
 ·exact (((blkI_at _ _ _ _ _ _ _ _ (by simp)).kept (kept_alloc _ _)).kept (kept_alloc _ _)).kept (kept_alloc _ _)
 ·exact cell_kept (kept_alloc _ _) (cell_kept (kept_alloc _ _) (cell_of_block (new_at _ _ _ (by simp)) 0 _ rfl))
 ·exact (blkI_at _ _ _ _ _ _ _ _ (by simp)).kept (kept_alloc _ _)
theorem ivS2 {w : World} {b : Nat} {a a' : RawI} {T : TypeId} {x0 x1 x2 x3 x4 x5 y0 y1 y2 y3 y4 y5 : Value} (h : w.heap[b]? = some (.cells #[x0, x1, x2, x3, x4, x5, y0, y1, y2, y3, y4, y5] T (0, 0))) (h1 : IvR w (.agg #[x0, x1, x2, x3, x4, x5]) a) (h2 : IvR w (.agg #[y0, y1, y2, y3, y4, y5]) a') :
 IvS w (.slice (some ⟨b, 0, none⟩) 2 2) [a, a'] := by
 refine ⟨_, _, rfl, Nat.le_refl _, fun _ => ⟨b, 0, rfl, fun i d hi => ?_⟩⟩
 rcases i with _ | _ | i
 ·simp at hi; subst hi
  exact ⟨_, _, _, _, _, _, cell_of_block h 0 _ rfl, cell_of_block h 1 _ rfl, cell_of_block h 2 _ rfl, cell_of_block h 3 _ rfl, cell_of_block h 4 _ rfl, cell_of_block h 5 _ rfl, h1⟩
 ·simp at hi; subst hi
  exact ⟨_, _, _, _, _, _, cell_of_block h 6 _ rfl, cell_of_block h 7 _ rfl, cell_of_block h 8 _ rfl, cell_of_block h 9 _ rfl, cell_of_block h 10 _ rfl, cell_of_block h 11 _ rfl, h2⟩
 ·simp at hi
theorem blkIv_of {w : World} {b : Nat} {a : RawI} {A A' : Option Addr} {l c l' c' : Nat} (hr : a.iv.raw = a) (h : BlkI w b (.bool a.lo.neg) (.slice A l c) (.int .i64 a.lo.e) (.bool a.hi.neg) (.slice A' l' c') (.int .i64 a.hi.e))
 (h1 : DyR w (.agg #[.bool a.lo.neg, .slice A l c, .int .i64 a.lo.e]) a.lo) (h2 : DyR w (.agg #[.bool a.hi.neg, .slice A' l' c', .int .i64 a.hi.e]) a.hi) : BlkIv w b a.iv := by
 have e1 : a.iv.lo.raw = a.lo := congrArg RawI.lo hr
 have e2 : a.iv.hi.raw = a.hi := congrArg RawI.hi hr
 exact ⟨A, l, c, A', l', c', h, by rw [e1]; exact h1, by rw [e2]; exact h2⟩
theorem DyR.small {w : World} {v : Value} {r : Raw} (h : DyR w v r) : Small r.m := by
 obtain ⟨s, _, hs, _⟩ := h
 exact hs.1
theorem Div_i {w : World} {v u : Value} {a b : RawI} {p : Int} (hv : IvR w v a) (hu : IvR w u b) (la : a.lens 17592186044416) (lb : b.lens 17592186044416) (hT : Tab w) :
 Calls Tryz.prog 105 #[v, u, .int .i64 p] w (RetIE (faceO p [a, b] (rawO (divI a.iv b.iv p.toNat))) w) := by
 have hmf : ∀ (fn : Fn) (first cap : Array Value) (w : World), (Instr.makeFunc fn first cap).run Tryz.prog w = .ok (.func fn first cap) w := fun _ _ _ _ => rfl
 obtain ⟨A, l, c, A', l', c', rfl, h1, h2⟩ := ivR_split hv
 obtain ⟨B, j, e, B', j', e', rfl, g1, g2⟩ := ivR_split hu
 obtain ⟨W, hW, kW, BA, BB, cp, BR, BL⟩ := boxesA2 w (.bool a.lo.neg) (.slice A l c) (.int .i64 a.lo.e) (.bool a.hi.neg) (.slice A' l' c') (.int .i64 a.hi.e) (.bool b.lo.neg) (.slice B j e) (.int .i64 b.lo.e) (.bool b.hi.neg) (.slice B' j' e') (.int .i64 b.hi.e) (.int .i64 p)
 have hf := face_cA (w := W) (K := 130) (cap := #[.pointer (some ⟨w.heap.size + 1, 0, none⟩), .pointer (some ⟨w.heap.size, 0, none⟩), .pointer (some ⟨w.heap.size + 1 + 1, 0, none⟩)]) (p := p) (l := [a, b]) (o := rawO (divI a.iv b.iv p.toNat))
  (ivS2 BL ⟨_, _, _, _, _, _, rfl, h1.kept kW, h2.kept kW⟩ ⟨_, _, _, _, _, _, rfl, g1.kept kW, g2.kept kW⟩)
  (by intro x hx; simp only [List.mem_cons, List.not_mem_nil, or_false] at hx; rcases hx with rfl | rfl; exact la; exact lb) (by simp)
  (fun p1 p2 hall w1 k => by
    simp only [List.all_cons, List.all_nil, Bool.and_true, Bool.and_eq_true] at hall
    obtain ⟨oa, ra⟩ := iv_clean h1.small h2.small hall.1
    obtain ⟨ob, rb⟩ := iv_clean g1.small g2.small hall.2
    have hp : ((p.toNat : Nat) : Int) = p := Int.toNat_of_nonneg (by omega)
    exact adiv1_c (p := p.toNat) oa ob (hT.kept (kW.trans k)) (by omega) (by omega) (blkIv_of ra (BA.kept k) (h1.kept (kW.trans k)) (h2.kept (kW.trans k))) (blkIv_of rb (BB.kept k) (g1.kept (kW.trans k)) (g2.kept (kW.trans k))) (by rw [hp]; exact cell_kept k cp))
  (rawO_iz divI_iz) (fun _ => rfl)
 generalize faceO p [a, b] (rawO (divI a.iv b.iv p.toNat)) = o at *
 have HF := Lib.hid hf
 have HW := Lib.hid hW
 have HK := Lib.hid kW
 have HR := Lib.hid BR
 clear hf hW kW BA BB BR BL cp h1 h2 g1 g2 hv hu la lb hT
 generalize a.lo.neg = n1 at *
 generalize a.lo.e = e1 at *
 generalize a.hi.neg = n2 at *
 generalize a.hi.e = e2 at *
 generalize b.lo.neg = n3 at *
 generalize b.lo.e = e3 at *
 generalize b.hi.neg = n4 at *
 generalize b.hi.e = e4 at *
 go_enter Tryz.func105, Tryz.ntmps105
 go_wp2_with (go_at_call 129; rw [← HW.out]; refine HF.out.mono ?_; rintro e w1 ⟨q, u, rfl, hd⟩; obtain ⟨A1, j1, k1', A2, j2, k2', rfl, z1, z2⟩ := ivR_split hd; have Z1 := Lib.hid z1; have Z2 := Lib.hid z2; have hb2 := HR.out.kept q; obtain ⟨hsz, c0, c1, c2, c3, c4, c5⟩ := hb2.facts; obtain ⟨f0, f1, f2, f3, f4, f5⟩ := hb2.free; have HRR := Lib.hid hb2; clear hd hb2 z1 z2)
 exact ret_iv2 (HRR.out.laid _ _ _ _ _ _) rfl rfl rfl ⟨ivW_kept (HK.out.trans q) (by omega), _, rfl, _, _, _, _, _, _, rfl, Z1.out.ivW HRR.out _ _ _ _ _ _, Z2.out.ivW HRR.out _ _ _ _ _ _⟩
/-- A line of a tape. -/
structure Ln where
 op : Int
 a : Int
 b : Int
 k : RawI
/-- What lines stand for. -/
structure En where
 t : RawI
 x : List RawI
 u : List RawI
 p : List RawI
/-- How many lines an operation leans on. -/
def partsP (op : Int) : Int :=
 if op = 1 ∨ op = 2 ∨ op = 3 ∨ op = 4 ∨ op = 5 then 0 else if op = 6 ∨ op = 7 ∨ op = 8 ∨ op = 9 then 2 else if op = 10 ∨ op = 11 ∨ op = 12 ∨ op = 13 then 1 else -1
def belowP (n most : Int) : Bool := decide (0 ≤ n) && decide (n < most)
def sameI (a b : RawI) : Bool := sameR a.lo b.lo && sameR a.hi b.hi
/-- Whether a line may stand at a place, of so many states, inputs, parameters. -/
def mayL (l : Ln) (at' : Int) (x u p : Int) : Bool :=
 if l.op = 1 then mayI l.k && (decide (l.a = 0) && decide (l.b = 0)) else
 if sameI l.k rzI = false then false else
 if l.op = 2 then decide (l.a = 0) && decide (l.b = 0) else
 if l.op = 3 then belowP l.a x && decide (l.b = 0) else
 if l.op = 4 then belowP l.a u && decide (l.b = 0) else
 if l.op = 5 then belowP l.a p && decide (l.b = 0) else
 if l.op = 6 ∨ l.op = 7 ∨ l.op = 8 ∨ l.op = 9 then belowP l.a at' && belowP l.b at' else
 if l.op = 10 ∨ l.op = 11 ∨ l.op = 12 ∨ l.op = 13 then belowP l.a at' && decide (l.b = 0) else false
/-- .. each of a list, from place i on. -/
def mayLs (x u p : Int) : Nat → List Ln → Bool
 | _, [] => true
 | i, l :: ls => mayL l i x u p && mayLs x u p (i + 1) ls
def mayT (ls : List Ln) (outs : List Int) (x u p : Int) : Bool :=
 decide (ls.length ≤ 200) && decide (outs.length ≤ 200) && mayLs x u p 0 ls && outs.all fun n => belowP n ls.length
def roundI (a : Iv) (p : Nat) : Outc Iv := ends (dirD a.lo p false) (dirD a.hi p true)
def atI (l : List RawI) (n : Int) : Iv := (l.getD n.toNat rzI).iv
theorem roundI_ok {a : Iv} (ha : a.Ok) {p : Nat} (hp : 1 ≤ p) : OkI (roundI a p) := by
 unfold roundI
 refine ends_okI (dirD_ok _ _ _) (dirD_ok _ _ _) fun k1 k2 => ?_
 have d1 := (dirD_down hp k1).le
 have d2 := (dirD_up hp k2).le
 have := ha.le
 grind
/-- Raw intervals that are clean ones. -/
def Cl (l : List RawI) : Prop := ∀ a ∈ l, a.iv.Ok ∧ a.iv.raw = a
theorem cl_raw {a : Iv} (h : a.Ok) : a.raw.iv.Ok ∧ a.raw.iv.raw = a.raw := by rw [Iv.raw_iv]; exact ⟨h, rfl⟩
theorem Cl.snoc {l : List RawI} {a : Iv} (h : Cl l) (ha : a.Ok) : Cl (l ++ [a.raw]) := by
 intro x hx
 rcases List.mem_append.1 hx with hx | hx
 ·exact h x hx
 ·simp at hx; subst hx; exact cl_raw ha
theorem rzI_iv : rzI.iv = iz := rfl
theorem Cl.at {l : List RawI} (h : Cl l) (n : Int) : (atI l n).Ok := by
 unfold atI
 rw [List.getD_eq_getElem?_getD]
 cases hi : l[n.toNat]? with
 | none => simp only [Option.getD_none]; rw [rzI_iv]; exact iz_ok
 | some a => simp only [Option.getD_some]; exact (h a (List.mem_of_getElem? hi)).1
structure En.Cl (e : En) : Prop where
 t : e.t.iv.Ok ∧ e.t.iv.raw = e.t
 x : Go.Proofs.YtgododcbmkpbjaaGreatDoor.Cl e.x
 u : Go.Proofs.YtgododcbmkpbjaaGreatDoor.Cl e.u
 p : Go.Proofs.YtgododcbmkpbjaaGreatDoor.Cl e.p
theorem faceO_ok {p : Int} {l : List RawI} {o : Outc RawI} (p1 : 1 ≤ p) (p2 : p ≤ 2000) (h : l.all mayI = true) : faceO p l o = o := by unfold faceO; rw [if_pos ⟨p1, p2, h⟩]
theorem Div_k {w : World} {v u : Value} {a b : Iv} {p : Nat} (hv : IvC w v a) (hu : IvC w u b) (ha : a.Ok) (hb : b.Ok) (hT : Tab w) (p1 : 1 ≤ p) (p2 : p ≤ 2000) :
 Calls Tryz.prog 105 #[v, u, .int .i64 p] w (RetIE (rawO (divI a b p)) w) := by
 have h := Div_i (p := (p : Int)) hv hu (iv_lens ha) (iv_lens hb) hT
 rw [faceO_ok (by omega) (by omega) (by simp [mayI_raw ha, mayI_raw hb]), Iv.raw_iv, Iv.raw_iv, Int.toNat_natCast] at h
 exact h
def dm : Dy := ⟨true, 1, 0⟩
def dt : Dy := ⟨false, 1, 1⟩
def d1 : Dy := ⟨false, 1, 0⟩
def d4 : Dy := ⟨false, 1, 2⟩
def mt : Iv := ⟨dm, dt⟩
def R4 : Raw := ⟨false, [1], 2⟩
/-- One step behind another. -/
def Outc.th (o : Outc Iv) (f : Iv → Outc Iv) : Outc Iv := if o.k = 0 then f o.v else ⟨iz, o.k⟩
def gI (l : List RawI) (n : Nat) : Iv := (l.getD n rzI).iv
/-- Clean intervals. -/
def Gd (l : List RawI) : Prop := ∀ a ∈ l, a.iv.Ok ∧ a.iv.raw = a
/-- A whole number. -/
def ptN (n : Nat) : Iv := pt (fitD false n 0).v
/-- Products of two series, summed: at the places named. -/
def sumL (p : Nat) (a b : List RawI) (n : Nat) : Iv → List Nat → Outc Iv
 | s, [] => ⟨s, 0⟩
 | s, j :: js => (mulI (gI a j) (gI b (n - j)) p).th fun q => (addI s q p).th fun s' => sumL p a b n s' js
def sumJ (p : Nat) (a b : List RawI) (n : Nat) : Outc Iv := (mulI (gI a 0) (gI b n) p).th fun s => sumL p a b n s (List.range' 1 n)
/-- A number less such products. -/
def lessL (p : Nat) (a b : List RawI) (n : Nat) : Iv → List Nat → Outc Iv
 | s, [] => ⟨s, 0⟩
 | s, j :: js => (mulI (gI a j) (gI b (n - j)) p).th fun q => (subI s q p).th fun s' => lessL p a b n s' js
def expoL (p : Nat) (a c : List RawI) (n : Nat) : Iv → List Nat → Outc Iv
 | s, [] => ⟨s, 0⟩
 | s, j :: js => (mulI (ptN j) (gI a j) p).th fun u => (mulI u (gI c (n - j)) p).th fun q => (addI s q p).th fun s' => expoL p a c n s' js
/-- The coefficient n of a line, c its coefficients up to there. -/
def nextJ (ov : Iv → Nat → Outc Iv) (p : Nat) (op : Int) (a b c : List RawI) (n : Nat) : Outc Iv :=
 if op = 6 then addI (gI a n) (gI b n) p else if op = 7 then subI (gI a n) (gI b n) p else if op = 10 then negI (gI a n) p else
 if op = 8 then sumJ p a b n else if op = 9 then (lessL p b c n (gI a n) (List.range' 1 n)).th fun x => divI x (gI b 0) p else
 if op = 11 then (if n = 0 then sqrI (gI a 0) p else sumJ p a a n) else
 if op = 12 then (if n = 0 then sqrtI (gI a 0) p else (lessL p c c n (gI a n) (List.range' 1 (n - 1))).th fun x => (addI (gI c 0) (gI c 0) p).th fun y => divI x y p) else
 if n = 0 then ov (gI a 0) p else
 (mulI (ptN 1) (gI a 1) p).th fun u => (mulI u (gI c (n - 1)) p).th fun s => (expoL p a c n s (List.range' 2 (n - 1))).th fun s => divI s (ptN n) p
/-- A line's coefficients, behind those there are: rounded ones of what is given, or the next ones. -/
def coefG (p : Nat) (g : List RawI) : List RawI → List Nat → Outc (List RawI)
 | c, [] => ⟨c, 0⟩
 | c, n :: ns => if (roundI (gI g n) p).k = 0 then coefG p g (c ++ [(roundI (gI g n) p).v.raw]) ns else ⟨[], (roundI (gI g n) p).k⟩
def coefN (ov : Iv → Nat → Outc Iv) (p : Nat) (op : Int) (a b : List RawI) : List RawI → List Nat → Outc (List RawI)
 | c, [] => ⟨c, 0⟩
 | c, n :: ns => if (nextJ ov p op a b c n).k = 0 then coefN ov p op a b (c ++ [(nextJ ov p op a b c n).v.raw]) ns else ⟨[], (nextJ ov p op a b c n).k⟩
def rowJ (l : List (List RawI)) (n : Int) : List RawI := l.getD n.toNat []
/-- A value's series. -/
def constJ (a : RawI) (k : Nat) : List RawI := a :: List.replicate k rzI
def lineJ (ov : Iv → Nat → Outc Iv) (p : Nat) (l : Ln) (all : List (List RawI)) (t : List RawI) (x q : List (List RawI)) (k : Nat) : Outc (List RawI) :=
 if l.op = 1 then coefG p (constJ l.k k) [] (List.range (k + 1)) else if l.op = 2 then coefG p t [] (List.range (k + 1)) else
 if l.op = 3 then coefG p (rowJ x l.a) [] (List.range (k + 1)) else if l.op = 5 then coefG p (rowJ q l.a) [] (List.range (k + 1)) else
 coefN ov p l.op (rowJ all l.a) (rowJ all l.b) [] (List.range (k + 1))
def linesJ (ov : Iv → Nat → Outc Iv) (p : Nat) (t : List RawI) (x q : List (List RawI)) (k : Nat) : List (List RawI) → List Ln → Outc (List (List RawI))
 | all, [] => ⟨all, 0⟩
 | all, l :: ls => if (lineJ ov p l all t x q k).k = 0 then linesJ ov p t x q k (all ++ [(lineJ ov p l all t x q k).v]) ls else ⟨[], (lineJ ov p l all t x q k).k⟩
def seriesJ (ov : Iv → Nat → Outc Iv) (p : Nat) (ls : List Ln) (outs : List Int) (t : List RawI) (x q : List (List RawI)) (k : Nat) : Outc (List (List RawI)) :=
 if (linesJ ov p t x q k [] ls).k = 0 then ⟨outs.map fun n => rowJ (linesJ ov p t x q k [] ls).v n, 0⟩ else ⟨[], (linesJ ov p t x q k [] ls).k⟩
def fullJ (l : List (List RawI)) (k : Int) : Bool := l.all fun c => decide ((c.length : Int) = k + 1) && c.all mayI
def withinJ (k b : Int) : Bool := decide (0 ≤ k) && decide (k ≤ 12) && decide (1 ≤ b) && decide (b ≤ 300)
/-- The states' coefficients, each one further. -/
def growJ (p n : Nat) : List (List RawI) → List (List RawI) → Outc (List (List RawI))
 | o :: os, c :: cs => if (divI (gI c n) (ptN (n + 1)) p).k = 0 then
     (if (growJ p n os cs).k = 0 then ⟨(o ++ [(divI (gI c n) (ptN (n + 1)) p).v.raw]) :: (growJ p n os cs).v, 0⟩ else ⟨[], (growJ p n os cs).k⟩) else ⟨[], (divI (gI c n) (ptN (n + 1)) p).k⟩
 | os, _ => ⟨os, 0⟩
def stepsJ (ov : Iv → Nat → Outc Iv) (p : Nat) (ls : List Ln) (outs : List Int) (time : List RawI) (q : List RawI) : List (List RawI) → List Nat → Outc (List (List RawI))
 | o, [] => ⟨o, 0⟩
 | o, n :: ns =>
   if (seriesJ ov p ls outs (time.take (n + 1)) o (q.map fun a => constJ a n) n).k ≠ 0 then ⟨[], (seriesJ ov p ls outs (time.take (n + 1)) o (q.map fun a => constJ a n) n).k⟩ else
   if (growJ p n o (seriesJ ov p ls outs (time.take (n + 1)) o (q.map fun a => constJ a n) n).v).k ≠ 0 then ⟨[], (growJ p n o (seriesJ ov p ls outs (time.take (n + 1)) o (q.map fun a => constJ a n) n).v).k⟩ else
   stepsJ ov p ls outs time q (growJ p n o (seriesJ ov p ls outs (time.take (n + 1)) o (q.map fun a => constJ a n) n).v).v ns
end Go.Proofs.YtgododcbmkpbjaaGreatDoor
namespace Go.Proofs.YtgododcbmkpbjaaGreatDoor
/-- A Dyad of the grain 2^-A, below 2^B. -/
structure Rg (d : Dy) (A B : Int) : Prop where
 ok : d.Ok
 lo : d.m ≠ 0 → -A ≤ d.e
 hi : d.m ≠ 0 → bl d.m + d.e ≤ B
theorem Rg.zero (A B : Int) : Rg dz A B := ⟨dz_ok, fun h => absurd rfl h, fun h => absurd rfl h⟩
theorem Rg.mono {d : Dy} {A B A' B' : Int} (h : Rg d A B) (hA : A ≤ A') (hB : B ≤ B') : Rg d A' B' := ⟨h.ok, fun h0 => by have := h.lo h0; omega, fun h0 => by have := h.hi h0; omega⟩
theorem Rg.neg {d : Dy} {A B : Int} (h : Rg d A B) : Rg (negD d) A B := by
 refine ⟨negD_ok h.ok, ?_, ?_⟩ <;> unfold negD <;> split <;> first | exact h.lo | exact h.hi
theorem fitD_rg {neg : Bool} {n : Nat} {e A B : Int} (h1 : n ≠ 0 → -A ≤ e) (h2 : n ≠ 0 → bl n + e ≤ B) (hb : bl n ≤ 4000) (hA : A ≤ 100000) (hB : B ≤ 100000) :
 (fitD neg n e).k = 0 ∧ Rg (fitD neg n e).v A B := by
 have ok := (fitD_ok neg n e).1
 by_cases h0 : n = 0
 ·subst h0; exact ⟨rfl, Rg.zero _ _⟩
 ·have h1 := h1 h0
  have h2 := h2 h0
  have ht : tz n < bl n := tz_lt n (bl n) h0 (lt_two_bl n)
  have hd : bl (n / 2 ^ tz n) = bl n - tz n := bl_div _ _
  have hl : (limbs (n / 2 ^ tz n)).length ≤ 64 := limbs_len (k := 64) (by omega)
  unfold fitD at ok ⊢
  rw [if_neg h0, if_neg (by omega), if_neg (by omega), if_neg (by omega)] at ok ⊢
  exact ⟨rfl, ok, fun _ => by show -A ≤ e + tz n; omega, fun _ => by show (bl (n / 2 ^ tz n) : Int) + (e + tz n) ≤ B; omega⟩
theorem cutD_rg {neg : Bool} {m : Nat} {e A B : Int} {rest : Bool} {p : Nat} {up : Bool} (h1 : m ≠ 0 → -A ≤ e) (h2 : m ≠ 0 → bl m + e ≤ B) (h0 : rest = true → p < bl m) (hp : p ≤ 2000) (hA : A ≤ 100000) (hB : B ≤ 99999) :
 (cutD neg m e rest p up).k = 0 ∧ Rg (cutD neg m e rest p up).v A (B + 1) := by
 unfold cutD
 have hb : bl (m / 2 ^ (bl m - p)) = bl m - (bl m - p) := bl_div _ _
 have h2' : cutM m rest p (up != neg) ≤ m / 2 ^ (bl m - p) + 1 := by
  unfold cutM cutN
  simp only
  split <;> omega
 have h3 := lt_two_bl (m / 2 ^ (bl m - p))
 have h6 : bl (cutM m rest p (up != neg)) ≤ bl (m / 2 ^ (bl m - p)) + 1 := bl_le _ _ (by
  have := Nat.two_pow_succ (bl (m / 2 ^ (bl m - p)))
  have := Nat.two_pow_pos (bl (m / 2 ^ (bl m - p)))
  generalize m / 2 ^ (bl m - p) = z at *
  omega)
 by_cases hm : m = 0
 ·have hr : rest = false := by
   cases rest with
   | false => rfl
   | true => have := h0 rfl; rw [hm, bl_zero] at this; omega
  subst hm hr
  have : cutM 0 false p (up != neg) = 0 := by unfold cutM cutN; simp [bl]
  rw [this]
  exact ⟨rfl, Rg.zero _ _⟩
 ·have := h1 hm
  have := h2 hm
  exact fitD_rg (fun _ => by omega) (fun _ => by omega) (by omega) hA (by omega)
theorem dirD_rg {d : Dy} {A B : Int} {p : Nat} {up : Bool} (h : Rg d A B) (hp : p ≤ 2000) (hA : A ≤ 100000) (hB : B ≤ 99999) : (dirD d p up).k = 0 ∧ Rg (dirD d p up).v A (B + 1) :=
 cutD_rg h.lo h.hi (fun h => by cases h) hp hA hB
theorem mulD_rg {x y : Dy} {A B A' B' : Int} (hx : Rg x A B) (hy : Rg y A' B') (hA : A + A' ≤ 100000) (hB : B + B' ≤ 100000) (h : A + B + A' + B' ≤ 4000) : (mulD x y).k = 0 ∧ Rg (mulD x y).v (A + A') (B + B') := by
 by_cases h1 : x.m = 0
 ·unfold mulD; rw [h1, Nat.zero_mul]; exact ⟨rfl, Rg.zero _ _⟩
 ·by_cases h2 : y.m = 0
  ·unfold mulD; rw [h2, Nat.mul_zero]; exact ⟨rfl, Rg.zero _ _⟩
  ·have := hx.lo h1
   have := hx.hi h1
   have := hy.lo h2
   have := hy.hi h2
   have hb := mul_lt_bl (Nat.le_refl (bl x.m)) (Nat.le_refl (bl y.m))
   exact fitD_rg (fun _ => by omega) (fun _ => by omega) (by omega) hA hB
theorem bl_quot {x y : Nat} (h : y ≠ 0) : bl (x / y) ≤ bl x - (bl y - 1) := by
 have hy : 2 ^ (bl y - 1) ≤ y := two_bl_le y h
 rw [← bl_div]
 exact bl_mono (Nat.div_le_div_left hy (Nat.two_pow_pos _))
theorem quotD_rg {a b : Dy} {A B A' B' : Int} {p : Nat} {up : Bool} (ha : Rg a A B) (hb : Rg b A' B') (hm : b.m ≠ 0) (hp : p ≤ 1900) (hA : A + B' + p + 1 ≤ 100000) (hB : B + A' + 1 ≤ 99999) :
 (quotD a b p up).k = 0 ∧ Rg (quotD a b p up).v (A + B' + p + 1) (B + A' + 2) := by
 have b1 := hb.lo hm
 have b2 := hb.hi hm
 have bp := bl_pos _ hm
 unfold quotD
 have e : B + A' + 2 = (B + A' + 1) + 1 := by omega
 rw [e]
 by_cases h1 : a.m = 0
 ·rw [h1, Nat.zero_mul]
  refine cutD_rg (fun h => absurd (Nat.zero_div _) h) (fun h => absurd (Nat.zero_div _) h) (fun h => ?_) (by omega) hA hB
  simp at h
 ·have a1 := ha.lo h1
  have a2 := ha.hi h1
  have ap := bl_pos _ h1
  have hK : quotK a b p = p + 1 + bl b.m - bl a.m := rfl
  have hq := quot_bl a.m b.m p h1 hm (quotK a b p) (by omega)
  have hk : bl (2 ^ quotK a b p) ≤ quotK a b p + 1 := bl_le _ _ (Nat.pow_lt_pow_right (by decide) (by omega))
  have hm2 := mul_lt_bl (Nat.le_refl (bl a.m)) hk
  have hd := bl_quot (x := a.m * 2 ^ quotK a b p) hm
  refine cutD_rg (fun _ => by omega) (fun _ => by omega) (fun _ => hq) (by omega) hA hB
/-- Both ends of an interval. -/
structure RgI (a : Iv) (A B : Int) : Prop where
 lo : Rg a.lo A B
 hi : Rg a.hi A B
theorem RgI.mono {a : Iv} {A B A' B' : Int} (h : RgI a A B) (hA : A ≤ A') (hB : B ≤ B') : RgI a A' B' := ⟨h.lo.mono hA hB, h.hi.mono hA hB⟩
theorem RgI.pt {d : Dy} {A B : Int} (h : Rg d A B) : RgI (pt d) A B := ⟨h, h⟩
theorem RgI.zero (A B : Int) : RgI iz A B := ⟨Rg.zero _ _, Rg.zero _ _⟩
def GoodI (o : Outc Iv) (A B : Int) : Prop := o.k = 0 ∧ RgI o.v A B
theorem GoodI.mono {o : Outc Iv} {A B A' B' : Int} (h : GoodI o A B) (hA : A ≤ A') (hB : B ≤ B') : GoodI o A' B' := ⟨h.1, h.2.mono hA hB⟩
theorem ends_rg {lo hi : Outc Dy} {A B : Int} (h1 : lo.k = 0 ∧ Rg lo.v A B) (h2 : hi.k = 0 ∧ Rg hi.v A B) : GoodI (ends lo hi) A B := by
 unfold ends
 rw [Outc.bind_of _ _ h1.1, Outc.bind_of _ _ h2.1]
 exact ⟨rfl, h1.2, h2.2⟩
theorem roundI_rg {a : Iv} {A B : Int} {p : Nat} (ha : RgI a A B) (hp : p ≤ 2000) (hA : A ≤ 100000) (hB : B ≤ 99990) : GoodI (roundI a p) A (B + 1) :=
 ends_rg (dirD_rg ha.lo hp hA (by omega)) (dirD_rg ha.hi hp hA (by omega))
theorem least4_rg {x y z u : Dy} {A B : Int} (hx : Rg x A B) (hy : Rg y A B) (hz : Rg z A B) (hu : Rg u A B) : Rg (leastD x [x, y, z, u]) A B := by
 rcases least4_mem (x := x) (y := y) (z := z) (u := u) with h | h | h | h <;> rw [h] <;> assumption
theorem greatest4_rg {x y z u : Dy} {A B : Int} (hx : Rg x A B) (hy : Rg y A B) (hz : Rg z A B) (hu : Rg u A B) : Rg (greatestD x [x, y, z, u]) A B := by
 rcases greatest4_mem (x := x) (y := y) (z := z) (u := u) with h | h | h | h <;> rw [h] <;> assumption
theorem divI_rg {a b : Iv} {A B A' B' : Int} {p : Nat} (ha : RgI a A B) (hb : RgI b A' B') (ob : b.Ok) (hz : ¬ hasZero b = true) (hp : p ≤ 1900) (hA : A + B' + p + 1 ≤ 100000) (hB : B + A' + 1 ≤ 99999) :
 GoodI (divI a b p) (A + B' + p + 1) (B + A' + 2) := by
 obtain ⟨n1, n2⟩ := hasZero_nz ob hz
 unfold divI
 rw [if_neg hz]
 have q := fun up => quotD_rg (up := up) ha.lo hb.lo n1 hp hA hB
 have q2 := fun up => quotD_rg (up := up) ha.lo hb.hi n2 hp hA hB
 have q3 := fun up => quotD_rg (up := up) ha.hi hb.lo n1 hp hA hB
 have q4 := fun up => quotD_rg (up := up) ha.hi hb.hi n2 hp hA hB
 rw [four_all (q false).1 (q2 false).1 (q3 false).1 (q4 false).1, four_all (q true).1 (q2 true).1 (q3 true).1 (q4 true).1]
 exact ⟨rfl, least4_rg (q false).2 (q2 false).2 (q3 false).2 (q4 false).2, greatest4_rg (q true).2 (q2 true).2 (q3 true).2 (q4 true).2⟩
/-- A number lies in an interval. -/
def In (x : Rat) (a : Iv) : Prop := a.lo.q ≤ x ∧ x ≤ a.hi.q
theorem in_pt (d : Dy) : In d.q (pt d) := ⟨Rat.le_refl, Rat.le_refl⟩
theorem roundI_in {a : Iv} {x : Rat} {p : Nat} (hp : 1 ≤ p) (hk : (roundI a p).k = 0) (hx : In x a) : In x (roundI a p).v := by
 unfold roundI at *
 obtain ⟨h1, h2, h3⟩ := ends_ok hk
 rw [h3]
 have := (dirD_down hp h1).le
 have := (dirD_up hp h2).le
 obtain ⟨x1, x2⟩ := hx
 exact ⟨by show (dirD a.lo p false).v.q ≤ x; grind, by show x ≤ (dirD a.hi p true).v.q; grind⟩
theorem inv_anti {x y : Rat} (hx : 0 < x) (h : x ≤ y) : y⁻¹ ≤ x⁻¹ := by
 have hy : 0 < y := by grind
 have hx' := Rat.inv_pos.2 hx
 have hy' := Rat.inv_pos.2 hy
 have e1 : x * x⁻¹ = 1 := Rat.mul_inv_cancel _ (by grind)
 have e2 : y * y⁻¹ = 1 := Rat.mul_inv_cancel _ (by grind)
 have h1 : x * (x⁻¹ * y⁻¹) ≤ y * (x⁻¹ * y⁻¹) := Rat.mul_le_mul_of_nonneg_right h (Rat.le_of_lt (Rat.mul_pos hx' hy'))
 have e3 : x * (x⁻¹ * y⁻¹) = y⁻¹ := by rw [← Rat.mul_assoc, e1, Rat.one_mul]
 have e4 : y * (x⁻¹ * y⁻¹) = x⁻¹ := by rw [Rat.mul_comm x⁻¹, ← Rat.mul_assoc, e2, Rat.one_mul]
 rw [e3, e4] at h1
 exact h1
theorem inv_antiN {x y : Rat} (hy : y < 0) (h : x ≤ y) : y⁻¹ ≤ x⁻¹ := by
 have h1 := inv_anti (x := -y) (y := -x) (by grind) (by grind)
 have e : ∀ z : Rat, z ≠ 0 → (-z)⁻¹ = -(z⁻¹) := by intro z hz; grind
 rw [e x (by grind), e y (by grind)] at h1
 grind
theorem div_in {a b : Iv} {x y : Rat} {p : Nat} (ob : b.Ok) (hp : 1 ≤ p) (hk : (divI a b p).k = 0) (hx : In x a) (hy : In y b) : In (x / y) (divI a b p).v := by
 unfold divI at hk ⊢
 by_cases hz : hasZero b = true
 ·rw [if_pos hz] at hk; exact absurd hk (by decide)
 ·rw [if_neg hz] at hk ⊢
  obtain ⟨n1, n2⟩ := hasZero_nz ob hz
  have hz' : ¬ (b.lo.q ≤ 0 ∧ 0 ≤ b.hi.q) := fun h => hz ((hasZero_iff b).2 h)
  obtain ⟨k1, k2, k3, k4, e⟩ := four_ok hk
  rw [e] at hk ⊢
  obtain ⟨k5, k6, k7, k8, e⟩ := four_ok hk
  rw [e]
  obtain ⟨l1, l2, l3, l4⟩ := least4 (x := (quotD a.lo b.lo p false).v) (y := (quotD a.lo b.hi p false).v) (z := (quotD a.hi b.lo p false).v) (u := (quotD a.hi b.hi p false).v)
  obtain ⟨g1, g2, g3, g4⟩ := greatest4 (x := (quotD a.lo b.lo p true).v) (y := (quotD a.lo b.hi p true).v) (z := (quotD a.hi b.lo p true).v) (u := (quotD a.hi b.hi p true).v)
  have c1 := (quotD_down hp n1 k1).le
  have c2 := (quotD_down hp n2 k2).le
  have c3 := (quotD_down hp n1 k3).le
  have c4 := (quotD_down hp n2 k4).le
  have c5 := (quotD_up hp n1 k5).le
  have c6 := (quotD_up hp n2 k6).le
  have c7 := (quotD_up hp n1 k7).le
  have c8 := (quotD_up hp n2 k8).le
  have hle := ob.le
  obtain ⟨y1, y2⟩ := hy
  have inv : b.hi.q⁻¹ ≤ y⁻¹ ∧ y⁻¹ ≤ b.lo.q⁻¹ := by
   by_cases hpos : 0 < b.lo.q
   ·exact ⟨inv_anti (by grind) y2, inv_anti hpos y1⟩
   ·have hneg : b.hi.q < 0 := by grind
    exact ⟨inv_antiN hneg y2, inv_antiN (by grind) y1⟩
  show (leastD _ _).q ≤ x / y ∧ x / y ≤ (greatestD _ _).q
  simp only [Rat.div_def] at c1 c2 c3 c4 c5 c6 c7 c8 ⊢
  generalize leastD _ _ = L at *
  generalize greatestD _ _ = H at *
  exact ⟨bilin hx.1 hx.2 inv.1 inv.2 (by grind) (by grind) (by grind) (by grind), bilin' hx.1 hx.2 inv.1 inv.2 (by grind) (by grind) (by grind) (by grind)⟩
def two : Iv := pt dt
/-- z times 2^e. -/
def dyz (z : Int) (e : Int) : Dy := (fitD (decide (z < 0)) z.natAbs e).v
/-- Small ones. -/
def SmZ (z : Int) (e : Int) : Prop := z.natAbs < 2 ^ 60 ∧ -40 ≤ e ∧ e ≤ 0
theorem sq_int (z : Int) : sq (decide (z < 0)) z.natAbs = (z : Rat) := by
 unfold sq
 by_cases h : z < 0
 ·rw [if_pos (by simpa using h)]
  obtain ⟨n, rfl⟩ : ∃ n : Nat, z = -(n : Int) := ⟨z.natAbs, by omega⟩
  rw [Int.natAbs_neg, Int.natAbs_natCast, Rat.intCast_neg]; rfl
 ·rw [if_neg (by simpa using h)]
  obtain ⟨n, rfl⟩ : ∃ n : Nat, z = (n : Int) := ⟨z.natAbs, by omega⟩
  rw [Int.natAbs_natCast]; rfl
theorem dyz_fit {z e : Int} (h : SmZ z e) : fitD (decide (z < 0)) z.natAbs e = ⟨dyz z e, 0⟩ := by
 obtain ⟨h1, h2, h3⟩ := h
 have hb := bl_le _ _ h1
 have := (fitD_small (neg := decide (z < 0)) (n := z.natAbs) (e := e) (by omega) (by omega) (by omega)).1
 unfold dyz
 generalize fitD (decide (z < 0)) z.natAbs e = o at *
 cases o with | mk v k => simp only at this; subst this; rfl
theorem dyz_ok (z e : Int) : (dyz z e).Ok := (fitD_ok _ _ _).1
theorem dyz_q {z e : Int} (h : SmZ z e) : (dyz z e).q = (z : Rat) * pw e := by
 have := fitD_q (neg := decide (z < 0)) (n := z.natAbs) (e := e) (by rw [dyz_fit h])
 rw [sq_int] at this
 exact this
end Go.Proofs.YtgododcbmkpbjaaGreatDoor
