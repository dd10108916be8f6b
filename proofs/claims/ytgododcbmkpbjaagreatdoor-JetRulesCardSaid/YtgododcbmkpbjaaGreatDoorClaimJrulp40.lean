/- Contracts of package jet, seventeenth part: Solve for one state, whole; short tapes in memory; arguments read. -/
import Derived.Test.YtgododcbmkpbjaaGreatDoorClaimJrulp31
import Derived.Test.YtgododcbmkpbjaaGreatDoorClaimJrulp38
import Derived.Test.YtgododcbmkpbjaaGreatDoorClaimJrulp39
set_option maxRecDepth 100000
set_option maxHeartbeats 16000000
namespace Go.Proofs.YtgododcbmkpbjaaGreatDoor
open Go.Lib (hid)
open Go.RowKit
def Cf (f : Nat → Rat) (A B : Nat → Int) (l : List RawI) : Prop := ∀ i,i < l.length → ((gI l i).Ok ∧ l[i]? = some (gI l i).raw) ∧ RgI (gI l i) (A i) (B i) ∧ In (f i) (gI l i)
theorem Cf.gd {f : Nat → Rat} {A B : Nat → Int} {l : List RawI} (h : Cf f A B l) : Gd l := by
 intro a ha
 obtain ⟨i,hi,rfl⟩ := List.getElem_of_mem ha
 obtain ⟨⟨h1,h2⟩,-⟩ := h i hi
 rw [List.getElem?_eq_getElem hi] at h2
 injection h2 with h2
 rw [h2,Iv.raw_iv]
 exact ⟨h1,rfl⟩
theorem Cf.nil (f : Nat → Rat) (A B : Nat → Int) : Cf f A B [] := fun i h => absurd h (by simp)
theorem gI_snoc_lt {l : List RawI} {v : Iv} {i : Nat} (e : i < l.length) : gI (l ++ [v.raw]) i = gI l i := by
 unfold gI
 rw [List.getD_eq_getElem?_getD,List.getD_eq_getElem?_getD,List.getElem?_append_left e]
theorem gI_snoc_at (l : List RawI) (v : Iv) : gI (l ++ [v.raw]) l.length = v := by
 unfold gI
 rw [List.getD_eq_getElem?_getD,List.getElem?_append_right (Nat.le_refl _),Nat.sub_self]
 exact Iv.raw_iv v
theorem Cf.snoc {f : Nat → Rat} {A B : Nat → Int} {l : List RawI} (h : Cf f A B l) {v : Iv} (ok : v.Ok) (r : RgI v (A l.length) (B l.length)) (m : In (f l.length) v) : Cf f A B (l ++ [v.raw]) := by
 intro i hi
 by_cases e : i < l.length
 ·rw [gI_snoc_lt e, List.getElem?_append_left e]
  exact h i e
 ·have e2 : i = l.length := by simp at hi; omega
  subst e2
  rw [gI_snoc_at]
  refine ⟨⟨ok,?_⟩,r,m⟩
  rw [List.getElem?_append_right (Nat.le_refl _),Nat.sub_self];rfl
theorem coefG_cf {f : Nat → Rat} {A B : Nat → Int} {p : Nat} {g : List RawI} (p1 : 1 ≤ p) (p2 : p ≤ 300) (h : Cf f A B g) (hA : ∀ i,i < g.length → A i ≤ 100000 ∧ B i ≤ 99990) : ∀ (m : Nat) (c : List RawI),c.length + m ≤ g.length → Cf f A (fun i => B i + 1) c →
 (coefG p g c (List.range' c.length m)).k = 0 ∧ Cf f A (fun i => B i + 1) (coefG p g c (List.range' c.length m)).v ∧ (coefG p g c (List.range' c.length m)).v.length = c.length + m
 | 0,c,_,hc => ⟨rfl,hc,rfl⟩
 | m + 1, c, hl, hc => by
   have hj : c.length < g.length := by omega
   obtain ⟨⟨ok,-⟩,rg,i0⟩ := h c.length hj
   have gr := roundI_rg (p := p) rg (by omega) (hA _ hj).1 (hA _ hj).2
   have ho := roundI_ok ok p1
   rw [coefG_snoc _ _ _ _ _ (Nat.succ_pos m),if_pos gr.1]
   have s := hc.snoc ho.1 gr.2 (roundI_in p1 gr.1 i0)
   have ih := coefG_cf p1 p2 h hA m _ (by simp;omega) s
   simp only [List.length_append,List.length_cons,List.length_nil,Nat.zero_add] at ih ⊢
   rw [show m.succ - 1 = m from rfl]
   exact ⟨ih.1,ih.2.1,by rw [ih.2.2];omega⟩
theorem coefN_cf {ov : Iv → Nat → Outc Iv} {p : Nat} {op : Int} {a b : List RawI} {f : Nat → Rat} {A B : Nat → Int} {L : Nat} (h : ∀ c n,n < L → Cf f A B c → c.length = n → (nextJ ov p op a b c n).v.Ok ∧ GoodI (nextJ ov p op a b c n) (A n) (B n) ∧ In (f n) (nextJ ov p op a b c n).v) : ∀ (m : Nat) (c : List RawI),c.length + m ≤ L → Cf f A B c →
 (coefN ov p op a b c (List.range' c.length m)).k = 0 ∧ Cf f A B (coefN ov p op a b c (List.range' c.length m)).v ∧ (coefN ov p op a b c (List.range' c.length m)).v.length = c.length + m
 | 0,c,_,hc => ⟨rfl,hc,rfl⟩
 | m + 1, c, hl, hc => by
   obtain ⟨ok,g,i⟩ := h c c.length (by omega) hc rfl
   rw [coefN_snoc _ _ _ _ _ _ _ _ (Nat.succ_pos m),if_pos g.1]
   have ih := coefN_cf h m _ (by simp;omega) (hc.snoc ok g.2 i)
   simp only [List.length_append,List.length_cons,List.length_nil,Nat.zero_add] at ih ⊢
   rw [show m.succ - 1 = m from rfl]
   exact ⟨ih.1,ih.2.1,by rw [ih.2.2];omega⟩
theorem ptN_dyz (n : Nat) : ptN n = pt (dyz n 0) := by
 unfold ptN dyz
 rw [decide_eq_false (by omega),Int.natAbs_natCast]
theorem ptN_ok (n : Nat) : (ptN n).Ok := by rw [ptN_dyz];exact pt_ok (dyz_ok _ _)
theorem zN {n : Nat} (h : n < 2 ^ 30) : SmZ (n : Int) 0 := ⟨Nat.lt_of_lt_of_le h (Nat.pow_le_pow_right (by decide) (by decide)),by decide,by decide⟩
theorem ptN_in {n : Nat} (h : n < 2 ^ 30) : In ((n : Int) : Rat) (ptN n) := by
 rw [ptN_dyz]
 have := in_pt (dyz n 0)
 rw [dyz_q (zN h),pw_zero,Rat.mul_one] at this
 exact this
theorem ptN_rg {n : Nat} {k : Nat} (h : n < 2 ^ k) (hk : k ≤ 30) : RgI (ptN n) 0 k := by
 rw [ptN_dyz]
 have h2 := bl_le n k h
 have h3 : n < 2 ^ 30 := Nat.lt_of_lt_of_le h (Nat.pow_le_pow_right (by decide) hk)
 have : n < 1073741824 := h3
 exact RgI.pt (fitD_rg (fun _ => by omega) (fun _ => by rw [Int.natAbs_natCast];omega) (by rw [Int.natAbs_natCast];omega) (by decide) (by omega)).2
theorem ptN_nz {n : Nat} (h0 : n ≠ 0) (h : n < 2 ^ 30) : ¬ hasZero (ptN n) = true := by
 rw [hasZero_iff]
 have q := ptN_in h
 rintro ⟨a,b⟩
 have e : (ptN n).lo = (ptN n).hi := by rw [ptN_dyz];rfl
 rw [e] at a
 have e2 : (ptN n).hi.q = ((n : Int) : Rat) := by
  rw [ptN_dyz]
  show (dyz n 0).q = _
  rw [dyz_q (zN h),pw_zero,Rat.mul_one]
 rw [e2] at a b
 have : ((n : Int) : Rat) = ((0 : Int) : Rat) := Rat.le_antisymm a b
 rw [Rat.intCast_inj] at this
 omega
theorem div_step {a : Iv} {x : Rat} {A B : Int} {p n : Nat} (p1 : 1 ≤ p) (p2 : p ≤ 300) (hn : n + 1 < 16) (r : RgI a A B) (i : In x a) (hA : A ≤ 90000) (hB : B ≤ 90000) :
 (divI a (ptN (n + 1)) p).v.Ok ∧ GoodI (divI a (ptN (n + 1)) p) (A + p + 5) (B + 2) ∧ In (x / (((n + 1 : Nat) : Int) : Rat)) (divI a (ptN (n + 1)) p).v := by
 have hb : n + 1 < 2 ^ 30 := by omega
 have g := divI_rg (p := p) r (ptN_rg (n := n + 1) (k := 4) (by omega) (by decide)) (ptN_ok _) (ptN_nz (by omega) hb) (by omega) (by omega) (by omega)
 exact ⟨(divI_ok (ptN_ok _) p1).1,g.mono (by omega) (by omega),div_in (ptN_ok _) p1 g.1 i (ptN_in hb)⟩
theorem steps_one {ov : Iv → Nat → Outc Iv} {p : Nat} {ls : List Ln} {outs : List Int} {time : List RawI} {f : Nat → Rat} {A B : Nat → Int} {K : Nat}
 (hs : ∀ n c,n < K → Cf f A B c → c.length = n + 1 → ∃ r,seriesJ ov p ls outs (time.take (n + 1)) [c] [] n = ⟨[r],0⟩ ∧ (divI (gI r n) (ptN (n + 1)) p).v.Ok ∧ GoodI (divI (gI r n) (ptN (n + 1)) p) (A (n + 1)) (B (n + 1)) ∧ In (f (n + 1)) (divI (gI r n) (ptN (n + 1)) p).v) :
 ∀ (m n : Nat) (c : List RawI),n + m = K → Cf f A B c → c.length = n + 1 → ∃ c',stepsJ ov p ls outs time [] [c] (List.range' n m) = ⟨[c'],0⟩ ∧ Cf f A B c' ∧ c'.length = K + 1
 | 0,n,c,e,hc,hl => ⟨c,rfl,hc,by omega⟩
 | m + 1, n, c, e, hc, hl => by
   obtain ⟨r,h1,h2,h3,h4⟩ := hs n c (by omega) hc hl
   have hg : growJ p n [c] [r] = ⟨[c ++ [(divI (gI r n) (ptN (n + 1)) p).v.raw]],0⟩ := by
    simp only [growJ,h3.1,if_true]
   obtain ⟨c',q1,q2⟩ := steps_one hs m (n + 1) (c ++ [(divI (gI r n) (ptN (n + 1)) p).v.raw]) (by omega) (hc.snoc h2 (by rw [hl];exact h3.2) (by rw [hl];exact h4)) (by simp [hl])
   refine ⟨c',?_,q2⟩
   rw [List.range'_succ,stepsJ,List.map_nil,h1]
   simp only [hg,ne_eq,not_true_eq_false,if_false]
   exact q1
theorem cf_one {f : Nat → Rat} {A B : Nat → Int} {v : Iv} (ok : v.Ok) (r : RgI v (A 0) (B 0)) (m : In (f 0) v) : Cf f A B [v.raw] := (Cf.nil f A B).snoc ok r m
structure E8 (m : Int) (p : Nat) : Prop where
 m8 : m.natAbs ≤ 15
 p1 : 8 ≤ p
 p2 : p ≤ 80
theorem e8_rg {m : Int} {p : Nat} (h : E8 m p) : RgI (pt (dyz m (-3))) 3 1 := by
 have := h.m8
 have hb := bl_le m.natAbs 4 (by omega)
 exact RgI.pt (fitD_rg (fun _ => by omega) (fun _ => by omega) (by omega) (by decide) (by decide)).2
theorem e8_first {m : Int} {p : Nat} (h : E8 m p) : (roundI (pt (dyz m (-3))) p).v.Ok ∧ GoodI (roundI (pt (dyz m (-3))) p) 3 2 ∧ In (dyz m (-3)).q (roundI (pt (dyz m (-3))) p).v := by
 have h1 := h.p1
 have h2 := h.p2
 have g := roundI_rg (p := p) (e8_rg h) (by omega) (by decide) (by decide)
 exact ⟨(roundI_ok (pt_ok (dyz_ok _ _)) (by omega)).1,g,roundI_in (by omega) g.1 (in_pt _)⟩
def eF (x : Rat) : Nat → Rat
 | 0 => x
 | n + 1 => eF x n / (((n + 1 : Nat) : Int) : Rat)
def tE : List Ln := [⟨3,0,0,rzI⟩]
theorem seriesE (ov : Iv → Nat → Outc Iv) (p : Nat) (t c r : List RawI) (n : Nat) (h : coefG p c [] (List.range' 0 (n + 1)) = ⟨r,0⟩) : seriesJ ov p tE [0] t [c] [] n = ⟨[r],0⟩ := by
 have e : lineJ ov p ⟨3,0,0,rzI⟩ [] t [c] [] n = ⟨r,0⟩ := by
  rw [lineJ3 _ _ _ _ _ _ _ _ rfl,← h];rfl
 simp only [seriesJ,linesJ,tE,e,if_true,List.nil_append,List.map_cons,List.map_nil]
 rfl
theorem stepE {ov : Iv → Nat → Outc Iv} {m : Int} {p : Nat} (h : E8 m p) {K : Nat} (hK : K ≤ 8) (time : List RawI) :
 ∃ c',stepsJ ov p tE [0] time [] [[(roundI (pt (dyz m (-3))) p).v.raw]] (List.range' 0 K) = ⟨[c'],0⟩ ∧ Cf (eF (dyz m (-3)).q) (fun n => 3 + 85 * n) (fun n => 2 + 3 * n) c' ∧ c'.length = K + 1 := by
 have h1 := h.p1
 have h2 := h.p2
 obtain ⟨ok,g,i⟩ := e8_first h
 refine steps_one (fun n c hn hc hl => ?_) K 0 _ (by omega) (cf_one ok (g.2.mono (by omega) (by omega)) i) rfl
 obtain ⟨k0,q,ql⟩ := coefG_cf (p := p) (by omega) (by omega) hc (fun i hi => ⟨by omega,by omega⟩) (n + 1) [] (by simp;omega) (Cf.nil _ _ _)
 obtain ⟨r,hr⟩ : ∃ r,r = (coefG p c [] (List.range' 0 (n + 1))).v := ⟨_,rfl⟩
 have hk : coefG p c [] (List.range' 0 (n + 1)) = ⟨r,0⟩ := by
  rw [hr]
  generalize coefG p c [] (List.range' 0 (n + 1)) = o at *
  cases o with | mk v k => exact congrArg (Outc.mk v) k0
 change (Cf _ _ _ (coefG p c [] (List.range' 0 (n + 1))).v) at q
 change ((coefG p c [] (List.range' 0 (n + 1))).v.length = _) at ql
 rw [← hr] at q ql
 obtain ⟨-,rg,i0⟩ := q n (by simp at ql;omega)
 have rg' : RgI (gI r n) (3 + 85 * (n : Int)) (2 + 3 * (n : Int) + 1) := rg
 obtain ⟨d1,d2,d3⟩ := div_step (p := p) (n := n) (by omega) (by omega) (by omega) rg' i0 (by omega) (by omega)
 exact ⟨r,seriesE ov p _ c r n hk,d1,d2.mono (by show _ ≤ 3 + 85 * ((n + 1 : Nat) : Int);omega) (by show _ ≤ 2 + 3 * ((n + 1 : Nat) : Int);omega),d3⟩
theorem k0_eq {α : Type} {o : Outc α} {r : α} (h : o.k = 0) (e : r = o.v) : o = ⟨r,0⟩ := by
 cases o with | mk v k => simp only at h e;subst h;rw [e]
structure SvB (W : World) (H : Nat) (s o y0 y1 y2 y3 y4 y5 vx vp : Value) (k b : Int) : Prop where
 f : W.heap[H]? = some (.cells #[s,o] 27 (0,0))
 t : BlkI W (H + 1) y0 y1 y2 y3 y4 y5
 x : W.heap[H + 1 + 1]? = some (.cells #[vx] 33 (0,0))
 p : W.heap[H + 1 + 1 + 1]? = some (.cells #[vp] 33 (0,0))
 k : W.heap[H + 1 + 1 + 1 + 1]? = some (.cells #[.int .i64 k] 3 (0,0))
 b : W.heap[H + 1 + 1 + 1 + 1 + 1]? = some (.cells #[.int .i64 b] 3 (0,0))
theorem SvB.kept {W W' : World} {H : Nat} {s o y0 y1 y2 y3 y4 y5 vx vp : Value} {k b : Int} (h : SvB W H s o y0 y1 y2 y3 y4 y5 vx vp k b) (q : Kept W W') : SvB W' H s o y0 y1 y2 y3 y4 y5 vx vp k b :=
 ⟨blk_kept h.f q,h.t.kept q,blk_kept h.x q,blk_kept h.p q,blk_kept h.k q,blk_kept h.b q⟩
theorem box6v (w : World) (o0 o1 o2 o3 o4 o5 : Array Value) (T0 T1 T2 T3 T4 T5 : TypeId) : ∃ W,W = (((((w.alloc (.cells o0 T0)).alloc (.cells o1 T1)).alloc (.cells o2 T2)).alloc (.cells o3 T3)).alloc (.cells o4 T4)).alloc (.cells o5 T5) ∧ Kept w W ∧
 W.heap[w.heap.size]? = some (.cells o0 T0 (0,0)) ∧ W.heap[w.heap.size + 1]? = some (.cells o1 T1 (0,0)) ∧ W.heap[w.heap.size + 1 + 1]? = some (.cells o2 T2 (0,0)) ∧ W.heap[w.heap.size + 1 + 1 + 1]? = some (.cells o3 T3 (0,0)) ∧
 W.heap[w.heap.size + 1 + 1 + 1 + 1]? = some (.cells o4 T4 (0,0)) ∧ W.heap[w.heap.size + 1 + 1 + 1 + 1 + 1]? = some (.cells o5 T5 (0,0)) := by
 have st : ∀ (v : World) (n : Nat) (c : Array Value) (T : TypeId),v.heap.size = n → (v.alloc (.cells c T)).heap[n]? = some (.cells c T (0,0)) ∧ (v.alloc (.cells c T)).heap.size = n + 1 ∧ Kept v (v.alloc (.cells c T)) := by
  intro v n c T h
  subst h
  exact ⟨heap_alloc_new _ _,by simp,kept_alloc _ _⟩
 obtain ⟨p1,q1,k1⟩ := st w _ o0 T0 rfl
 obtain ⟨p2,q2,k2⟩ := st _ _ o1 T1 q1
 obtain ⟨p3,q3,k3⟩ := st _ _ o2 T2 q2
 obtain ⟨p4,q4,k4⟩ := st _ _ o3 T3 q3
 obtain ⟨p5,q5,k5⟩ := st _ _ o4 T4 q4
 obtain ⟨p6,q6,k6⟩ := st _ _ o5 T5 q5
 exact ⟨_,rfl,((((k1.trans k2).trans k3).trans k4).trans k5).trans k6,blk_kept p1 ((((k2.trans k3).trans k4).trans k5).trans k6),blk_kept p2 (((k3.trans k4).trans k5).trans k6),blk_kept p3 ((k4.trans k5).trans k6),blk_kept p4 (k5.trans k6),blk_kept p5 k6,p6⟩
theorem solve_face {w : World} {A B A1 A2 AX AP : Option Addr} {l c m d l1 d1 l2 d2 nx cx np cp : Nat} {n1 n2 : Bool} {e1 e2 k b : Int} {O : Outc (List (List RawI))} (hz : O.k ≠ 0 → O.v = [])
 (h : ∀ w1,Kept w w1 → SvB w1 w.heap.size (.slice A l c) (.slice B m d) (.bool n1) (.slice A1 l1 d1) (.int .i64 e1) (.bool n2) (.slice A2 l2 d2) (.int .i64 e2) (.slice AX nx cx) (.slice AP np cp) k b →
   Calls Tryz.prog 52 #[.pointer (some ⟨w.heap.size + 1 + 1 + 1 + 1 + 1,0,none⟩),.pointer (some ⟨w.heap.size + 1 + 1 + 1 + 1,0,none⟩),.pointer (some ⟨w.heap.size,0,none⟩),.pointer (some ⟨w.heap.size + 1 + 1,0,none⟩),.pointer (some ⟨w.heap.size + 1 + 1 + 1,0,none⟩),.pointer (some ⟨w.heap.size + 1,0,none⟩)] w1 (GoesLL O w1)) :
 Calls Tryz.prog 24 #[.agg #[.slice A l c,.slice B m d],.agg #[.bool n1,.slice A1 l1 d1,.int .i64 e1,.bool n2,.slice A2 l2 d2,.int .i64 e2],.slice AX nx cx,.slice AP np cp,.int .i64 k,.int .i64 b] w (RetLL O w) := by
 have hmf : ∀ (fn : Fn) (first cap : Array Value) (w : World),(Instr.makeFunc fn first cap).run Tryz.prog w = .ok (.func fn first cap) w := fun _ _ _ _ => rfl
 obtain ⟨W,hW,kW,b0,b1,b2,b3,b4,b5⟩ := box6v w #[.slice A l c,.slice B m d] #[.bool n1,.slice A1 l1 d1,.int .i64 e1,.bool n2,.slice A2 l2 d2,.int .i64 e2] #[.slice AX nx cx] #[.slice AP np cp] #[.int .i64 k] #[.int .i64 b] 27 32 33 33 3 3
 have hf := face_cJ (w := W) (K := 52) (o := O) (fun w1 q => h w1 (kW.trans q) (SvB.kept ⟨b0,b1,b2,b3,b4,b5⟩ q)) hz (fun _ => rfl)
 have HF := hid hf
 have HW := hid hW
 have HK := hid kW
 clear hf hW kW b0 b1 b2 b3 b4 b5 h hz
 go_enter Tryz.func24,Tryz.ntmps24
 go_wp2_with (go_at_call 51;rw [← HW.out];refine HF.out.mono ?_;rintro e w1 ⟨q,u,rfl,hd⟩;have HD := hid hd;have HQ := hid q;clear q hd HF HW;simp only [])
 go_ret2
 exact ⟨HK.out.trans HQ.out,_,rfl,HD.out⟩
structure SeB (W : World) (H : Nat) (s o vt vx vq : Value) (k b : Int) : Prop where
 f : W.heap[H]? = some (.cells #[s,o] 27 (0,0))
 t : W.heap[H + 1]? = some (.cells #[vt] 33 (0,0))
 x : W.heap[H + 1 + 1]? = some (.cells #[vx] 42 (0,0))
 p : W.heap[H + 1 + 1 + 1]? = some (.cells #[vq] 42 (0,0))
 k : W.heap[H + 1 + 1 + 1 + 1]? = some (.cells #[.int .i64 k] 3 (0,0))
 b : W.heap[H + 1 + 1 + 1 + 1 + 1]? = some (.cells #[.int .i64 b] 3 (0,0))
theorem SeB.kept {W W' : World} {H : Nat} {s o vt vx vq : Value} {k b : Int} (h : SeB W H s o vt vx vq k b) (q : Kept W W') : SeB W' H s o vt vx vq k b :=
 ⟨blk_kept h.f q,blk_kept h.t q,blk_kept h.x q,blk_kept h.p q,blk_kept h.k q,blk_kept h.b q⟩
theorem series_face {w : World} {A B AT AX AQ : Option Addr} {l c m d nt ct nx cx nq cq : Nat} {k b : Int} {O : Outc (List (List RawI))} (hz : O.k ≠ 0 → O.v = [])
 (h : ∀ w1,Kept w w1 → SeB w1 w.heap.size (.slice A l c) (.slice B m d) (.slice AT nt ct) (.slice AX nx cx) (.slice AQ nq cq) k b →
   Calls Tryz.prog 65 #[.pointer (some ⟨w.heap.size + 1 + 1 + 1 + 1,0,none⟩),.pointer (some ⟨w.heap.size + 1 + 1 + 1 + 1 + 1,0,none⟩),.pointer (some ⟨w.heap.size,0,none⟩),.pointer (some ⟨w.heap.size + 1 + 1,0,none⟩),.pointer (some ⟨w.heap.size + 1 + 1 + 1,0,none⟩),.pointer (some ⟨w.heap.size + 1,0,none⟩)] w1 (GoesLL O w1)) :
 Calls Tryz.prog 27 #[.agg #[.slice A l c,.slice B m d],.slice AT nt ct,.slice AX nx cx,.slice AQ nq cq,.int .i64 k,.int .i64 b] w (RetLL O w) := by
 have hmf : ∀ (fn : Fn) (first cap : Array Value) (w : World),(Instr.makeFunc fn first cap).run Tryz.prog w = .ok (.func fn first cap) w := fun _ _ _ _ => rfl
 obtain ⟨W,hW,kW,b0,b1,b2,b3,b4,b5⟩ := box6v w #[.slice A l c,.slice B m d] #[.slice AT nt ct] #[.slice AX nx cx] #[.slice AQ nq cq] #[.int .i64 k] #[.int .i64 b] 27 33 42 42 3 3
 have hf := face_cJ (w := W) (K := 65) (o := O) (fun w1 q => h w1 (kW.trans q) (SeB.kept ⟨b0,b1,b2,b3,b4,b5⟩ q)) hz (fun _ => rfl)
 have HF := hid hf
 have HW := hid hW
 have HK := hid kW
 clear hf hW kW b0 b1 b2 b3 b4 b5 h hz
 go_enter Tryz.func27,Tryz.ntmps27
 go_wp2_with (go_at_call 51;rw [← HW.out];refine HF.out.mono ?_;rintro e w1 ⟨q,u,rfl,hd⟩;have HD := hid hd;have HQ := hid q;clear q hd HF HW;simp only [])
 go_ret2
 exact ⟨HK.out.trans HQ.out,_,rfl,HD.out⟩
theorem rzI_good : rzI.iv.Ok ∧ rzI.iv.raw = rzI := by
 rw [← iz_rawz,Iv.raw_iv]
 exact ⟨iz_ok,rfl⟩
theorem solve_one {S : Int → Prop} {ov : Iv → Nat → Outc Iv} {w : World} {k p : Nat} {vt vx : Value} {ls : List Ln} {outs : List Int} {a : RawI} {time c9 : List RawI} (O : OpsC S) (h9 : S 9)
 (hv : TpR w vt ls outs) (hx : OneI w vx a) (ga : a.iv.Ok ∧ a.iv.raw = a) (hok : LnOk ls) (hn : ls.length ≤ 200) (ho1 : outs.length = 1) (hor : ∀ n ∈ outs,0 ≤ n ∧ n < (ls.length : Int)) (hw : withinJ k p = true) (hm : mayT ls outs 1 0 0 = true)
 (hL : ∀ n c,n < k → Gd c → c.length = n + 1 → ∀ i l,ls[i]? = some l → LinC false ov p n (time.take (n + 1)) [c] [] i l)
 (hT : Tab w) (hr : (roundI a.iv p).k = 0) (hst : stepsJ ov p ls outs time [] [[(roundI a.iv p).v.raw]] (List.range' 0 k) = ⟨[c9],0⟩) :
 Calls Tryz.prog 24 #[vt,.agg #[.bool false,.slice none 0 0,.int .i64 0,.bool false,.slice none 0 0,.int .i64 0],vx,.slice none 0 0,.int .i64 (k : Int),.int .i64 (p : Int)] w (RetLL ⟨[c9],0⟩ w) := by
 obtain ⟨b,x0,x1,x2,x3,x4,x5,rfl,hb,hA⟩ := hx
 have hv2 := hv
 obtain ⟨s,o,rfl,⟨A,c,rfl,-,-⟩,⟨B,d,rfl,-,-⟩⟩ := hv2
 obtain ⟨-,c0,c1,c2,c3,c4,c5⟩ := hb.facts
 exact solve_face (fun h => absurd rfl h) fun w1 q B => solve1_c O h9 B.b B.k B.f B.x B.p B.t (Six.kept ⟨c0,c1,c2,c3,c4,c5⟩ q) (hA.kept q) ga (ivR_zero _) rzI_good (hv.kept q) hok hn ho1 hor hw hm hL (hT.kept q) hr hst
theorem solve_bad {w : World} {k p : Int} {vt : Value} {ls : List Ln} {outs : List Int} (hv : TpR w vt ls outs) (hok : LnOk ls) (hn : ls.length ≤ 200) (hno : outs.length ≤ 200) (hw : withinJ k p = true) (hm : mayT ls outs 0 0 0 = false) :
 Calls Tryz.prog 24 #[vt,.agg #[.bool false,.slice none 0 0,.int .i64 0,.bool false,.slice none 0 0,.int .i64 0],.slice none 0 0,.slice none 0 0,.int .i64 k,.int .i64 p] w (RetLL ⟨[],1⟩ w) := by
 have hv2 := hv
 obtain ⟨s,o,rfl,⟨A,c,rfl,-,-⟩,⟨B,d,rfl,-,-⟩⟩ := hv2
 exact solve_face (fun _ => rfl) fun w1 q B => solve1_bad B.b B.k B.f B.x B.p (hv.kept q) hok (by omega) (by omega) (by decide) hw hm
theorem dof_zJ {w : World} {z : Int} (hz : z.natAbs ≤ 100000) {e : Int} (e1 : -40 ≤ e) (e2 : e ≤ 0) (hT : Tab w) : Calls Tryz.prog 13 #[.int .i64 z,.int .i64 e] w (RetE ⟨(dyz z e).raw,0⟩ w) := by
 have hf := dyz_fit (z := z) (e := e) ⟨Nat.lt_of_le_of_lt hz (by decide),e1,e2⟩
 by_cases h : z < 0
 ·obtain ⟨n, rfl⟩ : ∃ n : Nat, z = -(n : Int) := ⟨z.natAbs, by omega⟩
  have := Of_neg (w := w) (k := n) (e := e) (by omega) (by omega) (by omega) (by omega) hT
  rw [decide_eq_true h,Int.natAbs_neg,Int.natAbs_natCast] at hf
  rw [hf] at this
  exact this
 ·obtain ⟨n, rfl⟩ : ∃ n : Nat, z = (n : Int) := ⟨z.natAbs, by omega⟩
  have := Of_pos (w := w) (k := n) (e := e) (by omega) (by omega) (by omega) hT
  rw [decide_eq_false h,Int.natAbs_natCast] at hf
  rw [hf] at this
  exact this
def kzJ (m c z : Int) : Int := (IntKind.u64.wrap z).tmod m - c
theorem kzJ_eq (z : Int) {m c : Int} (hm : 0 < m) (hm2 : m ≤ 1000) (hc : 0 ≤ c) (hc2 : c ≤ m) : wrap64 (wrap64 ((IntKind.u64.wrap z).tmod m) - c) = kzJ m c z ∧ -c ≤ kzJ m c z ∧ kzJ m c z < m - c := by
 unfold kzJ
 rw [IntKind.wrap_u64]
 have h0 : 0 ≤ z % 18446744073709551616 := Int.emod_nonneg _ (by decide)
 rw [Int.tmod_eq_emod_of_nonneg h0]
 have h1 : 0 ≤ z % 18446744073709551616 % m := Int.emod_nonneg _ (by omega)
 have h2 : z % 18446744073709551616 % m < m := Int.emod_lt_of_pos _ hm
 generalize z % 18446744073709551616 % m = x at *
 unfold wrap64
 omega
theorem nJ_of (p : Int) (c m : Nat) (hm : 0 < m) (hs : c + m ≤ 1000) : ∃ n : Nat,wrap64 ((c : Int) + wrap64 ((IntKind.u64.wrap p).tmod (m : Int))) = (n : Int) ∧ c ≤ n ∧ n < c + m := by
 rw [IntKind.wrap_u64]
 have h0 : 0 ≤ p % 18446744073709551616 := Int.emod_nonneg _ (by decide)
 rw [Int.tmod_eq_emod_of_nonneg h0]
 have h1 : 0 ≤ p % 18446744073709551616 % (m : Int) := Int.emod_nonneg _ (by omega)
 have h2 : p % 18446744073709551616 % (m : Int) < m := Int.emod_lt_of_pos _ (by omega)
 generalize p % 18446744073709551616 % (m : Int) = x at *
 refine ⟨(c + x).toNat,?_,by omega,by omega⟩
 unfold wrap64
 omega
theorem insJ1 {w : World} {b : Nat} {T : TypeId} {n : Int} (h : w.heap[b]? = some (.cells #[.int .i64 n] T (0,0))) : InS w (.slice (some ⟨b,0,none⟩) 1 1) [n] :=
 ⟨_, _, rfl, Nat.le_refl _, fun _ => ⟨b, 0, rfl, fun i a hi => by
  rcases i with _ | i
  ·cases hi;exact cell_of_block h 0 _ rfl
  ·simp at hi⟩⟩
theorem lnJ1 {w : World} {b : Nat} {T : TypeId} {op x y : Int} (h : w.heap[b]? = some (.cells #[.int .i64 op,.int .i64 x,.int .i64 y,.bool false,.slice none 0 0,.int .i64 0,.bool false,.slice none 0 0,.int .i64 0] T (0,0))) : LnS w (.slice (some ⟨b,0,none⟩) 1 1) [⟨op,x,y,rzI⟩] :=
 ⟨_, _, rfl, Nat.le_refl _, fun _ => ⟨b, 0, rfl, fun i a hi => by
  rcases i with _ | i
  ·cases hi
   exact ⟨cell_of_block h 0 _ rfl,cell_of_block h 1 _ rfl,cell_of_block h 2 _ rfl,_,_,_,_,_,_,cell_of_block h 3 _ rfl,cell_of_block h 4 _ rfl,cell_of_block h 5 _ rfl,cell_of_block h 6 _ rfl,cell_of_block h 7 _ rfl,cell_of_block h 8 _ rfl,ivR_zero _⟩
  ·simp at hi⟩⟩
theorem boxTJ (w : World) (cs : Array Value) (n1 : Int) (m : Nat) : ∃ V,V = ((w.alloc (.cells cs 41)).alloc (.cells #[.int .i64 n1] 3)).alloc (.cells #[.slice (some ⟨w.heap.size,0,none⟩) m m,.slice (some ⟨w.heap.size + 1,0,none⟩) 1 1] 27) ∧ Kept w V ∧
 V.heap[w.heap.size]? = some (.cells cs 41 (0,0)) ∧ V.heap[w.heap.size + 1]? = some (.cells #[.int .i64 n1] 3 (0,0)) ∧
 V.heap[w.heap.size + 1 + 1]? = some (.cells #[.slice (some ⟨w.heap.size,0,none⟩) m m,.slice (some ⟨w.heap.size + 1,0,none⟩) 1 1] 27 (0,0)) := by
 have st : ∀ (v : World) (n : Nat) (c : Array Value) (T : TypeId),v.heap.size = n → (v.alloc (.cells c T)).heap[n]? = some (.cells c T (0,0)) ∧ (v.alloc (.cells c T)).heap.size = n + 1 ∧ Kept v (v.alloc (.cells c T)) := by
  intro v n c T h
  subst h
  exact ⟨heap_alloc_new _ _,by simp,kept_alloc _ _⟩
 obtain ⟨p1,q1,k1⟩ := st w _ cs 41 rfl
 obtain ⟨p2,q2,k2⟩ := st _ _ #[.int .i64 n1] 3 q1
 obtain ⟨p3,q3,k3⟩ := st _ _ #[.slice (some ⟨w.heap.size,0,none⟩) m m,.slice (some ⟨w.heap.size + 1,0,none⟩) 1 1] 27 q2
 exact ⟨_,rfl,(k1.trans k2).trans k3,blk_kept p1 (k2.trans k3),blk_kept p2 k3,p3⟩
theorem lnOk_E : LnOk tE := by
 intro l hl
 simp only [tE,List.mem_cons,List.not_mem_nil,or_false] at hl
 subst hl
 exact ⟨by decide,by decide,by show (0 : Nat) ≤ 17592186044416;decide,by show (0 : Nat) ≤ 17592186044416;decide⟩
theorem linC_E {ov : Iv → Nat → Outc Iv} {p n : Nat} {t c : List RawI} (gc : Gd c) (hc : c.length = n + 1) (hn : n ≤ 900) (p1 : 1 ≤ p) (p2 : p ≤ 300) : ∀ i l,tE[i]? = some l → LinC false ov p n t [c] [] i l := by
 intro i l hl
 rcases i with _ | i
 ·cases hl
  exact linC3 rfl (j := 0) rfl (by simp) (by intro r hr;simp only [List.mem_singleton] at hr;subst hr;exact ⟨gc,hc⟩) hn p1 p2
 ·simp [tE] at hl
theorem told_steps : ∃ c9,stepsJ (fun _ _ => ⟨iz,0⟩) 30 tE [0] [] [] [[(roundI (pt (dyz 8 (-3))) 30).v.raw]] (List.range' 0 3) = ⟨[c9],0⟩ ∧ Gd c9 ∧ c9.length = 4 ∧ (gI c9 2).lo.e = -1 ∧ (gI c9 3).lo.q < (gI c9 3).hi.q := by
 obtain ⟨c9,h1,h2,h3⟩ := stepE (ov := fun _ _ => ⟨iz,0⟩) (m := 8) (p := 30) ⟨by decide,by decide,by decide⟩ (K := 3) (by decide) []
 have e : c9 = (stepsJ (fun _ _ => ⟨iz,0⟩) 30 tE [0] [] [] [[(roundI (pt (dyz 8 (-3))) 30).v.raw]] (List.range' 0 3)).v.getD 0 [] := by rw [h1];rfl
 have e2 : (gI c9 2).lo.e = -1 := by rw [e];decide +kernel
 have e3 : (gI c9 3).lo.m ≠ (gI c9 3).hi.m := by rw [e];decide +kernel
 have ok := gI_ok h2.gd 3
 refine ⟨c9,h1,h2.gd,h3,e2,?_⟩
 have hne : (gI c9 3).lo.q ≠ (gI c9 3).hi.q := fun h => e3 (congrArg Dy.m (q_inj ok.lo ok.hi h))
 have := ok.le
 grind
end Go.Proofs.YtgododcbmkpbjaaGreatDoor
