/- An own row of intervals that is stored into by place; rows of rows. -/
import Derived.Test.YtgododcbmkpbjaaGreatDoorClaimSmeanp32
import Derived.Test.YtgododcbmkpbjaaGreatDoorClaimSmeanp34
import Derived.OwnWalk
set_option maxRecDepth 100000
set_option maxHeartbeats 16000000
namespace Go.Proofs.YtgododcbmkpbjaaGreatDoor
open Go.RowKit
/-- It returns a place, or less than nought if there is none. -/
def RetIdx {α : Type} (l : List α) (g : α → Bool) (w : World) (e : Ending) (w' : World) : Prop := ∃ r : Int, e = .returned (.int .i64 r) ∧ decide (0 ≤ r) = l.any g ∧ Kept w w'
theorem any_false {α : Type} {l : List α} {g : α → Bool} (h : ∀ i x, i < l.length → l[i]? = some x → g x = false) : l.any g = false := by
 rw [List.any_eq_false]
 intro x hx
 obtain ⟨i, hi, he⟩ := List.mem_iff_getElem.1 hx
 rw [h i x hi (by rw [List.getElem?_eq_getElem hi, he])]
 decide
theorem any_true {α : Type} {l : List α} {g : α → Bool} {i : Nat} {x : α} (h : l[i]? = some x) (hg : g x = true) : l.any g = true := List.any_eq_true.2 ⟨x, List.mem_of_getElem? h, hg⟩
theorem index_c {w : World} {v : Value} {l : List Int} {g : Int → Bool} {bt : Nat} (hv : InS w v l) (hn : l.length ≤ 1000000000)
 (h : ∀ w1, Kept w w1 → ∀ x, x ∈ l → Calls Tryz.prog 98 #[.int .i64 x, .pointer (some ⟨bt, 0, none⟩)] w1 (RetK (.bool (g x)) w1)) :
 Calls Tryz.prog 125 #[v, .func (.func 98) #[] #[.pointer (some ⟨bt, 0, none⟩)]] w (RetIdx l g w) := by
 obtain ⟨A, c, rfl, hc, hA⟩ := hv
 have HG := Lib.hid h
 have HA := Lib.hid hA
 clear h hA
 obtain ⟨n, hn'⟩ : ∃ n, n = l.length := ⟨_, rfl⟩
 rw [← hn'] at hn hc HA ⊢
 have HN := Lib.hid hn'
 clear hn'
 go_enter Tryz.func125, Tryz.ntmps125
 go_wp2_with fail
 go_loopw [8] (fun t wr => ∃ k : Nat, k ≤ n ∧ t = .int .i64 k ∧ (∀ i x, i < k → l[i]? = some x → g x = false) ∧ Kept w wr) (fun t _ => (n - intOf t).toNat)
 case atStart => exact ⟨0, Nat.zero_le _, rfl, fun i a hi => absurd hi (Nat.not_lt_zero _), Below.refl _ _⟩
 case round =>
  obtain ⟨k, hk, rfl, hall, hKr⟩ := hrel
  have KR := Lib.hid hKr
  have AL := Lib.hid hall
  clear hKr hall
  by_cases hlt : k < n
  ·obtain ⟨b, off, rfl, hd⟩ := HA.out (by omega)
   obtain ⟨x, hx⟩ : ∃ x, l[k]? = some x := ⟨_, List.getElem?_eq_getElem (by have := HN.out; omega)⟩
   have hcell := hd k x hx
   have hc0 := (KR.out.cell (p := ⟨b, off + k, none⟩) (lt_of_cell hcell)).trans hcell
   have HX := Lib.hid hx
   have hm := HG.out wr KR.out x (List.mem_of_getElem? hx)
   obtain ⟨gx, hgx⟩ : ∃ y, y = g x := ⟨_, rfl⟩
   rw [← hgx] at hm
   have HM := Lib.hid hm
   have HGX := Lib.hid hgx
   clear hd hcell hx hm hgx
   go_wp2_with fail
   refine HM.out.mono ?_
   rintro e w2 ⟨rfl, q⟩
   have K2 := Lib.hid (KR.out.trans q)
   clear q hc0
   simp only []
   cases gx
   ·go_wp2_with fail
    go_roundw
    case rel =>
     refine ⟨k + 1, by omega, by go_num, fun i a hi ha' => ?_, K2.out⟩
     by_cases h2 : i = k
     ·subst h2
      rw [HX.out] at ha'
      cases ha'
      exact HGX.out.symm
     ·exact AL.out i a (by omega) ha'
    case measure => simp only [intOf]; omega
   ·go_wp2_with fail
    go_ret
    exact ⟨k, rfl, by rw [any_true HX.out HGX.out.symm]; simp, K2.out⟩
  ·obtain rfl : k = n := by omega
   go_wp2_with fail
   go_ret
   exact ⟨-1, rfl, by rw [any_false (fun i x hi hx => AL.out i x (by have := HN.out; omega) hx)]; decide, KR.out⟩
theorem contains_c {w : World} {v : Value} {l : List Int} {g : Int → Bool} {bt : Nat} (hv : InS w v l) (hn : l.length ≤ 1000000000)
 (h : ∀ w1, Kept w w1 → ∀ x, x ∈ l → Calls Tryz.prog 98 #[.int .i64 x, .pointer (some ⟨bt, 0, none⟩)] w1 (RetK (.bool (g x)) w1)) :
 Calls Tryz.prog 97 #[v, .func (.func 98) #[] #[.pointer (some ⟨bt, 0, none⟩)]] w (RetK (.bool (l.any g)) w) := by
 have C := Lib.hid (index_c hv hn h)
 obtain ⟨A, c, rfl, -, -⟩ := hv
 clear hn h
 go_enter Tryz.func97, Tryz.ntmps97
 go_wp2_with fail
 refine C.out.mono ?_
 rintro e w2 ⟨r, rfl, hr, q⟩
 have Q := Lib.hid q
 have HR := Lib.hid hr
 clear q hr C
 simp only []
 go_wp2_with fail
 go_ret
 exact ⟨by rw [← HR.out]; rfl, Q.out⟩
theorem mayLs_iff (x u p : Int) : ∀ (ls : List Ln) (i : Nat), mayLs x u p i ls = true ↔ ∀ j l, ls[j]? = some l → mayL l ((i + j : Nat) : Int) x u p = true
 | [], i => by simp [mayLs]
 | l :: ls, i => by
   rw [mayLs, Bool.and_eq_true, mayLs_iff x u p ls (i + 1)]
   constructor
   ·rintro ⟨h1, h2⟩ j m hm
    rcases j with _ | j
    ·simp at hm; subst hm; exact h1
    ·simp at hm
     have := h2 j m hm
     rw [show i + (j + 1) = i + 1 + j by omega]; exact this
   ·intro h
    refine ⟨h 0 l (by simp), fun j m hm => ?_⟩
    have := h (j + 1) m (by simpa using hm)
    rw [show i + 1 + j = i + (j + 1) by omega]; exact this
theorem cells2 {w : World} {b : Nat} {x y : Value} {T : TypeId} (h : w.heap[b]? = some (.cells #[x, y] T (0, 0))) : w.cell? ⟨b, 0, none⟩ = some x ∧ w.cell? ⟨b, 1, none⟩ = some y := ⟨cell_of_block h 0 _ rfl, cell_of_block h 1 _ rfl⟩
theorem blk_kept {w w' : World} {b : Nat} {o : Obj} (h : w.heap[b]? = some o) (k : Kept w w') : w'.heap[b]? = some o := (k.block b (Array.getElem?_eq_some_iff.1 h).1).trans h
theorem may1_tc {w : World} {bt ln c : Nat} {n : Int} {A : Option Addr} {so : Value} (hb : w.heap[bt]? = some (.cells #[.slice A ln c, so] 27 (0, 0))) :
 Calls Tryz.prog 98 #[.int .i64 n, .pointer (some ⟨bt, 0, none⟩)] w (RetK (.bool (!belowP n ln)) w) := by
 obtain ⟨c0, c1⟩ := cells2 hb
 have B := Lib.hid (below_c n ln w)
 obtain ⟨f, hf⟩ : ∃ f, belowP n ln = f := ⟨_, rfl⟩
 rw [hf] at B ⊢
 clear hf hb
 go_enter Tryz.func98, Tryz.ntmps98
 go_wp2_with fail
 refine B.out.mono ?_
 rintro e w2 ⟨rfl, q⟩
 simp only []
 go_wp2_with fail
 go_ret
 exact ⟨rfl, q⟩
theorem boxT (w : World) (s o : Value) : ∃ W, W = w.alloc (.cells #[s, o] 27) ∧ Kept w W ∧ W.heap[w.heap.size]? = some (.cells #[s, o] 27 (0, 0)) ∧ w.heap.size < W.heap.size :=
 ⟨_, rfl, kept_alloc _ _, heap_alloc_new _ _, by simp⟩
/-- What is asked of lines ahead of a walk: numbers of Go's. -/
def LnOk (ls : List Ln) : Prop := ∀ l ∈ ls, -9223372036854775808 ≤ l.op ∧ l.op ≤ 9223372036854775807 ∧ l.k.lens 17592186044416
theorem may_tc {w : World} {v : Value} {ls : List Ln} {outs : List Int} {x u p : Int} (hv : TpR w v ls outs) (hok : LnOk ls) (hn : ls.length ≤ 1000000000) (hno : outs.length ≤ 1000000000)
 (hx : -9223372036854775808 ≤ x ∧ x ≤ 9223372036854775807) (hu : -9223372036854775808 ≤ u ∧ u ≤ 9223372036854775807) (hp : -9223372036854775808 ≤ p ∧ p ≤ 9223372036854775807) :
 Calls Tryz.prog 55 #[v, .int .i64 x, .int .i64 u, .int .i64 p] w (RetK (.bool (mayT ls outs x u p)) w) := by
 obtain ⟨s, o, rfl, hls, hou⟩ := hv
 have HL := Lib.hid hls
 have HO := Lib.hid hou
 obtain ⟨A, c, rfl, hc, hA⟩ := hls
 obtain ⟨B, d, rfl, hd, -⟩ := hou
 have HA := Lib.hid hA
 have OK := Lib.hid hok
 obtain ⟨W, hW, kW, hb, lW⟩ := boxT w (.slice A ls.length c) (.slice B outs.length d)
 have HW := Lib.hid hW
 have K := Lib.hid kW
 have HB := Lib.hid hb
 obtain ⟨c0, c1⟩ := cells2 hb
 clear hA hok hW kW hb
 by_cases h1 : ls.length ≤ 200
 ·by_cases h2 : outs.length ≤ 200
  ·obtain ⟨w1, w2, w3, r1, r2, r3, hm, k3⟩ := mapR_made W hx.1 hx.2 hu.1 hu.2 hp.1 hp.2
   have hmm := @run_makeMap Tryz.prog
   have em : mayT ls outs x u p = (mayLs x u p 0 ls && !(outs.any fun n => !belowP n ls.length)) := by
    unfold mayT
    rw [show decide (ls.length ≤ 200) = true by simpa using h1, show decide (outs.length ≤ 200) = true by simpa using h2, Bool.true_and, Bool.true_and, List.all_eq_not_any_not]
   rw [em]
   obtain ⟨m1, hm1⟩ : ∃ m1, mayLs x u p 0 ls = m1 := ⟨_, rfl⟩
   rw [hm1]
   have HM1 := Lib.hid hm1
   generalize hn' : ls.length = n at *
   have HN := Lib.hid hn'
   have HM := Lib.hid hm
   have K3 := Lib.hid k3
   have CC := Lib.hid (fun w1 (k : Kept W w1) => contains_c (w := w1) (g := fun y => !belowP y n) (bt := w.heap.size) (HO.out.kept (K.out.trans k)) hno (fun w2 q y _ => may1_tc (blk_kept HB.out (k.trans q))))
   obtain ⟨m2, hm2⟩ : ∃ m2, (outs.any fun n' => !belowP n' n) = m2 := ⟨_, rfl⟩
   rw [hm2] at CC ⊢
   clear hm1 hn' hm k3 hm2 em
   have t1 : decide ((200 : Int) < (n : Int)) = false := by simp; omega
   have t2 : decide ((200 : Int) < (outs.length : Int)) = false := by simp; omega
   go_enter Tryz.func55, Tryz.ntmps55
   go_upto_region 1 with fail
   rw [← HW.out]
   obtain ⟨e0, e1⟩ := cells2 (blk_kept HB.out K3.out)
   go_wp2_with fail
   clear c0 c1 e0 e1 r1 r2 r3 hmm t1 t2
   go_loopw [30] (fun t wr => ∃ k : Nat, k ≤ n ∧ t = .int .i64 k ∧ (∀ i l, i < k → ls[i]? = some l → mayL l (i : Int) x u p = true) ∧ Kept w3 wr) (fun t _ => (n - intOf t).toNat)
   case atStart => exact ⟨0, Nat.zero_le _, rfl, fun i a hi => absurd hi (Nat.not_lt_zero _), Below.refl _ _⟩
   case round =>
    obtain ⟨k, hk, rfl, hall, hKr⟩ := hrel
    have KR := Lib.hid hKr
    have AL := Lib.hid hall
    clear hKr hall
    by_cases hlt : k < n
    ·obtain ⟨b, off, rfl, hd⟩ := HA.out (by omega)
     obtain ⟨l, hl⟩ : ∃ l, ls[k]? = some l := ⟨_, List.getElem?_eq_getElem (by have := HN.out; omega)⟩
     have hat := (hd k l hl).kept (K.out.trans (K3.out.trans KR.out))
     obtain ⟨a0, a1, a2, y0, y1, y2, y3, y4, y5, g0, g1, g2, g3, g4, g5, hI⟩ := hat
     obtain ⟨A1, l1, q1, A2, l2, q2, ei, -, -⟩ := ivR_split hI
     injection ei with ei; injection ei with ei
     simp only [List.cons.injEq, and_true] at ei
     obtain ⟨rfl, rfl, rfl, rfl, rfl, rfl⟩ := ei
     obtain ⟨o1, o2, ol⟩ := OK.out l (List.mem_of_getElem? hl)
     have hm := fun w2 (q : Kept wr w2) => mayLine_c (a := l.a) (b := l.b) (i := k) (hI.kept q) ol (HM.out.kept (KR.out.trans q)) o1 o2
     have HLK := Lib.hid hl
     obtain ⟨mb, hmb⟩ : ∃ mb, mb = mayL l (k : Int) x u p := ⟨_, rfl⟩
     have hm2 := fun w2 (q : Kept wr w2) => show Calls _ _ _ _ (RetK (.bool mb) w2) by rw [hmb]; exact hm w2 q
     have HMB := Lib.hid hmb
     have HMM := Lib.hid hm2
     clear hd hl hI ol hm hm2 hmb o1 o2
     go_wp2_with fail
     refine (HMM.out _ (kept_alloc _ _)).mono ?_
     rintro e w2' ⟨rfl, q⟩
     have K2 := Lib.hid (KR.out.trans ((kept_alloc _ _).trans q))
     clear q a0 a1 a2 g0 g1 g2 g3 g4 g5 HMM
     simp only []
     cases mb
     ·go_wp2_with fail
      go_ret
      have e1 : m1 = false := by
       cases hm : m1
       ·rfl
       ·have h1 := (mayLs_iff x u p ls 0).1 (HM1.out.trans hm) k l HLK.out
        rw [Nat.zero_add] at h1
        rw [← HMB.out] at h1; cases h1
      exact ⟨by rw [e1]; rfl, K.out.trans (K3.out.trans K2.out)⟩
     ·go_wp2_with fail
      go_roundw
      case rel =>
       refine ⟨k + 1, by omega, by go_num, fun i a hi ha' => ?_, K2.out⟩
       by_cases h2 : i = k
       ·subst h2
        rw [HLK.out] at ha'
        cases ha'
        exact HMB.out.symm
       ·exact AL.out i a (by omega) ha'
      case measure => simp only [intOf]; omega
    ·obtain rfl : k = n := by omega
     have e1 : m1 = true := by
      rw [← HM1.out]
      refine (mayLs_iff x u p ls 0).2 fun j m hm => ?_
      rw [Nat.zero_add]
      exact AL.out j m (by have := (List.getElem?_eq_some_iff.1 hm).1; have := HN.out; omega) hm
     obtain ⟨f0, f1⟩ := cells2 (blk_kept HB.out (K3.out.trans KR.out))
     have hmf : ∀ (fn : Fn) (first cap : Array Value) (w : World), (Instr.makeFunc fn first cap).run Tryz.prog w = .ok (.func fn first cap) w := fun _ _ _ _ => rfl
     go_wp2_with fail
     refine (CC.out _ (K3.out.trans KR.out)).mono ?_
     rintro e w2' ⟨rfl, q⟩
     have K2 := Lib.hid (KR.out.trans q)
     clear q f0 f1
     simp only []
     go_wp2_with fail
     go_ret
     exact ⟨by rw [e1]; rfl, K.out.trans (K3.out.trans K2.out)⟩
  ·have em : mayT ls outs x u p = false := by
    unfold mayT; rw [show decide (outs.length ≤ 200) = false by simpa using h2]; simp
   rw [em]
   have t1 : decide ((200 : Int) < (ls.length : Int)) = false := by simp; omega
   have t2 : decide ((200 : Int) < (outs.length : Int)) = true := by simp; omega
   clear em
   go_enter Tryz.func55, Tryz.ntmps55
   go_upto_region 1 with fail
   rw [← HW.out]
   go_wp2_with fail
   go_ret
   exact ⟨rfl, K.out⟩
 ·have em : mayT ls outs x u p = false := by
   unfold mayT; rw [show decide (ls.length ≤ 200) = false by simpa using h1]; simp
  rw [em]
  have t1 : decide ((200 : Int) < (ls.length : Int)) = true := by simp; omega
  clear em
  go_enter Tryz.func55, Tryz.ntmps55
  go_upto_region 1 with fail
  rw [← HW.out]
  go_wp2_with fail
  go_ret
  exact ⟨rfl, K.out⟩
theorem boxV (w : World) (x y z x' y' z' : Value) : ∃ V, V = w.alloc (.cells #[x, y, z, x', y', z'] 32) ∧ Kept w V ∧ BlkI V w.heap.size x y z x' y' z' ∧ w.heap.size < V.heap.size :=
 ⟨_, rfl, kept_alloc _ _, blkI_new _ _ _ _ _ _ _, by simp⟩
theorem indexE_c {w : World} {v : Value} {l : List RawI} {g : RawI → Bool} (hv : IvS w v l) (hn : l.length ≤ 1000000000)
 (h : ∀ w1 y, Kept w w1 → ∀ x, x ∈ l → IvR w1 y x → Calls Tryz.prog 106 #[y] w1 (RetK (.bool (g x)) w1)) :
 Calls Tryz.prog 126 #[v, .func (.func 106) #[] #[]] w (RetIdx l g w) := by
 obtain ⟨A, c, rfl, hc, hA⟩ := hv
 have HG := Lib.hid h
 have HA := Lib.hid hA
 clear h hA
 obtain ⟨n, hn'⟩ : ∃ n, n = l.length := ⟨_, rfl⟩
 rw [← hn'] at hn hc HA ⊢
 have HN := Lib.hid hn'
 clear hn'
 go_enter Tryz.func126, Tryz.ntmps126
 go_wp2_with fail
 go_loopw [8] (fun t wr => ∃ k : Nat, k ≤ n ∧ t = .int .i64 k ∧ (∀ i x, i < k → l[i]? = some x → g x = false) ∧ Kept w wr) (fun t _ => (n - intOf t).toNat)
 case atStart => exact ⟨0, Nat.zero_le _, rfl, fun i a hi => absurd hi (Nat.not_lt_zero _), Below.refl _ _⟩
 case round =>
  obtain ⟨k, hk, rfl, hall, hKr⟩ := hrel
  have KR := Lib.hid hKr
  have AL := Lib.hid hall
  clear hKr hall
  by_cases hlt : k < n
  ·obtain ⟨b, off, rfl, hd⟩ := HA.out (by omega)
   obtain ⟨x, hx⟩ : ∃ x, l[k]? = some x := ⟨_, List.getElem?_eq_getElem (by have := HN.out; omega)⟩
   obtain ⟨y0, y1, y2, y3, y4, y5, g0, g1, g2, g3, g4, g5, hI⟩ := (hd k x hx).kept KR.out
   have HX := Lib.hid hx
   have hm := HG.out wr _ KR.out x (List.mem_of_getElem? hx) hI
   obtain ⟨gx, hgx⟩ : ∃ y, y = g x := ⟨_, rfl⟩
   rw [← hgx] at hm
   have HM := Lib.hid hm
   have HGX := Lib.hid hgx
   clear hd hx hm hgx hI
   go_wp2_with fail
   refine HM.out.mono ?_
   rintro e w2 ⟨rfl, q⟩
   have K2 := Lib.hid (KR.out.trans q)
   clear q g0 g1 g2 g3 g4 g5
   simp only []
   cases gx
   ·go_wp2_with fail
    go_roundw
    case rel =>
     refine ⟨k + 1, by omega, by go_num, fun i a hi ha' => ?_, K2.out⟩
     by_cases h2 : i = k
     ·subst h2
      rw [HX.out] at ha'
      cases ha'
      exact HGX.out.symm
     ·exact AL.out i a (by omega) ha'
    case measure => simp only [intOf]; omega
   ·go_wp2_with fail
    go_ret
    exact ⟨k, rfl, by rw [any_true HX.out HGX.out.symm]; simp, K2.out⟩
  ·obtain rfl : k = n := by omega
   go_wp2_with fail
   go_ret
   exact ⟨-1, rfl, by rw [any_false (fun i x hi hx => AL.out i x (by have := HN.out; omega) hx)]; decide, KR.out⟩
theorem containsE_c {w : World} {v : Value} {l : List RawI} {g : RawI → Bool} (hv : IvS w v l) (hn : l.length ≤ 1000000000)
 (h : ∀ w1 y, Kept w w1 → ∀ x, x ∈ l → IvR w1 y x → Calls Tryz.prog 106 #[y] w1 (RetK (.bool (g x)) w1)) :
 Calls Tryz.prog 99 #[v, .func (.func 106) #[] #[]] w (RetK (.bool (l.any g)) w) := by
 have C := Lib.hid (indexE_c hv hn h)
 obtain ⟨A, c, rfl, -, -⟩ := hv
 clear hn h
 go_enter Tryz.func99, Tryz.ntmps99
 go_wp2_with fail
 refine C.out.mono ?_
 rintro e w2 ⟨r, rfl, hr, q⟩
 have Q := Lib.hid q
 have HR := Lib.hid hr
 clear q hr C
 simp only []
 go_wp2_with fail
 go_ret
 exact ⟨by rw [← HR.out]; rfl, Q.out⟩
theorem mayEnv1_c {w : World} {v : Value} {a : RawI} (hv : IvR w v a) (hl : a.lens 17592186044416) : Calls Tryz.prog 106 #[v] w (RetK (.bool (!mayI a)) w) := by
 obtain ⟨x0, x1, x2, x3, x4, x5, rfl, -, -⟩ := (show IvR _ _ _ from hv)
 obtain ⟨W, hW, kW, hb, -⟩ := boxV w x0 x1 x2 x3 x4 x5
 have M := Lib.hid (imay_c (hv.kept kW) hl)
 obtain ⟨f, hf⟩ : ∃ f, mayI a = f := ⟨_, rfl⟩
 rw [hf] at M ⊢
 obtain ⟨-, c0, c1, c2, c3, c4, c5⟩ := hb.facts
 have HW := Lib.hid hW
 clear hf hv hl hb hW
 go_enter Tryz.func106, Tryz.ntmps106
 go_upto_region 1 with fail
 rw [← HW.out]
 go_wp2_with fail
 refine M.out.mono ?_
 rintro e w2 ⟨rfl, q⟩
 simp only []
 go_wp2_with fail
 go_ret
 exact ⟨rfl, kW.trans q⟩
theorem boxE (w : World) (x0 x1 x2 x3 x4 x5 x6 x7 x8 : Value) : ∃ W, W = w.alloc (.cells #[x0, x1, x2, x3, x4, x5, x6, x7, x8] 35) ∧ Kept w W ∧ W.heap[w.heap.size]? = some (.cells #[x0, x1, x2, x3, x4, x5, x6, x7, x8] 35 (0, 0)) ∧ w.heap.size < W.heap.size :=
 ⟨_, rfl, kept_alloc _ _, heap_alloc_new _ _, by simp⟩
def EnLens (e : En) : Prop := e.t.lens 17592186044416 ∧ (∀ a ∈ e.x, a.lens 17592186044416) ∧ (∀ a ∈ e.u, a.lens 17592186044416) ∧ (∀ a ∈ e.p, a.lens 17592186044416) ∧ e.x.length ≤ 1000000000 ∧ e.u.length ≤ 1000000000 ∧ e.p.length ≤ 1000000000
theorem mayEnv_c {w : World} {v : Value} {e : En} (hv : EnR w v e) (hl : EnLens e) : Calls Tryz.prog 69 #[v] w (RetK (.bool (mayE e)) w) := by
 obtain ⟨x0, x1, x2, x3, x4, x5, sx, su, sp, rfl, ht, hx, hu, hp⟩ := hv
 obtain ⟨l1, l2, l3, l4, n2, n3, n4⟩ := hl
 have HT := Lib.hid ht
 have HX := Lib.hid hx
 have HU := Lib.hid hu
 have HP := Lib.hid hp
 obtain ⟨A1, j1, q1, A2, j2, q2, ei, -, -⟩ := ivR_split ht
 injection ei with ei; injection ei with ei
 simp only [List.cons.injEq, and_true] at ei
 obtain ⟨rfl, rfl, rfl, rfl, rfl, rfl⟩ := ei
 obtain ⟨AX, cx, rfl, -, -⟩ := hx
 obtain ⟨AU, cu, rfl, -, -⟩ := hu
 obtain ⟨AP, cp, rfl, -, -⟩ := hp
 obtain ⟨W, hW, kW, hb, lW⟩ := boxE w (.bool e.t.lo.neg) (.slice A1 j1 q1) (.int .i64 e.t.lo.e) (.bool e.t.hi.neg) (.slice A2 j2 q2) (.int .i64 e.t.hi.e) (.slice AX e.x.length cx) (.slice AU e.u.length cu) (.slice AP e.p.length cp)
 obtain ⟨W1, hW1, kW1, hb1, -⟩ := boxV W (.bool e.t.lo.neg) (.slice A1 j1 q1) (.int .i64 e.t.lo.e) (.bool e.t.hi.neg) (.slice A2 j2 q2) (.int .i64 e.t.hi.e)
 obtain ⟨W2, hW2, kW2, hb2⟩ : ∃ W2, W2 = W1.alloc (.cells #[.slice (some ⟨W.heap.size, 0, none⟩) 1 1, .slice AX e.x.length cx, .slice AU e.u.length cu, .slice AP e.p.length cp] 33) ∧ Kept W1 W2 ∧ W2.heap[W1.heap.size]? = some (.cells #[.slice (some ⟨W.heap.size, 0, none⟩) 1 1, .slice AX e.x.length cx, .slice AU e.u.length cu, .slice AP e.p.length cp] 33 (0, 0)) :=
  ⟨_, rfl, kept_alloc _ _, heap_alloc_new _ _⟩
 have ew : W1.heap.size = W.heap.size + 1 := by rw [hW1]; simp
 rw [ew] at hb2
 have kk := kW.trans (kW1.trans kW2)
 have hT1 : IvS W2 (.slice (some ⟨W.heap.size, 0, none⟩) 1 1) [e.t] := ivS1 (hb1.kept kW2) (HT.out.kept kk)
 obtain ⟨rows, hrows⟩ : ∃ rows : List (Value × List RawI), rows = [(.slice (some ⟨W.heap.size, 0, none⟩) 1 1, [e.t]), (.slice AX e.x.length cx, e.x), (.slice AU e.u.length cu, e.u), (.slice AP e.p.length cp, e.p)] := ⟨_, rfl⟩
 have RS := Lib.hid (show ∀ j r, rows[j]? = some r → IvS W2 r.1 r.2 ∧ (∀ a ∈ r.2, a.lens 17592186044416) ∧ r.2.length ≤ 1000000000 ∧ W2.cell? ⟨W.heap.size + 1, j, none⟩ = some r.1 by
  intro j r hr
  subst hrows
  rcases j with _ | _ | _ | _ | j
  ·cases hr; exact ⟨hT1, by simpa using l1, by simp, cell_of_block hb2 0 _ rfl⟩
  ·cases hr; exact ⟨HX.out.kept kk, l2, n2, cell_of_block hb2 1 _ rfl⟩
  ·cases hr; exact ⟨HU.out.kept kk, l3, n3, cell_of_block hb2 2 _ rfl⟩
  ·cases hr; exact ⟨HP.out.kept kk, l4, n4, cell_of_block hb2 3 _ rfl⟩
  ·simp at hr)
 have RL : rows.length = 4 := by rw [hrows]; rfl
 have RE : mayE e = rows.all fun r => r.2.all mayI := by
  rw [hrows]; unfold mayE; simp [Bool.and_assoc]
 rw [RE]
 have KK := Lib.hid kk
 have HW := Lib.hid hW
 have HW1 := Lib.hid hW1
 have HW2 := Lib.hid hW2
 obtain ⟨c0, c1, c2, c3, c4, c5, c6, c7, c8⟩ := ln_cells hb
 clear RE hrows hT1 hb hb1 hb2 kk kW kW1 kW2 l1 l2 l3 l4 n2 n3 n4 hW hW1 hW2 HT HX HU HP ht
 generalize e.t.lo.neg = z1 at *
 generalize e.t.lo.e = z2 at *
 generalize e.t.hi.neg = z3 at *
 generalize e.t.hi.e = z4 at *
 generalize e.x.length = y1 at *
 generalize e.u.length = y2 at *
 generalize e.p.length = y3 at *
 go_enter Tryz.func69, Tryz.ntmps69
 go_upto_region 1 with fail
 rw [← HW.out]
 go_wp2_with fail
 rw [← HW1.out, ← HW2.out]
 clear c0 c1 c2 c3 c4 c5 c6 c7 c8 HW HW1 HW2
 go_loopw [16] (fun t wr => ∃ k : Nat, k ≤ 4 ∧ t = .int .i64 k ∧ (∀ i r, i < k → rows[i]? = some r → r.2.all mayI = true) ∧ Kept W2 wr) (fun t _ => (4 - intOf t).toNat)
 case atStart => exact ⟨0, Nat.zero_le _, rfl, fun i a hi => absurd hi (Nat.not_lt_zero _), Below.refl _ _⟩
 case round =>
  obtain ⟨k, hk, rfl, hall, hKr⟩ := hrel
  have KR := Lib.hid hKr
  have AL := Lib.hid hall
  clear hKr hall
  by_cases hlt : k < 4
  ·obtain ⟨r, hr⟩ : ∃ r, rows[k]? = some r := ⟨_, List.getElem?_eq_getElem (by omega)⟩
   obtain ⟨hs, hll, hln, hcell⟩ := RS.out k r hr
   have hc0 := (KR.out.cell (p := ⟨W.heap.size + 1, k, none⟩) (lt_of_cell hcell)).trans hcell
   have HRR := Lib.hid hr
   have hm := containsE_c (g := fun a => !mayI a) (hs.kept KR.out) hln (fun w1 y q a ha hy => mayEnv1_c hy (hll a ha))
   obtain ⟨mb, hmb⟩ : ∃ mb, mb = r.2.all mayI := ⟨_, rfl⟩
   rw [← List.not_all_eq_any_not, ← hmb] at hm
   have HMB := Lib.hid hmb
   have HM := Lib.hid hm
   clear hr hs hll hln hcell hm hmb
   go_wp2_with fail
   refine HM.out.mono ?_
   rintro e' w2' ⟨rfl, q⟩
   have K2 := Lib.hid (KR.out.trans q)
   clear q hc0
   simp only []
   cases mb
   ·go_wp2_with fail
    go_ret
    have e1 : (rows.all fun r => r.2.all mayI) = false := by
     rw [List.all_eq_false]
     exact ⟨r, List.mem_of_getElem? HRR.out, by rw [← HMB.out]; decide⟩
    exact ⟨by rw [e1]; rfl, KK.out.trans K2.out⟩
   ·go_wp2_with fail
    go_roundw
    case rel =>
     refine ⟨k + 1, by omega, by go_num, fun i a hi ha' => ?_, K2.out⟩
     by_cases h2 : i = k
     ·subst h2
      rw [HRR.out] at ha'
      cases ha'
      exact HMB.out.symm
     ·exact AL.out i a (by omega) ha'
    case measure => simp only [intOf]; omega
  ·obtain rfl : k = 4 := by omega
   go_wp2_with fail
   go_ret
   have e1 : (rows.all fun r => r.2.all mayI) = true := by
    rw [List.all_eq_true]
    intro r hr
    obtain ⟨i, hi, he⟩ := List.mem_iff_getElem.1 hr
    exact AL.out i r (by omega) (by rw [List.getElem?_eq_getElem hi, he])
   exact ⟨by rw [e1]; rfl, KK.out.trans KR.out⟩
theorem madeCells_mem {z : Array Value} {n : Nat} {u : Value} (hz : 0 < z.size) (h : u ∈ (madeCells z n).toList) : u ∈ z.toList := by
 simp [madeCells] at h
 obtain ⟨a, ha, rfl⟩ := h
 have hlt := Nat.mod_lt a hz
 rw [getElem!_pos z _ hlt]
 simp
/-- A new row of intervals, with room for n. -/
theorem make_iv (w : World) {n : Nat} (hn : n ≤ 1000) : ∃ V, (Instr.makeSlice 33 (.int .i64 0) (.int .i64 n)).run Tryz.prog w = .ok (.slice (some ⟨w.heap.size, 0, none⟩) 0 n) V ∧ Kept w V ∧ w.heap.size < V.heap.size ∧
 OwnI V w.heap.size (.slice (some ⟨w.heap.size, 0, none⟩) 0 n) [] [] := by
 obtain ⟨i0, hi, hz0, hz1, hz2⟩ := info_parts iinfo
 have hr := run_make (P := Tryz.prog) w 33 32 i0 _ Tryz.underlying33 hi hz0 .i64 .i64 0 n (Int.le_refl _) (by omega) (by rw [hz2]; omega) (by omega)
 simp only [Int.toNat_zero, Int.toNat_natCast] at hr
 refine ⟨_, hr, kept_alloc _ _, by simp, ?_, by simp, by simp, ?_, by simp⟩
 ·have := World.ownsRow_made (base := w.heap.size) (e := 32) (size := 6) w (madeCells (Value.agg #[.bool false, .slice none 0 0, .int .i64 0, .bool false, .slice none 0 0, .int .i64 0]).cells (n * i0.size)) n (Nat.le_refl _) (by unfold maxLen; omega) (by rw [size_madeCells, hz1])
  exact this
 ·intro g hg
  simp [Value.ownBlock] at hg
  subst hg
  exact ⟨_, _, heap_alloc_new _ _, fun u hu => zcells_nl u (madeCells_mem (by decide) hu)⟩
theorem wpList_append_iv {w : World} {ops : Array Oper} {rest : List Oper} {o : Oper} {a : Act} {Q : Exit → Act → World → Prop} (hgd : o.guard = none) (s x : Operand)
 (ho : o.op = .call { callee := .builtin .append, args := #[s, x], argTypes := #[33, 33] })
 {base : Nat} {v : Value} {l : List RawI} {xs : List Value} (hs : a.eval s = v) (hown : OwnI w base v l xs) {d : RawI} {x0 x1 x2 x3 x4 x5 : Value} {b : Nat}
 (hd : IvR w (.agg #[x0, x1, x2, x3, x4, x5]) d) (hb : BlkI w b x0 x1 x2 x3 x4 x5) (hx : a.eval x = .slice (some ⟨b, 0, none⟩) 1 1)
 (hl : l.length ≤ 1000) (hbase : base ≤ w.heap.size)
 (h : ∀ v' w', OwnI w' base v' (l ++ [d]) (xs ++ [x0, x1, x2, x3, x4, x5]) → w.grownBy w' v.ownBlock → wpList Tryz.prog ops Q rest (a.put o.dst v') w') : wpList Tryz.prog ops Q (o :: rest) a w := by
 obtain ⟨i0, hi, hz0, hz1, hz2⟩ := info_parts iinfo
 obtain ⟨-, c0, c1, c2, c3, c4, c5⟩ := hb.facts
 have hcl := hd.cells
 have ad : ∀ j, (⟨b, 0, none⟩ : Addr).add j = ⟨b, j, none⟩ := by intro j; unfold Addr.add; split <;> simp_all
 refine wpList_append_nol hgd s x _ ho base 32 i0 _ 6 80 Tryz.underlying33 hi hz0 hz1 hz2 rfl (by decide) v l.length xs hs hown.row _ 1 1 [x0, x1, x2, x3, x4, x5] hx rfl ?_ (fun u hu => (hcl u hu).2) (by unfold maxLen; omega) (by omega) hbase (by decide) hown.nl (fun u hu => (hcl u hu).1) zcells_nl hown.blk ?_
 ·intro j u hu
  rw [ad]
  rcases j with _ | _ | _ | _ | _ | _ | j
  ·cases hu; exact c0
  ·cases hu; exact c1
  ·cases hu; exact c2
  ·cases hu; exact c3
  ·cases hu; exact c4
  ·cases hu; exact c5
  ·simp at hu
 ·intro v' w' g' q1 q2 q3 q4
  exact h v' w' (hown.snoc hd q1 q2 q3 q4) q2
theorem OwnI.base {w : World} {base : Nat} {v : Value} {l : List RawI} {xs : List Value} (h : OwnI w base v l xs) : ∀ g, v.ownBlock = some g → base ≤ g := by
 intro g hg
 rcases h.row.2 with ⟨rfl, -⟩ | ⟨g', cap, cur, rfl, hb, -⟩
 ·simp [Value.ownBlock] at hg
 ·simp [Value.ownBlock] at hg; subst hg; exact hb
/-- An append onto such a row keeps what was there ahead of it. -/
theorem OwnI.grown_kept {W w w' : World} {v : Value} {l : List RawI} {xs : List Value} (h : OwnI w W.heap.size v l xs) (k : Kept W w) (hg : w.grownBy w' v.ownBlock) : Kept W w' :=
 Below.grown k hg k.size (fun g hg' => h.base g hg')
/-- It returns intervals and an error's number. -/
def RetLs (o : Outc (List RawI)) (w : World) (e : Ending) (w' : World) : Prop := Kept w w' ∧ ∃ v, e = .returned (.tuple #[v, .int .i64 o.k]) ∧ IvS w' v o.v
theorem ivS_nil (w : World) : IvS w (.slice none 0 0) [] := ⟨none, 0, rfl, Nat.le_refl _, fun h => absurd h (by simp)⟩
/-- expo.Over is such a function. -/
def OvC (ov : Iv → Nat → Outc Iv) : Prop := (∀ a p, a.Ok → 1 ≤ p → p ≤ 300 → OkI (ov a p)) ∧
 ∀ w v a p, IvC w v a → a.Ok → Tab w → 1 ≤ p → p ≤ 300 → Calls Tryz.prog 113 #[v, .int .i64 (p : Nat)] w (RetIE (rawO (ov a p)) w)
theorem linesI_snoc (ov : Iv → Nat → Outc Iv) (e : En) (p : Nat) : ∀ (ls : List Ln) (out rows : List RawI) (l : Ln), linesI ov e p out ls = ⟨rows, 0⟩ →
 linesI ov e p out (ls ++ [l]) = if (lineI ov e p rows l).k = 0 then ⟨rows ++ [(lineI ov e p rows l).v.raw], 0⟩ else ⟨[], (lineI ov e p rows l).k⟩
 | [], out, rows, l, h => by
   have : out = rows := congrArg Outc.v h
   subst this
   simp only [List.nil_append, linesI]
 | m :: ls, out, rows, l, h => by
   rw [linesI] at h
   by_cases hk : (lineI ov e p out m).k = 0
   ·rw [if_pos hk] at h
    rw [List.cons_append, linesI, if_pos hk]
    exact linesI_snoc ov e p ls _ rows l h
   ·rw [if_neg hk] at h
    exact absurd (congrArg Outc.k h) hk
theorem linesI_bad (ov : Iv → Nat → Outc Iv) (e : En) (p : Nat) : ∀ (ls : List Ln) (out : List RawI) (rest : List Ln), (linesI ov e p out ls).k ≠ 0 → linesI ov e p out (ls ++ rest) = linesI ov e p out ls
 | [], out, rest, h => absurd rfl h
 | m :: ls, out, rest, h => by
   rw [linesI] at h
   rw [List.cons_append, linesI, linesI]
   by_cases hk : (lineI ov e p out m).k = 0
   ·rw [if_pos hk] at h
    rw [if_pos hk, if_pos hk]
    exact linesI_bad ov e p ls _ rest h
   ·rw [if_neg hk, if_neg hk]
def ivWo (w : World) (b o : Nat) (x y z x' y' z' : Value) : World :=
 (((((w.setCell ⟨b, o, none⟩ x).setCell ⟨b, o + 1, none⟩ y).setCell ⟨b, o + 2, none⟩ z).setCell ⟨b, o + 3, none⟩ x').setCell ⟨b, o + 4, none⟩ y').setCell ⟨b, o + 5, none⟩ z'
theorem ivWo_other (w : World) (b o k : Nat) (x y z x' y' z' : Value) (h : k ≠ b) : (ivWo w b o x y z x' y' z').heap[k]? = w.heap[k]? := by
 unfold ivWo
 rw [Below.heap_setCell _ _ _ _ h, Below.heap_setCell _ _ _ _ h, Below.heap_setCell _ _ _ _ h, Below.heap_setCell _ _ _ _ h, Below.heap_setCell _ _ _ _ h, Below.heap_setCell _ _ _ _ h]
theorem ivWo_kb {w : World} {b o : Nat} {cs : Array Value} {T : TypeId} (hb : w.heap[b]? = some (.cells cs T (0, 0))) (hn : ∀ u ∈ cs.toList, NoLimb u) (x y z x' y' z' : Value) : KB w [b] (ivWo w b o x y z x' y' z') := by
 have k0 : Below 0 w (ivWo w b o x y z x' y' z') :=
  ((((((Below.refl 0 w).setCell (p := ⟨b, o, none⟩) (Nat.zero_le _) x).setCell (p := ⟨b, o + 1, none⟩) (Nat.zero_le _) y).setCell (p := ⟨b, o + 2, none⟩) (Nat.zero_le _) z).setCell (p := ⟨b, o + 3, none⟩) (Nat.zero_le _) x').setCell (p := ⟨b, o + 4, none⟩) (Nat.zero_le _) y').setCell (p := ⟨b, o + 5, none⟩) (Nat.zero_le _) z'
 have ho := fun k (hk : k ≠ b) => ivWo_other w b o k x y z x' y' z' hk
 generalize ivWo w b o x y z x' y' z' = w' at *
 refine ⟨k0.os, k0.tape, k0.output, k0.size, fun k _ hk => ho k (by simpa using hk), fun p j v hp => ?_⟩
 have hne : p ≠ b := by
  rintro rfl
  exact hn _ (Array.mem_toList_iff.2 (Array.mem_of_getElem? (cell_in hb hp))) _ rfl
 rw [World.cell?_of_block (ho p hne)]
 exact hp
/-- Block b is a row of intervals. -/
def DRow (w : World) (b : Nat) (l : List RawI) : Prop := ∃ cs, w.heap[b]? = some (.cells cs 32 (0, 0)) ∧ cs.size = l.length * 6 ∧ (∀ u ∈ cs.toList, NoLimb u) ∧
 ∀ i a, l[i]? = some a → ∃ x y z x' y' z', cs[i * 6]? = some x ∧ cs[i * 6 + 1]? = some y ∧ cs[i * 6 + 2]? = some z ∧ cs[i * 6 + 3]? = some x' ∧ cs[i * 6 + 4]? = some y' ∧ cs[i * 6 + 5]? = some z' ∧ IvR w (.agg #[x, y, z, x', y', z']) a
theorem DRow.kept {w w' : World} {b : Nat} {l : List RawI} (h : DRow w b l) (k : Kept w w') : DRow w' b l := by
 obtain ⟨cs, h1, h2, h3, h4⟩ := h
 refine ⟨cs, blk_kept h1 k, h2, h3, fun i a hi => ?_⟩
 obtain ⟨x, y, z, x', y', z', a0, a1, a2, a3, a4, a5, hI⟩ := h4 i a hi
 exact ⟨x, y, z, x', y', z', a0, a1, a2, a3, a4, a5, hI.kept k⟩
theorem DRow.kb {w w' : World} {X : List Nat} {b : Nat} {l : List RawI} (h : DRow w b l) (k : KB w X w') (hn : b ∉ X) : DRow w' b l := by
 obtain ⟨cs, h1, h2, h3, h4⟩ := h
 refine ⟨cs, k.blk h1 hn, h2, h3, fun i a hi => ?_⟩
 obtain ⟨x, y, z, x', y', z', a0, a1, a2, a3, a4, a5, hI⟩ := h4 i a hi
 exact ⟨x, y, z, x', y', z', a0, a1, a2, a3, a4, a5, hI.kb k⟩
theorem DRow.lt {w : World} {b : Nat} {l : List RawI} (h : DRow w b l) : b < w.heap.size := by
 obtain ⟨cs, h1, -⟩ := h
 exact (Array.getElem?_eq_some_iff.1 h1).1
theorem DRow.at {w : World} {b : Nat} {l : List RawI} (h : DRow w b l) {i : Nat} {a : RawI} (hi : l[i]? = some a) : IvAt w b (i * 6) a := by
 obtain ⟨cs, h1, h2, h3, h4⟩ := h
 obtain ⟨x, y, z, x', y', z', a0, a1, a2, a3, a4, a5, hI⟩ := h4 i a hi
 exact ⟨x, y, z, x', y', z', cell_of_block h1 _ _ a0, cell_of_block h1 _ _ a1, cell_of_block h1 _ _ a2, cell_of_block h1 _ _ a3, cell_of_block h1 _ _ a4, cell_of_block h1 _ _ a5, hI⟩
theorem DRow.ivS {w : World} {b c : Nat} {l : List RawI} (h : DRow w b l) (hc : l.length ≤ c) : IvS w (.slice (some ⟨b, 0, none⟩) l.length c) l :=
 ⟨_, _, rfl, hc, fun _ => ⟨b, 0, rfl, fun i a hi => by rw [Nat.zero_add]; exact h.at hi⟩⟩
theorem DRow.free {w : World} {b : Nat} {l : List RawI} (h : DRow w b l) (i : Nat) : w.frozen? ⟨b, i, none⟩ = false := by
 obtain ⟨cs, h1, -⟩ := h
 exact free_of_block h1 i
theorem DRow.set {w : World} {b : Nat} {l : List RawI} (h : DRow w b l) {i : Nat} (hi : i < l.length) {r : RawI} {x y z x' y' z' : Value} (hI : IvR w (.agg #[x, y, z, x', y', z']) r) :
 DRow (ivWo w b (i * 6) x y z x' y' z') b (l.set i r) ∧ KB w [b] (ivWo w b (i * 6) x y z x' y' z') := by
 obtain ⟨cs, h1, h2, h3, h4⟩ := h
 have hkb := ivWo_kb (o := i * 6) h1 h3 x y z x' y' z'
 refine ⟨?_, hkb⟩
 have hcl := hI.cells
 have hb : (ivWo w b (i * 6) x y z x' y' z').heap[b]? = some (.cells ((((((cs.setIfInBounds (i * 6) x).setIfInBounds (i * 6 + 1) y).setIfInBounds (i * 6 + 2) z).setIfInBounds (i * 6 + 3) x').setIfInBounds (i * 6 + 4) y').setIfInBounds (i * 6 + 5) z') 32 (0, 0)) :=
  block_setCell (block_setCell (block_setCell (block_setCell (block_setCell (block_setCell h1 x) y) z) x') y') z'
 have hg : ∀ j, ((((((cs.setIfInBounds (i * 6) x).setIfInBounds (i * 6 + 1) y).setIfInBounds (i * 6 + 2) z).setIfInBounds (i * 6 + 3) x').setIfInBounds (i * 6 + 4) y').setIfInBounds (i * 6 + 5) z')[j]? =
  if j = i * 6 + 5 then some z' else if j = i * 6 + 4 then some y' else if j = i * 6 + 3 then some x' else if j = i * 6 + 2 then some z else if j = i * 6 + 1 then some y else if j = i * 6 then some x else cs[j]? := by
  intro j
  simp only [Array.getElem?_setIfInBounds, Array.size_setIfInBounds, if_pos (show i * 6 + 5 < cs.size by omega), if_pos (show i * 6 + 4 < cs.size by omega), if_pos (show i * 6 + 3 < cs.size by omega), if_pos (show i * 6 + 2 < cs.size by omega), if_pos (show i * 6 + 1 < cs.size by omega), if_pos (show i * 6 < cs.size by omega), @eq_comm _ j]
 refine ⟨_, hb, by simp [h2], ?_, ?_⟩
 ·intro u hu
  obtain ⟨j, hj⟩ := Array.mem_iff_getElem?.1 (Array.mem_toList_iff.1 hu)
  rw [hg] at hj
  split at hj
  ·cases hj; exact (hcl _ (by simp)).1
  split at hj
  ·cases hj; exact (hcl _ (by simp)).1
  split at hj
  ·cases hj; exact (hcl _ (by simp)).1
  split at hj
  ·cases hj; exact (hcl _ (by simp)).1
  split at hj
  ·cases hj; exact (hcl _ (by simp)).1
  split at hj
  ·cases hj; exact (hcl _ (by simp)).1
  ·exact h3 u (Array.mem_toList_iff.2 (Array.mem_of_getElem? hj))
 ·intro j a hja
  rw [List.getElem?_set] at hja
  by_cases e : i = j
  ·subst e
   rw [if_pos rfl, if_pos hi] at hja
   cases hja
   refine ⟨x, y, z, x', y', z', ?_, ?_, ?_, ?_, ?_, ?_, hI.kb hkb⟩ <;> rw [hg]
   ·rw [if_neg (by omega), if_neg (by omega), if_neg (by omega), if_neg (by omega), if_neg (by omega), if_pos rfl]
   ·rw [if_neg (by omega), if_neg (by omega), if_neg (by omega), if_neg (by omega), if_pos rfl]
   ·rw [if_neg (by omega), if_neg (by omega), if_neg (by omega), if_pos rfl]
   ·rw [if_neg (by omega), if_neg (by omega), if_pos rfl]
   ·rw [if_neg (by omega), if_pos rfl]
   ·rw [if_pos rfl]
  ·rw [if_neg e] at hja
   obtain ⟨p, q, s, p', q', s', a0, a1, a2, a3, a4, a5, hI'⟩ := h4 j a hja
   refine ⟨p, q, s, p', q', s', ?_, ?_, ?_, ?_, ?_, ?_, hI'.kb hkb⟩ <;> rw [hg]
   ·rw [if_neg (by omega), if_neg (by omega), if_neg (by omega), if_neg (by omega), if_neg (by omega), if_neg (by omega)]; exact a0
   ·rw [if_neg (by omega), if_neg (by omega), if_neg (by omega), if_neg (by omega), if_neg (by omega), if_neg (by omega)]; exact a1
   ·rw [if_neg (by omega), if_neg (by omega), if_neg (by omega), if_neg (by omega), if_neg (by omega), if_neg (by omega)]; exact a2
   ·rw [if_neg (by omega), if_neg (by omega), if_neg (by omega), if_neg (by omega), if_neg (by omega), if_neg (by omega)]; exact a3
   ·rw [if_neg (by omega), if_neg (by omega), if_neg (by omega), if_neg (by omega), if_neg (by omega), if_neg (by omega)]; exact a4
   ·rw [if_neg (by omega), if_neg (by omega), if_neg (by omega), if_neg (by omega), if_neg (by omega), if_neg (by omega)]; exact a5
/-- The row's block is not one of the blocks below. -/
def Fr (v : Value) (base : Nat) : Prop := ∀ g, v.ownBlock = some g → base ≤ g
/-- .. nor one of those above. -/
def Lt (v : Value) (ub : Nat) : Prop := ∀ g, v.ownBlock = some g → g < ub
theorem IvS.kb2 {W w : World} {X : List Nat} {v : Value} {l : List RawI} {base ub : Nat} (h : IvS W v l) (k : KB W X w) (hf : Fr v base) (hl : Lt v ub) (hX : ∀ x ∈ X, x < base ∨ ub ≤ x) : IvS w v l := by
 refine h.kb k (fun g hg hx => ?_)
 have h1 := hf g hg
 have h2 := hl g hg
 rcases hX g hx with q | q <;> omega
/-- Block ball holds n slices; the first ones read as these rows, which lie in blocks behind it. -/
def AllR (w : World) (ball n ub : Nat) (rows : List (List RawI))   : Prop := ∃ cs : Array Value, w.heap[ball]? = some (.cells cs 33 (0, 0)) ∧ cs.size = n ∧ (∀ u ∈ cs.toList, ∃ A a c, u = .slice A a c) ∧
 ∀ (i : Nat) (r : List RawI), rows[i]? = some r → ∃ s : Value, cs[i]? = some s ∧ IvS w s r ∧ Fr s (ball + 1) ∧ Lt s ub
theorem AllR.nl {w : World} {ball n ub : Nat} {rows : List (List RawI)} (h : AllR w ball n ub rows) : NoL w ball := by
 obtain ⟨cs, h1, h2, h3, h4⟩ := h
 refine ⟨cs, _, h1, fun u hu => ?_⟩
 obtain ⟨A, a, c, rfl⟩ := h3 u hu
 exact noLimb_slice _ _ _
theorem AllR.lt {w : World} {ball n ub : Nat} {rows : List (List RawI)} (h : AllR w ball n ub rows) : ball < w.heap.size := by
 obtain ⟨cs, h1, -⟩ := h
 exact (Array.getElem?_eq_some_iff.1 h1).1
theorem AllR.free {w : World} {ball n ub : Nat} {rows : List (List RawI)} (h : AllR w ball n ub rows) (i : Nat) : w.frozen? ⟨ball, i, none⟩ = false := by
 obtain ⟨cs, h1, -⟩ := h
 exact free_of_block h1 i
theorem AllR.kb {w w' : World} {X : List Nat} {ball n ub : Nat} {rows : List (List RawI)} (h : AllR w ball n ub rows) (k : KB w X w') (hn : ball ∉ X) (hX : ∀ x ∈ X, x < ball + 1 ∨ ub ≤ x) : AllR w' ball n ub rows := by
 obtain ⟨cs, h1, h2, h3, h4⟩ := h
 refine ⟨cs, k.blk h1 hn, h2, h3, fun i r hi => ?_⟩
 obtain ⟨s, a, b, c, d⟩ := h4 i r hi
 exact ⟨s, a, b.kb2 k c d hX, c, d⟩
theorem AllR.kept {w w' : World} {ball n ub : Nat} {rows : List (List RawI)} (h : AllR w ball n ub rows) (k : Kept w w') : AllR w' ball n ub rows := h.kb (k.kb []) (by simp) (by simp)
theorem AllR.at {w : World} {ball n ub : Nat} {rows : List (List RawI)} (h : AllR w ball n ub rows) {i : Nat} {r : List RawI} (hi : rows[i]? = some r) : ∃ s, w.cell? ⟨ball, i, none⟩ = some s ∧ IvS w s r ∧ Fr s (ball + 1) ∧ Lt s ub := by
 obtain ⟨cs, h1, h2, h3, h4⟩ := h
 obtain ⟨s, a, b, c⟩ := h4 i r hi
 exact ⟨s, cell_of_block h1 _ _ a, b, c⟩
/-- A slice stored at the next place. -/
theorem AllR.put {w : World} {ball n ub : Nat} {rows : List (List RawI)} (h : AllR w ball n ub rows) (hk : rows.length < n) {A : Option Addr} {a c : Nat} :
 AllR (w.setCell ⟨ball, rows.length, none⟩ (.slice A a c)) ball n ub rows ∧ KB w [ball] (w.setCell ⟨ball, rows.length, none⟩ (.slice A a c)) ∧ (w.setCell ⟨ball, rows.length, none⟩ (.slice A a c)).cell? ⟨ball, rows.length, none⟩ = some (.slice A a c) := by
 obtain ⟨cs, h1, h2, h3, h4⟩ := h
 have hlt : rows.length < cs.size := by omega
 obtain ⟨A0, a0, c0, h0⟩ := h3 cs[rows.length] (by simp)
 have hold : w.cell? ⟨ball, rows.length, none⟩ = some (.slice A0 a0 c0) := cell_of_block h1 _ _ (by rw [Array.getElem?_eq_getElem hlt, h0])
 have hkb := (KB.refl w [ball]).setCell (by simp) hold (noLimb_slice _ _ _) (.slice A a c)
 have hb := block_setCell h1 (i := rows.length) (.slice A a c)
 refine ⟨⟨_, hb, by simp [h2], ?_, fun i r hi => ?_⟩, hkb, cell_of_block hb _ _ (by simp [hlt])⟩
 ·intro u hu
  obtain ⟨j, hj⟩ := Array.mem_iff_getElem?.1 (Array.mem_toList_iff.1 hu)
  rw [Array.getElem?_setIfInBounds] at hj
  split at hj
  ·cases hj; exact ⟨_, _, _, rfl⟩
  ·exact h3 u (Array.mem_toList_iff.2 (Array.mem_of_getElem? hj))
 ·obtain ⟨s, q1, q2, q3, q4⟩ := h4 i r hi
  have hil := (List.getElem?_eq_some_iff.1 hi).1
  refine ⟨s, ?_, q2.kb2 hkb q3 q4 (by intro x hx; simp at hx; subst hx; exact .inl (Nat.lt_succ_self _)), q3, q4⟩
  rw [Array.getElem?_setIfInBounds, if_neg (by omega)]
  exact q1
theorem AllR.snoc {w : World} {ball n ub : Nat} {rows : List (List RawI)} (h : AllR w ball n ub rows) {s : Value} {r : List RawI} (hc : w.cell? ⟨ball, rows.length, none⟩ = some s) (hs : IvS w s r) (hf : Fr s (ball + 1)) (hl2 : Lt s ub) : AllR w ball n ub (rows ++ [r]) := by
 obtain ⟨cs, h1, h2, h3, h4⟩ := h
 refine ⟨cs, h1, h2, h3, fun i q hi => ?_⟩
 by_cases hl : i < rows.length
 ·rw [List.getElem?_append_left hl] at hi
  exact h4 i q hi
 ·rw [List.getElem?_append_right (by omega)] at hi
  obtain ⟨hz, he⟩ := List.getElem?_eq_some_iff.1 hi
  simp at hz
  obtain rfl : i = rows.length := by omega
  simp at he
  subst he
  exact ⟨s, cell_in h1 hc, hs, hf, hl2⟩
theorem AllR.mono {w : World} {ball n ub ub' : Nat} {rows : List (List RawI)} (h : AllR w ball n ub rows) (hu : ub ≤ ub') : AllR w ball n ub' rows := by
 obtain ⟨cs, h1, h2, h3, h4⟩ := h
 refine ⟨cs, h1, h2, h3, fun i r hi => ?_⟩
 obtain ⟨s, a, b, c, d⟩ := h4 i r hi
 exact ⟨s, a, b, c, fun g hg => Nat.lt_of_lt_of_le (d g hg) hu⟩
theorem sinfo : (Tryz.prog.info? 33).map (fun i => (i.zero, i.size, i.bytes)) = some (some (.slice none 0 0), 1, 24) := by kernel_rfl
/-- A new row of n rows. -/
theorem make_rows (w : World) {n : Nat} (hn : n ≤ 1000) : ∃ V, (Instr.makeSlice 42 (.int .i64 n) (.int .i64 n)).run Tryz.prog w = .ok (.slice (some ⟨w.heap.size, 0, none⟩) n n) V ∧ Kept w V ∧ w.heap.size < V.heap.size ∧ AllR V w.heap.size n V.heap.size [] := by
 obtain ⟨i0, hi, hz0, hz1, hz2⟩ := info_parts sinfo
 have hr := run_make (P := Tryz.prog) w 42 33 i0 _ Tryz.underlying42 hi hz0 .i64 .i64 n n (by omega) (Int.le_refl _) (by rw [hz2]; omega) (by omega)
 simp only [Int.toNat_natCast] at hr
 refine ⟨_, hr, kept_alloc _ _, by simp, _, heap_alloc_new _ _, by rw [size_madeCells, hz1, Nat.mul_one], fun u hu => ?_, by simp⟩
 have := madeCells_mem (by decide) hu
 simp [Value.cells] at this
 exact ⟨_, _, _, this⟩
/-- A new row of n intervals of nought. -/
theorem make_zero (w : World) {n : Nat} (hn : n ≤ 1000000000) : ∃ V, (Instr.makeSlice 33 (.int .i64 n) (.int .i64 n)).run Tryz.prog w = .ok (.slice (some ⟨w.heap.size, 0, none⟩) n n) V ∧ Kept w V ∧ w.heap.size < V.heap.size ∧ DRow V w.heap.size (List.replicate n rzI) := by
 obtain ⟨i0, hi, hz0, hz1, hz2⟩ := info_parts iinfo
 have hr := run_make (P := Tryz.prog) w 33 32 i0 _ Tryz.underlying33 hi hz0 .i64 .i64 n n (by omega) (Int.le_refl _) (by rw [hz2]; omega) (by omega)
 simp only [Int.toNat_natCast] at hr
 refine ⟨_, hr, kept_alloc _ _, by simp, _, heap_alloc_new _ _, by rw [size_madeCells, hz1, List.length_replicate], fun u hu => zcells_nl u (madeCells_mem (by decide) hu), fun i a ha => ?_⟩
 rw [hz1]
 have hlt : i < n := by have := (List.getElem?_eq_some_iff.1 ha).1; simpa using this
 obtain rfl : a = rzI := by
  rw [List.getElem?_replicate, if_pos hlt] at ha
  exact (Option.some.inj ha).symm
 have hc : ∀ t, t < 6 → (madeCells (Value.agg #[.bool false, .slice none 0 0, .int .i64 0, .bool false, .slice none 0 0, .int .i64 0]).cells (n * 6))[i * 6 + t]? = some ((Value.agg #[.bool false, .slice none 0 0, .int .i64 0, .bool false, .slice none 0 0, .int .i64 0]).cells[t]!) := by
  intro t ht
  have hb : i * 6 + t < n * 6 := by omega
  have hm : (i * 6 + t) % 6 = t := by omega
  unfold madeCells
  rw [Array.getElem?_map, Array.getElem?_range, if_pos hb, Option.map_some]
  show some (_ : Value) = _
  have hs : (Value.agg #[.bool false, .slice none 0 0, .int .i64 0, .bool false, .slice none 0 0, .int .i64 0]).cells.size = 6 := rfl
  rw [hs, hm]
 exact ⟨_, _, _, _, _, _, hc 0 (by decide), hc 1 (by decide), hc 2 (by decide), hc 3 (by decide), hc 4 (by decide), hc 5 (by decide), ivR_zero _⟩
end Go.Proofs.YtgododcbmkpbjaaGreatDoor
