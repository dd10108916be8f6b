/- Contracts of package slope, third part: Grad, of one out. -/
import Derived.Test.YtgododcbmkpbjaaGreatDoorClaimSmeanp35
import Derived.Test.YtgododcbmkpbjaaGreatDoorClaimSmeanp36
import Derived.Test.YtgododcbmkpbjaaGreatDoorClaimSmeanp37
import Derived.Test.YtgododcbmkpbjaaGreatDoorClaimSmeanp38
set_option maxRecDepth 100000
set_option maxHeartbeats 16000000
namespace Go.Proofs.YtgododcbmkpbjaaGreatDoor
open Go.RowKit
/-- It returns intervals, rows of intervals and an error's number. -/
def RetGr (o : Outc (List RawI × List (List RawI))) (w : World) (e : Ending) (w' : World) : Prop := Kept w w' ∧ ∃ v1 v2, e = .returned (.tuple #[v1, v2, .int .i64 o.k]) ∧ IvS w' v1 o.v.1 ∧ RowsS w' v2 o.v.2
theorem gradS_snoc (p nx : Nat) (v : List RawI) : ∀ (ls : List Ln) (all rows : List (List RawI)) (l : Ln), gradS p nx v all ls = ⟨rows, 0⟩ →
 gradS p nx v all (ls ++ [l]) = if (derivS p nx v rows l).2 = 0 then ⟨rows ++ [(derivS p nx v rows l).1], 0⟩ else ⟨[], (derivS p nx v rows l).2⟩
 | [], all, rows, l, h => by
   have : all = rows := congrArg Outc.v h
   subst this
   simp only [List.nil_append, gradS]
 | m :: ls, all, rows, l, h => by
   rw [gradS] at h
   by_cases hk : (derivS p nx v all m).2 = 0
   ·rw [if_pos hk] at h
    rw [List.cons_append, gradS, if_pos hk]
    exact gradS_snoc p nx v ls _ rows l h
   ·rw [if_neg hk] at h
    exact absurd (congrArg Outc.k h) hk
theorem gradS_bad (p nx : Nat) (v : List RawI) : ∀ (ls : List Ln) (all : List (List RawI)) (rest : List Ln), (gradS p nx v all ls).k ≠ 0 → gradS p nx v all (ls ++ rest) = gradS p nx v all ls
 | [], all, rest, h => absurd rfl h
 | m :: ls, all, rest, h => by
   rw [gradS] at h
   rw [List.cons_append, gradS, gradS]
   by_cases hk : (derivS p nx v all m).2 = 0
   ·rw [if_pos hk] at h
    rw [if_pos hk, if_pos hk]
    exact gradS_bad p nx v _ _ rest h
   ·rw [if_neg hk, if_neg hk]
theorem linesI_all {ov : Iv → Nat → Outc Iv} {e : En} {p : Nat} (he : e.Cl) (hp : 1 ≤ p) (P : Ln → Prop) (hP : ∀ l out, P l → Cl out → (lineI ov e p out l).v.Ok) : ∀ (ls : List Ln) (out : List RawI), (∀ l ∈ ls, P l) → Cl out → (linesI ov e p out ls).k = 0 →
 (linesI ov e p out ls).v.length = out.length + ls.length ∧ Cl (linesI ov e p out ls).v
 | [], out, _, hc, _ => ⟨rfl, hc⟩
 | l :: ls, out, hl, hc, h => by
   rw [linesI] at h ⊢
   by_cases hk : (lineI ov e p out l).k = 0
   ·rw [if_pos hk] at h ⊢
    have := linesI_all he hp P hP ls _ (fun m hm => hl m (by simp [hm])) (hc.snoc (hP l out (hl l (by simp)) hc)) h
    refine ⟨by rw [this.1]; simp; omega, this.2⟩
   ·rw [if_neg hk] at h
    exact absurd h hk
theorem AllR.old {w : World} {ball n ub : Nat} {rows : List (List RawI)} (h : AllR w ball n ub rows) {k : Nat} (hk : k < n) : ∃ A a c, w.cell? ⟨ball, k, none⟩ = some (.slice A a c) := by
 obtain ⟨cs, h1, h2, h3, h4⟩ := h
 obtain ⟨A, a, c, e⟩ := h3 cs[k] (by simp)
 exact ⟨A, a, c, cell_of_block h1 _ _ (by rw [Array.getElem?_eq_getElem (by omega), e])⟩
theorem zeros_cl (n : Nat) : ∀ r ∈ List.replicate n rzI, r.iv.Ok ∧ r.iv.raw = r := by
 intro r hr
 obtain ⟨-, rfl⟩ := List.mem_replicate.1 hr
 exact ⟨iz_ok, iz_rawz⟩
/-- Is the value stored into the row? -/
def SetJ (b : Nat) (r0 r : List RawI) (l : Bool) (w : World) : Prop := DRow w b (if l then r else r0)
theorem SetJ.kept {b : Nat} {r0 r : List RawI} {l : Bool} {w w' : World} (q : Kept w w') (h : SetJ b r0 r l w) : SetJ b r0 r l w' := DRow.kept h q
theorem SetJ.first {b : Nat} {r0 r : List RawI} {l : Bool} {w : World} (h : SetJ b r0 r l w) (hl : l = false) : DRow w b r0 := by subst hl; exact h
theorem SetJ.last {b : Nat} {r0 r : List RawI} {w : World} (h : DRow w b r) : SetJ b r0 r true w := h
theorem SetJ.done {b : Nat} {r0 r : List RawI} {l : Bool} {w : World} (h : SetJ b r0 r l w) (hl : l = true) : DRow w b r := by subst hl; exact h
theorem oneS_ok {p : Nat} {op : Int} {a b c da db : Iv} (ha : a.Ok) (hb : b.Ok) (hc : c.Ok) (hd : da.Ok) (he : db.Ok) (hp : 1 ≤ p) (e : Int) : (oneS p op a b c da db e).v.Ok := by
 unfold oneS
 split
 ·exact doI_ok hd he hp _
 split
 ·exact doI_ok (doI_ok hd hb hp _) (doI_ok ha he hp _) hp _
 split
 ·exact doI_ok (doI_ok hd (doI_ok hc he hp _) hp _) hb hp _
 split
 ·exact doI_ok (doI_ok two_ok ha hp _) hd hp _
 split
 ·exact doI_ok hd (doI_ok two_ok hc hp _) hp _
 split
 ·exact doI_ok hc hd hp _
 ·exact iz_ok
theorem rowG_snoc (p : Nat) (op : Int) (a b c : Iv) (x y : RawI) : ∀ (l m : List RawI) (e : Int), l.length = m.length →
 rowG p op a b c (l ++ [x]) (m ++ [y]) e = ((rowG p op a b c l m e).1 ++ [(oneS p op a b c x.iv y.iv (rowG p op a b c l m e).2).v.raw], (oneS p op a b c x.iv y.iv (rowG p op a b c l m e).2).k)
 | [], [], e, _ => rfl
 | [], _ :: _, _, h => by simp at h
 | _ :: _, [], _, h => by simp at h
 | u :: l, v :: m, e, h => by
   have := rowG_snoc p op a b c x y l m (oneS p op a b c u.iv v.iv e).k (by simpa using h)
   simp only [List.cons_append, rowG, this]
/-- How far a round has come: is the operation done, is its value stored? -/
def GrJ (bd bw : Nat) (p e1 e2 : Int) (r0 r1 : List RawI) (l1 l2 : Bool) (w : World) : Prop := DRow w bd (if l2 then r1 else r0) ∧ Wk w bw p (if l1 then e2 else e1)
theorem GrJ.kept {bd bw : Nat} {p e1 e2 : Int} {r0 r1 : List RawI} {l1 l2 : Bool} {w w' : World} (q : Kept w w') (h : GrJ bd bw p e1 e2 r0 r1 l1 l2 w) : GrJ bd bw p e1 e2 r0 r1 l1 l2 w' := ⟨DRow.kept h.1 q, Wk.kept h.2 q⟩
theorem GrJ.wk {bd bw : Nat} {p e1 e2 : Int} {r0 r1 : List RawI} {l1 l2 : Bool} {w : World} (h : GrJ bd bw p e1 e2 r0 r1 l1 l2 w) (hl : l1 = false) : Wk w bw p e1 := by subst hl; exact h.2
theorem GrJ.did {bd bw : Nat} {p e1 e2 : Int} {r0 r1 : List RawI} {l1 l2 : Bool} {w w' : World} (hne : bd ∉ [bw]) (h : GrJ bd bw p e1 e2 r0 r1 l1 l2 w) (k : KB w [bw] w') (hw : Wk w' bw p e2) : GrJ bd bw p e1 e2 r0 r1 true l2 w' := ⟨h.1.kb k hne, hw⟩
theorem GrJ.row {bd bw : Nat} {p e1 e2 : Int} {r0 r1 : List RawI} {l1 l2 : Bool} {w : World} (h : GrJ bd bw p e1 e2 r0 r1 l1 l2 w) (hl : l2 = false) : DRow w bd r0 := by subst hl; exact h.1
theorem GrJ.laid {bd bw : Nat} {p e1 e2 : Int} {r0 r1 : List RawI} {l1 l2 : Bool} {w w' : World} (hne : bw ∉ [bd]) (h : GrJ bd bw p e1 e2 r0 r1 l1 l2 w) (k : KB w [bd] w') (hd : DRow w' bd r1) : GrJ bd bw p e1 e2 r0 r1 l1 true w' := ⟨hd, k.blk h.2 hne⟩
theorem GrJ.done {bd bw : Nat} {p e1 e2 : Int} {r0 r1 : List RawI} {l1 l2 : Bool} {w : World} (h : GrJ bd bw p e1 e2 r0 r1 l1 l2 w) (h1 : l1 = true) (h2 : l2 = true) : DRow w bd r1 ∧ Wk w bw p e2 := by subst h1; subst h2; exact h
theorem set_midI {l : List RawI} {n j : Nat} (hl : l.length = j) (hj : j < n) (r : RawI) : (l ++ List.replicate (n - j) rzI).set j r = (l ++ [r]) ++ List.replicate (n - (j + 1)) rzI := by
 subst hl
 rw [List.set_append_right _ _ (Nat.le_refl _), Nat.sub_self]
 obtain ⟨m, hm⟩ : ∃ m, n - l.length = m + 1 := ⟨n - l.length - 1, by omega⟩
 rw [hm, List.replicate_succ, List.set_cons_zero, List.append_assoc, show n - (l.length + 1) = m by omega]
 rfl
/-- The worker's box, a row of rows behind it. -/
theorem boxW (w : World) (p : Int) : ∃ V, V = w.alloc (.cells #[.int .i64 p, .int .i64 0] 74) ∧ Kept w V ∧ Wk V w.heap.size p 0 ∧ V.heap.size = w.heap.size + 1 :=
 ⟨_, rfl, kept_alloc _ _, heap_alloc_new _ _, by simp⟩
theorem grad_c {S : Int → Prop} {ov : Iv → Nat → Outc Iv} {w : World} {vt ve : Value} {ls : List Ln} {oo : Int} {e : En} {p : Int} (hv : TpR w vt ls [oo]) (he : EnR w ve e) (hok : LnOk ls) (hle : EnLens e) (hn : ls.length ≤ 1000000000)
 (hT : Tab w) (hov : ∀ l ∈ ls, l.op = 13 → OvC ov) (O : OpsC S) (hS : ∀ l ∈ ls, 6 ≤ l.op → l.op ≤ 12 → S l.op) (hD : ∀ l ∈ ls, DerS S l.op) :
 Calls Tryz.prog 15 #[vt, ve, .int .i64 p] w (RetGr (gradI ov ls [oo] e p) w) := by
 have LC := Lib.hid (fun w1 (k : Kept w w1) => lines_c (p := p) (hv.kept k) (he.kept k) hok hle hn (by simp) (hT.kept k) hov O hS)
 have OPS := Lib.hid O
 have DER := Lib.hid hD
 clear O hS hD
 obtain ⟨s, o, rfl, hls, hou⟩ := hv
 obtain ⟨x0, x1, x2, x3, x4, x5, sx, su, sp, rfl, ht, hx, hu, hp⟩ := he
 have HLS := Lib.hid hls
 have HO := Lib.hid hou
 have HX := Lib.hid hx
 have OK := Lib.hid hok
 have LE := Lib.hid hle
 have TT := Lib.hid hT
 have OV := Lib.hid hov
 have HTT := Lib.hid ht
 have HU := Lib.hid hu
 have HP := Lib.hid hp
 obtain ⟨A, c, rfl, hc, -⟩ := hls
 obtain ⟨B, d, rfl, -, -⟩ := hou
 obtain ⟨AX, cx, rfl, -, -⟩ := hx
 obtain ⟨AU, cu, rfl, -, -⟩ := hu
 obtain ⟨AP, cp, rfl, -, -⟩ := hp
 obtain ⟨W, hW, kW, hb, hb', lW⟩ := box2te w (.slice A ls.length c) (.slice B 1 d) x0 x1 x2 x3 x4 x5 (.slice AX e.x.length cx) (.slice AU e.u.length cu) (.slice AP e.p.length cp)
 have HW := Lib.hid hW
 have K := Lib.hid kW
 have HB := Lib.hid hb
 have HB' := Lib.hid hb'
 obtain ⟨c0, c1⟩ := cells2 hb
 obtain ⟨d0, d1, d2, d3, d4, d5, d6, d7, d8⟩ := ln_cells hb'
 clear hok hle hW kW hb hb' hT ht
 obtain ⟨T, hTI⟩ : ∃ T, tapeI ov ls [oo] e p = T := ⟨_, rfl⟩
 rw [hTI] at LC
 obtain ⟨G, hGI⟩ : ∃ G, gradI ov ls [oo] e p = G := ⟨_, rfl⟩
 rw [hGI]
 have HTI := Lib.hid hTI
 have HGI := Lib.hid hGI
 clear hTI hGI hov
 generalize hnl : ls.length = n at *
 have HN := Lib.hid hnl
 clear hnl
 go_enter Tryz.func15, Tryz.ntmps15
 go_upto_region 1 with fail
 rw [← HW.out]
 go_step3
 go_upto_region 1 with fail
 go_wp2_with fail
 refine (LC.out _ K.out).mono ?_
 rintro e' w1 ⟨q, v, rfl, hvs⟩
 have HVS := Lib.hid hvs
 obtain ⟨AV, cv, rfl, hcv, -⟩ := hvs
 have K1 := Lib.hid (K.out.trans q)
 have HB1 := Lib.hid (blk_kept HB.out q)
 have HB1' := Lib.hid (blk_kept HB'.out q)
 clear c0 c1 d0 d1 d2 d3 d4 d5 d6 d7 d8 q HW LC
 simp only []
 by_cases hk : T.k = 0
 ·have gk : (T.k != 0) = false := by simp [hk]
  have hgood : 1 ≤ p ∧ p ≤ 300 ∧ mayT ls [oo] e.x.length e.u.length e.p.length = true ∧ mayE e = true := by
   have h := HTI.out
   unfold tapeI at h
   by_cases hg : 1 ≤ p ∧ p ≤ 300 ∧ mayT ls [oo] e.x.length e.u.length e.p.length = true ∧ mayE e = true
   ·exact hg
   ·rw [if_neg hg] at h
    rw [← h] at hk
    cases hk
  obtain ⟨pn, rfl⟩ : ∃ pn : Nat, p = (pn : Int) := ⟨p.toNat, by omega⟩
  have hTL : linesI ov e pn [] ls = T := by
   rw [← HTI.out]; unfold tapeI; rw [if_pos hgood, Int.toNat_natCast]
  obtain ⟨p1, p2, hmt, hme⟩ := hgood
  replace p1 : 1 ≤ pn := by omega
  replace p2 : pn ≤ 300 := by omega
  unfold mayT at hmt
  simp only [Bool.and_eq_true, decide_eq_true_eq, List.all_cons, List.all_nil, Bool.and_true] at hmt
  obtain ⟨⟨⟨n200, -⟩, hmls⟩, hoo⟩ := hmt
  rw [HN.out] at n200 hoo
  unfold belowP at hoo
  simp only [Bool.and_eq_true, decide_eq_true_eq] at hoo
  obtain ⟨ko, rfl⟩ : ∃ ko : Nat, oo = (ko : Int) := ⟨oo.toNat, by omega⟩
  have hko : ko < n := by omega
  have hml := (mayLs_iff _ _ _ ls 0).1 hmls
  have ML := Lib.hid hml
  unfold mayE at hme
  simp only [Bool.and_eq_true] at hme
  obtain ⟨⟨⟨me1, me2⟩, me3⟩, me4⟩ := hme
  have ECL : e.Cl := ⟨HTT.out.clean me1, HX.out.cl me2, HU.out.cl me3, HP.out.cl me4⟩
  have hall := linesI_all (ov := ov) (p := pn) ECL p1 (fun l => l ∈ ls) (fun l out hl hc => by
   refine (lineI_ok ECL hc (fun h1 => ?_) p1 (fun hn a ha => ?_)).1
   ·obtain ⟨i, hi, he⟩ := List.mem_iff_getElem.1 hl
    have hi' : ls[i]? = some l := by rw [List.getElem?_eq_getElem hi, he]
    have hm := hml i l hi'
    obtain ⟨op, a, b, kk⟩ := l
    simp only at h1
    subst h1
    rw [mayL1] at hm
    simp only [Bool.and_eq_true] at hm
    obtain ⟨A', c', eA, -, hA⟩ := HLS.out
    obtain ⟨bl, ol, -, hd⟩ := hA (by omega)
    obtain ⟨a0, a1, a2, y0, y1, y2, y3, y4, y5, g0, g1, g2, g3, g4, g5, hI⟩ := hd i _ hi'
    exact (hI.clean hm.1.1).1
   ·obtain ⟨i, hi, he⟩ := List.mem_iff_getElem.1 hl
    have hm := hml i l (by rw [List.getElem?_eq_getElem hi, he])
    have h13 : l.op = 13 := by
     obtain ⟨op, a, b, kk⟩ := l
     simp only at hn ⊢
     have := mayLo hm (by omega) (by omega) (by omega) (by omega) (by omega)
     omega
    exact (OV.out l hl h13).1 a pn ha p1 p2) ls [] (fun l hl => hl) (by intro a ha; cases ha) (by rw [hTL]; exact hk)
  rw [hTL] at hall
  obtain ⟨hvl, hvc⟩ := hall
  rw [HN.out] at hvl
  simp only [List.length_nil, Nat.zero_add] at hvl
  have VCL := Lib.hid hvc
  have VLN := Lib.hid hvl
  clear hmls hml me1 me2 me3 me4 hvc hTL ECL
  rw [hvl] at hcv
  generalize hsv : T.v.length = nv at *
  have HNV := Lib.hid hsv
  obtain ⟨wa, hwa, kwa, hwk, lwa⟩ := boxW w1 pn
  obtain ⟨wb, hmk, kwb, lwb, hall⟩ := make_rows wa (n := n) (by omega)
  rw [lwa] at hall lwb
  have HWA := Lib.hid hwa
  have KA := Lib.hid kwa
  have KB' := Lib.hid kwb
  have HWK := Lib.hid (hwk.kept kwb)
  have HALL := Lib.hid hall
  obtain ⟨c0, c1⟩ := cells2 (blk_kept HB1.out kwa)
  obtain ⟨f0, f1⟩ := cells2 (blk_kept HB1.out (kwa.trans kwb))
  clear hwa kwa kwb hwk hall hsv
  go_upto_region 4 with fail
  go_wp2_with (rw [← HWA.out])
  go_step3
  go_wp2_with fail
  clear c0 c1 f0 f1 hmk HWA
  have HK := Lib.hid hk
  obtain rfl := hvl
  clear hk gk
  generalize hbl : w1.heap.size + 1 = ball at *
  generalize hbw : w1.heap.size = bw at *
  have HBL := Lib.hid hbl
  have HBW := Lib.hid hbw
  clear hbl hbw
  generalize hnx : e.x.length = nx at *
  have HNX := Lib.hid hnx
  clear hnx
  go_loopw [41] (fun t wr => ∃ (k : Nat) (rows : List (List RawI)), k ≤ nv ∧ t = .int .i64 k ∧ gradS pn nx T.v [] (ls.take k) = ⟨rows, 0⟩ ∧ rows.length = k ∧ (∀ r ∈ rows, r.length = nx ∧ Cl r) ∧ AllR wr ball nv wr.heap.size rows ∧ Wk wr bw pn 0 ∧ Kept w1 wr) (fun t _ => (nv - intOf t).toNat)
  case atStart => exact ⟨0, [], Nat.zero_le _, rfl, rfl, rfl, (by intro r hr; cases hr), HALL.out, HWK.out, KA.out.trans KB'.out⟩
  case round =>
   obtain ⟨k, rows, hk, rfl, hrow, hlen, hrl, hall, hwk, hKr⟩ := hrel
   have KR := Lib.hid hKr
   have HROW := Lib.hid hrow
   have HLEN := Lib.hid hlen
   have HRL := Lib.hid hrl
   have HALR := Lib.hid hall
   have HWKR := Lib.hid hwk
   clear hKr hrow hlen hrl hall hwk HALL HWK KA KB'
   by_cases hlt : k < nv
   ·obtain ⟨⟨op, a, b, kk⟩, hl⟩ : ∃ l, ls[k]? = some l := ⟨_, List.getElem?_eq_getElem (by have := HN.out; omega)⟩
    have hml := ML.out k _ hl
    rw [Nat.zero_add] at hml
    obtain ⟨A', c', eA, -, hA⟩ := HLS.out
    injection eA with eA1 eA2 eA3
    subst eA1
    obtain ⟨bl, ol, rfl, hd⟩ := hA (by have := HN.out; omega)
    obtain ⟨a0, a1, a2, y0, y1, y2, y3, y4, y5, g0, g1, g2, g3, g4, g5, hI⟩ := (hd k _ hl).kept (K1.out.trans KR.out)
    have HI := Lib.hid hI
    obtain ⟨A1, l1, q1, A2, l2, q2, ei, -, -⟩ := ivR_split hI
    injection ei with ei; injection ei with ei
    simp only [List.cons.injEq, and_true] at ei
    obtain ⟨rfl, rfl, rfl, rfl, rfl, rfl⟩ := ei
    obtain ⟨W2, hW2, kW2, HL, lW2⟩ := boxL wr (.int .i64 op) (.int .i64 a) (.int .i64 b) (.bool kk.lo.neg) (.slice A1 l1 q1) (.int .i64 kk.lo.e) (.bool kk.hi.neg) (.slice A2 l2 q2) (.int .i64 kk.hi.e)
    have HW2 := Lib.hid hW2
    have K2 := Lib.hid kW2
    have HLB := Lib.hid HL
    have HML := Lib.hid hml
    have HLK := Lib.hid hl
    clear hI hl hml hW2 kW2 HL hd hA eA2 eA3 HI
    simp only [] at a0 a1 a2
    generalize kk.lo.neg = z1 at *
    generalize kk.lo.e = z2 at *
    generalize kk.hi.neg = z3 at *
    generalize kk.hi.e = z4 at *
    go_upto_region 9 with fail
    rw [← HW2.out]
    clear HW2 a0 a1 a2 g0 g1 g2 g3 g4 g5
    obtain ⟨W3, hmk, kW3, lW3, hD⟩ := make_zero W2 (n := nx) (by have := LE.out.2.2.2.2.1; have := HNX.out; omega)
    have hall3 := (HALR.out.kept K2.out).kept kW3
    obtain ⟨Ao, ao, co, hold⟩ := hall3.old hlt
    have hfree := hall3.free k
    have hput := hall3.put (by have := HLEN.out; omega) (A := some ⟨W2.heap.size, 0, none⟩) (a := nx) (c := nx)
    rw [HLEN.out] at hput
    obtain ⟨hall4, kb4, hc4⟩ := hput
    have HOLD := Lib.hid hold
    generalize hbd : W2.heap.size = bd at *
    have HBD := Lib.hid hbd
    generalize hb14 : wr.heap.size = b14 at *
    have HB14 := Lib.hid hb14
    have nbd : bd ∉ [ball] := by have := HALR.out.lt; simp; omega
    have nb14 : b14 ∉ [ball] := by have := HALR.out.lt; simp; omega
    have hD4 := hD.kb kb4 nbd
    have hL4 := kb4.blk (blk_kept HLB.out kW3) nb14
    have lw1 : w1.heap.size ≤ ball := by have := HBL.out; have := HBW.out; omega
    have hE4 := kb4.blk (blk_kept HB1'.out (KR.out.trans (K2.out.trans kW3))) (by have := (Array.getElem?_eq_some_iff.1 HB1'.out).1; simp; omega)
    have hT4 := kb4.blk (blk_kept HB1.out (KR.out.trans (K2.out.trans kW3))) (by have := (Array.getElem?_eq_some_iff.1 HB1.out).1; simp; omega)
    have hWk4 : Wk _ bw pn 0 := kb4.blk ((HWKR.out.kept K2.out).kept kW3) (by have := HBL.out; simp; omega)
    have k4 : Kept w1 _ := KB.kept (KR.out.trans (K2.out.trans kW3)) kb4 (by intro x hx; simp at hx; omega)
    obtain ⟨d0, d1, d2, d3, d4, d5, d6, d7, d8⟩ := ln_cells (blk_kept HB1'.out (KR.out.trans K2.out))
    obtain ⟨r0, r1, r2, r3, r4, r5, r6, r7, r8⟩ := ln_cells hL4
    have HA4 := Lib.hid hall4
    have HC4 := Lib.hid hc4
    have HD4 := Lib.hid hD4
    have HL4 := Lib.hid hL4
    have HE4 := Lib.hid hE4
    have HT4 := Lib.hid hT4
    have HW4 := Lib.hid hWk4
    have K4 := Lib.hid k4
    have KB4 := Lib.hid kb4
    clear hall3 hall4 kb4 hc4 hD hD4 hL4 hE4 hT4 hWk4 k4 hbd hb14 HLB HWKR
    go_upto_region 11 with fail
    generalize W3.setCell ⟨ball, k, none⟩ (.slice (some ⟨bd, 0, none⟩) nx nx) = W4 at *
    have hok := OK.out _ (List.mem_of_getElem? HLK.out)
    clear hok d0 d1 d2 d3 d4 d5 d6 d7 d8 hold hfree hmk HOLD
    have FR : Hid (Fr (.slice (some ⟨bd, 0, none⟩) nx nx) (ball + 1)) := Lib.hid (by
     intro g hg; simp [Value.ownBlock] at hg; subst hg; have := HALR.out.lt; have := HBD.out; have := HB14.out; omega)
    by_cases hA : op = 1 ∨ op = 2 ∨ op = 4 ∨ op = 5
    ·obtain ⟨r, hr⟩ : ∃ r, r = List.replicate nx rzI := ⟨_, rfl⟩
     have hder : derivS pn nx T.v rows ⟨op, a, b, kk⟩ = (r, 0) := by unfold derivS; rw [if_pos hA, hr]
     have hrl : r.length = nx := by rw [hr]; simp
     have hrc : Cl r := by rw [hr]; exact zeros_cl nx
     rw [← hr] at HD4
     have HDER := Lib.hid hder
     have HRLN := Lib.hid hrl
     have HRC := Lib.hid hrc
     clear hder hrl hrc hr
     rcases hA with rfl | rfl | rfl | rfl
     ·
      go_wp2_with fail
      go_roundw
      case rel =>
       refine ⟨k + 1, rows ++ [r], by omega, by go_num, ?_, by simp [HLEN.out], ?_, ?_, HW4.out, K4.out⟩
       ·have hsn := gradS_snoc pn nx T.v (ls.take k) [] rows ⟨1, a, b, kk⟩ HROW.out
        rw [HDER.out, if_pos rfl] at hsn
        rw [List.take_add_one, HLK.out]
        exact hsn
       ·intro x hx
        rcases List.mem_append.1 hx with hx | hx
        ·exact HRL.out x hx
        ·simp at hx; subst hx; exact ⟨HRLN.out, HRC.out⟩
       ·have hds := HD4.out.ivS (Nat.le_of_eq HRLN.out)
        rw [HRLN.out] at hds
        exact (HA4.out.mono (by have := HD4.out.lt; have := HBD.out; have := HB14.out; omega)).snoc (by rw [HLEN.out]; exact HC4.out) hds FR.out (by intro g hg; simp [Value.ownBlock] at hg; subst hg; exact HD4.out.lt)
      case measure => simp only [intOf]; omega
     ·
      go_wp2_with fail
      go_roundw
      case rel =>
       refine ⟨k + 1, rows ++ [r], by omega, by go_num, ?_, by simp [HLEN.out], ?_, ?_, HW4.out, K4.out⟩
       ·have hsn := gradS_snoc pn nx T.v (ls.take k) [] rows ⟨2, a, b, kk⟩ HROW.out
        rw [HDER.out, if_pos rfl] at hsn
        rw [List.take_add_one, HLK.out]
        exact hsn
       ·intro x hx
        rcases List.mem_append.1 hx with hx | hx
        ·exact HRL.out x hx
        ·simp at hx; subst hx; exact ⟨HRLN.out, HRC.out⟩
       ·have hds := HD4.out.ivS (Nat.le_of_eq HRLN.out)
        rw [HRLN.out] at hds
        exact (HA4.out.mono (by have := HD4.out.lt; have := HBD.out; have := HB14.out; omega)).snoc (by rw [HLEN.out]; exact HC4.out) hds FR.out (by intro g hg; simp [Value.ownBlock] at hg; subst hg; exact HD4.out.lt)
      case measure => simp only [intOf]; omega
     ·
      go_wp2_with fail
      go_roundw
      case rel =>
       refine ⟨k + 1, rows ++ [r], by omega, by go_num, ?_, by simp [HLEN.out], ?_, ?_, HW4.out, K4.out⟩
       ·have hsn := gradS_snoc pn nx T.v (ls.take k) [] rows ⟨4, a, b, kk⟩ HROW.out
        rw [HDER.out, if_pos rfl] at hsn
        rw [List.take_add_one, HLK.out]
        exact hsn
       ·intro x hx
        rcases List.mem_append.1 hx with hx | hx
        ·exact HRL.out x hx
        ·simp at hx; subst hx; exact ⟨HRLN.out, HRC.out⟩
       ·have hds := HD4.out.ivS (Nat.le_of_eq HRLN.out)
        rw [HRLN.out] at hds
        exact (HA4.out.mono (by have := HD4.out.lt; have := HBD.out; have := HB14.out; omega)).snoc (by rw [HLEN.out]; exact HC4.out) hds FR.out (by intro g hg; simp [Value.ownBlock] at hg; subst hg; exact HD4.out.lt)
      case measure => simp only [intOf]; omega
     ·
      go_wp2_with fail
      go_roundw
      case rel =>
       refine ⟨k + 1, rows ++ [r], by omega, by go_num, ?_, by simp [HLEN.out], ?_, ?_, HW4.out, K4.out⟩
       ·have hsn := gradS_snoc pn nx T.v (ls.take k) [] rows ⟨5, a, b, kk⟩ HROW.out
        rw [HDER.out, if_pos rfl] at hsn
        rw [List.take_add_one, HLK.out]
        exact hsn
       ·intro x hx
        rcases List.mem_append.1 hx with hx | hx
        ·exact HRL.out x hx
        ·simp at hx; subst hx; exact ⟨HRLN.out, HRC.out⟩
       ·have hds := HD4.out.ivS (Nat.le_of_eq HRLN.out)
        rw [HRLN.out] at hds
        exact (HA4.out.mono (by have := HD4.out.lt; have := HBD.out; have := HB14.out; omega)).snoc (by rw [HLEN.out]; exact HC4.out) hds FR.out (by intro g hg; simp [Value.ownBlock] at hg; subst hg; exact HD4.out.lt)
      case measure => simp only [intOf]; omega
    have hTb := TT.out.kept (K1.out.trans K4.out)
    have lTT := TT.out.lt
    have lK1 := K1.out.size
    have lAll := HALR.out.lt
    have lBD := HBD.out
    have lB14 := HB14.out
    have lBL := HBL.out
    have lBW := HBW.out
    have NG : 0 ∉ [bd] := by simp; omega
    have N14 : b14 ∉ [bd] := by simp; omega
    have NALL : ball ∉ [bd] := by simp; omega
    have NBW : bw ∉ [bd] := by simp; omega
    by_cases h3 : op = 3
    ·subst h3
     obtain ⟨hm1, hm2⟩ := mayL3 HML.out
     obtain ⟨ka, rfl⟩ : ∃ ka : Nat, a = (ka : Int) := ⟨a.toNat, by omega⟩
     have hka : ka < nx := by omega
     obtain ⟨r, hr⟩ : ∃ r, r = (List.replicate nx rzI).set ka (pt d1).raw := ⟨_, rfl⟩
     have hder : derivS pn nx T.v rows ⟨3, ka, b, kk⟩ = (r, 0) := by rw [derivS3, Int.toNat_natCast, hr]
     have hrl : r.length = nx := by rw [hr]; simp
     have hrc : Cl r := by
      intro x hx
      rw [hr] at hx
      rcases List.mem_or_eq_of_mem_set hx with h | h
      ·exact zeros_cl nx x h
      ·rw [h]; exact cl_raw (pt_ok d1_ok)
     have SP := Lib.hid (fun w' (q : KB W4 [bd] w') => show Calls Tryz.prog 39 #[.int .i64 1] w' (RetI (pt d1).raw w') by
      have := spoint_c (n := 1) (w := w') (by decide) (hTb.kb q NG)
      rw [fit_1] at this
      exact this)
     have HDER := Lib.hid hder
     have HRLN := Lib.hid hrl
     have HRC := Lib.hid hrc
     have HR := Lib.hid hr
     clear hder hrl hrc hr hm1 hm2 hA
     go_upto_region 17 with fail
     clear r0 r1 r2 r3 r4 r5 r6 r7 r8
     refine region_linX (m := 6) (J := fun L w => KB W4 [bd] w ∧ (fun L w => SetJ bd (List.replicate nx rzI) r (L 5) w) L w) (l := [(vE (.slice (some ⟨bd, 0, none⟩) nx nx)), (vP b14 1), (vE (.int .i64 (ka : Int))), (fun v wv => IvR wv v ((pt d1).raw)), (vE (.pointer (some ⟨bd, ka * 6, none⟩))), (fun v _ => True)])
      (by kernel_rfl) rfl (by kernel_rfl) (by kernel_rfl) (by kernel_rfl) ⟨mE, mE, mE, fun v w w' k h => by first | exact h | exact h.kept k | exact ⟨h.1, h.2.kept k⟩, mE, fun v w w' k h => by first | exact h | exact h.kept k | exact ⟨h.1, h.2.kept k⟩, trivial⟩ ⟨(KB.refl _ _).drew, (by exact HD4.out)⟩ (⟨
        (fun LF aF wF F => by have FK : KB W4 [bd] wF := F.frame.1; have fj := F.frame.2; refine .inl ⟨fun wq kq => ⟨FK.step kq, by exact SetJ.kept kq fj⟩, ?_⟩; have s15 : aF.tmps.getD 15 undef = (.slice (some ⟨bd, 0, none⟩) nx nx) := F.o 15; exact sv rfl), (fun LF aF wF F => by have FK : KB W4 [bd] wF := F.frame.1; have fj := F.frame.2; refine .inl ⟨fun wq kq => ⟨FK.step kq, by exact SetJ.kept kq fj⟩, ?_⟩; have s14 : aF.tmps.getD 14 undef = (.pointer (some ⟨b14, 0, none⟩)) := F.o 14; exact sv rfl), (fun LF aF wF F => by have FK : KB W4 [bd] wF := F.frame.1; have fj := F.frame.2; refine .inl ⟨fun wq kq => ⟨FK.step kq, by exact SetJ.kept kq fj⟩, ?_⟩; have s64 := F.v 1 64; have c0 := cell_atX HL4.out FK N14 1 _ rfl; exact sv rfl), (fun LF aF wF F => by have FK : KB W4 [bd] wF := F.frame.1; have fj := F.frame.2; refine .inl ⟨fun wq kq => ⟨FK.step kq, by exact SetJ.kept kq fj⟩, ?_⟩; exact sI (SP.out _ FK) fun _ _ h => h), (fun LF aF wF F => by have FK : KB W4 [bd] wF := F.frame.1; have fj := F.frame.2; refine .inl ⟨fun wq kq => ⟨FK.step kq, by exact SetJ.kept kq fj⟩, ?_⟩; have s63 := F.v 0 63; have s65 := F.v 2 65; exact sv rfl), (fun LF aF wF F => by have FK : KB W4 [bd] wF := F.frame.1; have fj := F.frame.2; refine .inr ?_; have s66 := F.p 3 66; have s67 := F.v 4 67; obtain ⟨P1, i1, k1, P2, i2, k2, ee, v1, v2⟩ := ivR_split s66; simp only [Array.getD_eq_getD_getElem?] at ee; have hdr := SetJ.first fj F.yet; obtain ⟨_, _, _, _, _, _, n0, n1, n2, n3, n4, n5, -⟩ := hdr.at (i := ka) (a := rzI) (by simp [hka]); have m0 := hdr.free (ka * 6); have m1 := hdr.free (ka * 6 + 1); have m2 := hdr.free (ka * 6 + 2); have m3 := hdr.free (ka * 6 + 3); have m4 := hdr.free (ka * 6 + 4); have m5 := hdr.free (ka * 6 + 5); have hset := hdr.set (i := ka) (by simp [hka]) (show IvR wF (.agg #[_, _, _, _, _, _]) (pt d1).raw from ⟨_, _, _, _, _, _, rfl, v1, v2⟩); exact stepG_store (w' := ivWo wF bd (ka * 6) _ _ _ _ _ _) (by simp [Region.wanted]) (by go_simp; rfl) ⟨FK.trans hset.2 (by simp), SetJ.last (by rw [HR.out]; exact hset.1)⟩ (stab_of _ ⟨.inr vS, .inr vS, .inr vS, .inr (fun u h => by exact h.kb hset.2), .inr vS, .inl rfl, trivial⟩) trivial),
        trivial⟩) ?_
     intro u wx L1 hL j1 hu
     obtain ⟨q, j1⟩ := j1
     have p66 := hp hu 3
     simp only [puts, slotOf, if_true, Act.put, List.setIfInBounds_toArray, List.set_cons_zero, List.set_cons_succ, List.getElem?_toArray, List.getElem?_cons_zero, List.getElem?_cons_succ, Option.bind_some, hv hu 0, hv hu 1, hv hu 2, hv hu 4]
     clear hu
     generalize u 3 = v66 at *
     have hDX := SetJ.done j1 (hL 5 (by decide))
     have HDX := Lib.hid hDX
     have HAX := Lib.hid (HA4.out.kb q NALL (by intro x hx; simp at hx; subst hx; right; omega))
     have HCX := Lib.hid (q.cell HC4.out NALL)
     have HWX := Lib.hid (show Wk wx bw pn 0 from q.blk HW4.out NBW)
     have KX := Lib.hid (KB.kept K4.out q (by intro x hx; simp at hx; subst hx; omega))
     clear j1 hL p66 hDX q SP
     go_simp
     go_wp2_with fail
     go_roundw
     case rel =>
      refine ⟨k + 1, rows ++ [r], by omega, by go_num, ?_, by simp [HLEN.out], ?_, ?_, HWX.out, KX.out⟩
      ·have hsn := gradS_snoc pn nx T.v (ls.take k) [] rows ⟨3, ka, b, kk⟩ HROW.out
       rw [HDER.out, if_pos rfl] at hsn
       rw [List.take_add_one, HLK.out]
       exact hsn
      ·intro x hx
       rcases List.mem_append.1 hx with hx | hx
       ·exact HRL.out x hx
       ·simp at hx; subst hx; exact ⟨HRLN.out, HRC.out⟩
      ·have hds := HDX.out.ivS (Nat.le_of_eq HRLN.out)
       rw [HRLN.out] at hds
       exact (HAX.out.mono (by have := HDX.out.lt; have := HBD.out; have := HB14.out; omega)).snoc (by rw [HLEN.out]; exact HCX.out) hds FR.out (by intro g hg; simp [Value.ownBlock] at hg; subst hg; exact HDX.out.lt)
     case measure => simp only [intOf]; omega
    have n1 : ¬ op = 1 := fun h => hA (.inl h)
    have n2 : ¬ op = 2 := fun h => hA (.inr (.inl h))
    have n4 : ¬ op = 4 := fun h => hA (.inr (.inr (.inl h)))
    have n5 : ¬ op = 5 := fun h => hA (.inr (.inr (.inr h)))
    obtain ⟨ha1, ha2, hb1, hb2, -, -⟩ := mayLo HML.out n1 n2 h3 n4 n5
    obtain ⟨ka, rfl⟩ : ∃ ka : Nat, a = (ka : Int) := ⟨a.toNat, by omega⟩
    obtain ⟨kb, rfl⟩ : ∃ kb : Nat, b = (kb : Int) := ⟨b.toNat, by omega⟩
    have hka : ka < k := by omega
    have hkb : kb < k := by omega
    have hkan : ka < nv := by omega
    have hkbn : kb < nv := by omega
    obtain ⟨da, hda⟩ : ∃ r, rows[ka]? = some r := ⟨_, List.getElem?_eq_getElem (by have := HLEN.out; omega)⟩
    obtain ⟨db, hdb⟩ : ∃ r, rows[kb]? = some r := ⟨_, List.getElem?_eq_getElem (by have := HLEN.out; omega)⟩
    obtain ⟨sa, hsa, isa, fsa, lsa⟩ := HA4.out.at hda
    obtain ⟨sb, hsb, isb, fsb, lsb⟩ := HA4.out.at hdb
    obtain ⟨lda, cda⟩ := HRL.out da (List.mem_of_getElem? hda)
    obtain ⟨ldb, cdb⟩ := HRL.out db (List.mem_of_getElem? hdb)
    have hder : derivS pn nx T.v rows ⟨op, ka, kb, kk⟩ = rowG pn op (atI T.v ka) (atI T.v kb) (atI T.v k) da db 0 := by
     unfold derivS
     simp only [if_neg hA, if_neg h3, Int.toNat_natCast, HLEN.out]
     rw [List.getD_eq_getElem?_getD, List.getD_eq_getElem?_getD, hda, hdb]; rfl
    have HDER := Lib.hid hder
    have t1 : (op == 1) = false := by simp [n1]
    have t2 : (op == 2) = false := by simp [n2]
    have t3 : (op == 3) = false := by simp [h3]
    have t4 : (op == 4) = false := by simp [n4]
    have t5 : (op == 5) = false := by simp [n5]
    have ISA := Lib.hid isa
    have ISB := Lib.hid isb
    have FSA := Lib.hid (And.intro fsa lsa)
    have FSB := Lib.hid (And.intro fsb lsb)
    obtain ⟨Aa, ca, rfl, -, -⟩ := isa
    obtain ⟨Ab, cb, rfl, -, -⟩ := isb
    rw [lda] at hsa ISA FSA
    rw [ldb] at hsb ISB FSB
    obtain ⟨bV, oV, ea, rfl, -, hea, hata⟩ := HVS.out.at (show ka < T.v.length by have := HNV.out; omega)
    obtain ⟨bV', oV', eb, eqv, -, heb, hatb⟩ := HVS.out.at (show kb < T.v.length by have := HNV.out; omega)
    injection eqv with eqv
    injection eqv with q1 q2
    subst q1
    subst q2
    obtain ⟨bV', oV', ec, eqv, -, hec, hatc⟩ := HVS.out.at (show k < T.v.length by have := HNV.out; omega)
    injection eqv with eqv
    injection eqv with q1 q2
    subst q1
    subst q2
    have at1 : atI T.v ka = ea.iv := by unfold atI; rw [Int.toNat_natCast, List.getD_eq_getElem?_getD, hea, Option.getD_some]
    have at2 : atI T.v kb = eb.iv := by unfold atI; rw [Int.toNat_natCast, List.getD_eq_getElem?_getD, heb, Option.getD_some]
    have at3 : atI T.v k = ec.iv := by unfold atI; rw [Int.toNat_natCast, List.getD_eq_getElem?_getD, hec, Option.getD_some]
    rw [at1, at2, at3] at HDER
    obtain ⟨oka, rwa'⟩ := VCL.out ea (List.mem_of_getElem? hea)
    obtain ⟨okb, rwb'⟩ := VCL.out eb (List.mem_of_getElem? heb)
    obtain ⟨okc, rwc'⟩ := VCL.out ec (List.mem_of_getElem? hec)
    obtain ⟨p0, p1', p2', p3, p4, p5, s0, s1, s2, s3, s4, s5, hIa⟩ := hata.kept K4.out
    obtain ⟨p0', p1'', p2'', p3', p4', p5', s0', s1', s2', s3', s4', s5', hIb⟩ := hatb.kept K4.out
    obtain ⟨v0, v1, v2, v3, v4, v5, u0', u1', u2', u3', u4', u5', hIc⟩ := hatc.kept K4.out
    obtain ⟨m0, -, -, -, -, -, lbV0, -⟩ := hata
    have lbV : bV < w1.heap.size := lt_of_cell lbV0
    have CA := Lib.hid (show Cells6 W4 bV (oV + ka * 6) p0 p1' p2' p3 p4 p5 from ⟨s0, s1, s2, s3, s4, s5⟩)
    have CB := Lib.hid (show Cells6 W4 bV (oV + kb * 6) p0' p1'' p2'' p3' p4' p5' from ⟨s0', s1', s2', s3', s4', s5'⟩)
    have CCC := Lib.hid (show Cells6 W4 bV (oV + k * 6) v0 v1 v2 v3 v4 v5 from ⟨u0', u1', u2', u3', u4', u5'⟩)
    have IA := Lib.hid (show IvC W4 _ ea.iv from hIa.ivC rwa')
    have IB := Lib.hid (show IvC W4 _ eb.iv from hIb.ivC rwb')
    have IC := Lib.hid (show IvC W4 _ ec.iv from hIc.ivC rwc')
    have HSA := Lib.hid hsa
    have HSB := Lib.hid hsb
    have NB14 : b14 ∉ [bd, bw] := by simp; omega
    have NBALL : ball ∉ [bd, bw] := by simp; omega
    have NBV : bV ∉ [bd, bw] := by simp; omega
    have NG2 : 0 ∉ [bd, bw] := by simp; omega
    have NDW : bd ∉ [bw] := by simp; omega
    clear hatb hatc s0 s1 s2 s3 s4 s5 s0' s1' s2' s3' s4' s5' u0' u1' u2' u3' u4' u5' hIa hIb hIc hea heb hec at1 at2 at3 hsa hsb hder rwa' rwb' rwc' fsa lsa fsb lsb ha1 ha2 hb1 hb2 n1 n2 h3 n4 n5 hA HML lbV0
    go_upto_region 18 with fail
    go_wp2_with fail
    clear r0 r1 r2 r3 r4 r5 r6 r7 r8 t1 t2 t3 t4 t5
    have hnxb : nx ≤ 1000000000 := by have := LE.out; have := HNX.out; unfold EnLens at *; omega
    go_loopw [70] (fun t wx => ∃ (j : Nat) (l : List RawI) (e' : Int), j ≤ nx ∧ t = .int .i64 j ∧ rowG pn op ea.iv eb.iv ec.iv (da.take j) (db.take j) 0 = (l, e') ∧ l.length = j ∧ Cl l ∧ DRow wx bd (l ++ List.replicate (nx - j) rzI) ∧ Wk wx bw pn e' ∧ KB W4 [bd, bw] wx) (fun t _ => (nx - intOf t).toNat)
    case atStart => exact ⟨0, [], 0, Nat.zero_le _, rfl, rfl, rfl, (by intro x hx; cases hx), (by simpa using HD4.out), HW4.out, KB.refl _ _⟩
    case round =>
     obtain ⟨j, l, ej, hj, rfl, hrg, hlj, hcl, hdj, hwj, hkx⟩ := hrel
     have HRG := Lib.hid hrg
     have HLJ := Lib.hid hlj
     have HCLJ := Lib.hid hcl
     have HDJ := Lib.hid hdj
     have HWJ := Lib.hid hwj
     have KX := Lib.hid hkx
     clear hrg hlj hcl hdj hwj hkx
     by_cases hjn : j < nx
     ·have hXX : ∀ x ∈ [bd, bw], x < ball + 1 ∨ b14 ≤ x := by intro x hx; simp at hx; omega
      obtain ⟨bA, oA, x, rfl, -, hx, hatx⟩ := (ISA.out.kb2 KX.out FSA.out.1 FSA.out.2 hXX).at (show j < da.length by omega)
      obtain ⟨bB, oB, y, rfl, -, hy, haty⟩ := (ISB.out.kb2 KX.out FSB.out.1 FSB.out.2 hXX).at (show j < db.length by omega)
      have hfa := FSA.out.1 bA rfl
      have hla := FSA.out.2 bA rfl
      have hfb := FSB.out.1 bB rfl
      have hlb := FSB.out.2 bB rfl
      have NA : bA ∉ [bd, bw] := by simp; omega
      have NB : bB ∉ [bd, bw] := by simp; omega
      obtain ⟨i0, i1, i2, i3, i4, i5, s0, s1, s2, s3, s4, s5, hIx⟩ := hatx
      obtain ⟨j0, j1', j2, j3, j4, j5, s0', s1', s2', s3', s4', s5', hIy⟩ := haty
      have CX := Lib.hid (show Cells6 _ bA (oA + j * 6) i0 i1 i2 i3 i4 i5 from ⟨s0, s1, s2, s3, s4, s5⟩)
      have CY := Lib.hid (show Cells6 _ bB (oB + j * 6) j0 j1' j2 j3 j4 j5 from ⟨s0', s1', s2', s3', s4', s5'⟩)
      obtain ⟨okx, rwx⟩ := cda x (List.mem_of_getElem? hx)
      obtain ⟨oky, rwy⟩ := cdb y (List.mem_of_getElem? hy)
      have IX := Lib.hid (hIx.ivC rwx)
      have IY := Lib.hid (hIy.ivC rwy)
      obtain ⟨o1, ho1⟩ : ∃ o, o = oneS pn op ea.iv eb.iv ec.iv x.iv y.iv ej := ⟨_, rfl⟩
      have hok1 : o1.v.Ok := by rw [ho1]; exact oneS_ok oka okb okc okx oky p1 _
      have HO1 := Lib.hid ho1
      have HOK1 := Lib.hid hok1
      have OKS := Lib.hid (And.intro oka (And.intro okb (And.intro okc (And.intro okx oky))))
      have CAx := Lib.hid (CA.out.kb KX.out NBV)
      have CBx := Lib.hid (CB.out.kb KX.out NBV)
      have CCx := Lib.hid (CCC.out.kb KX.out NBV)
      have IAx := Lib.hid (IA.out.kb KX.out)
      have IBx := Lib.hid (IB.out.kb KX.out)
      have ICx := Lib.hid (IC.out.kb KX.out)
      have HSAx := Lib.hid (KX.out.cell HSA.out NBALL)
      have HSBx := Lib.hid (KX.out.cell HSB.out NBALL)
      have HL4x := Lib.hid (KX.out.blk HL4.out NB14)
      have HTx := Lib.hid (hTb.kb KX.out NG2)
      have HX1 := Lib.hid hx
      have HY1 := Lib.hid hy
      clear s0 s1 s2 s3 s4 s5 s0' s1' s2' s3' s4' s5' hIx hIy rwx rwy ho1 hok1 okx oky hx hy hfa hla hfb hlb
      have HATJ : Hid ((l ++ List.replicate (nx - j) rzI)[j]? = some rzI) := Lib.hid (by rw [List.getElem?_append_right (by have := HLJ.out; omega), HLJ.out, Nat.sub_self, List.getElem?_replicate, if_pos (by omega)])
      have HLTJ : Hid (j < (l ++ List.replicate (nx - j) rzI).length) := Lib.hid (by have := HLJ.out; rw [List.length_append, List.length_replicate]; omega)
      go_upto_region 21 with fail
      refine region_linX (m := 38) (J := fun L w => KB wr [bd, bw] w ∧ (fun L w => GrJ bd bw pn ej o1.k (l ++ List.replicate (nx - j) rzI) ((l ++ List.replicate (nx - j) rzI).set j o1.v.raw) (L 35) (L 37) w) L w) (l := [(vE (.slice (some ⟨bd, 0, none⟩) nx nx)), (vE (.int .i64 (j : Int))), (vP bw 0), (vP b14 0), (vE (.int .i64 op)), (vE (.slice (some ⟨bV, oV, none⟩) nv cv)), (vP b14 1), (vE (.int .i64 (ka : Int))), (vE (.pointer (some ⟨bV, oV + ka * 6, none⟩))), (vE (.agg #[p0, p1', p2', p3, p4, p5])), (vE (.slice (some ⟨bV, oV, none⟩) nv cv)), (vP b14 2), (vE (.int .i64 (kb : Int))), (vE (.pointer (some ⟨bV, oV + kb * 6, none⟩))), (vE (.agg #[p0', p1'', p2'', p3', p4', p5'])), (vE (.slice (some ⟨bV, oV, none⟩) nv cv)), (vE (.int .i64 (k : Int))), (vE (.pointer (some ⟨bV, oV + k * 6, none⟩))), (vE (.agg #[v0, v1, v2, v3, v4, v5])), (vE (.slice (some ⟨ball, 0, none⟩) nv nv)), (vP b14 1), (vE (.int .i64 (ka : Int))), (vE (.pointer (some ⟨ball, ka, none⟩))), (vE (.slice (some ⟨bA, oA, none⟩) nx ca)), (vE (.int .i64 (j : Int))), (vE (.pointer (some ⟨bA, oA + j * 6, none⟩))), (vE (.agg #[i0, i1, i2, i3, i4, i5])), (vE (.slice (some ⟨ball, 0, none⟩) nv nv)), (vP b14 2), (vE (.int .i64 (kb : Int))), (vE (.pointer (some ⟨ball, kb, none⟩))), (vE (.slice (some ⟨bB, oB, none⟩) nx cb)), (vE (.int .i64 (j : Int))), (vE (.pointer (some ⟨bB, oB + j * 6, none⟩))), (vE (.agg #[j0, j1', j2, j3, j4, j5])), (fun v wv => IvR wv v o1.v.raw), (vE (.pointer (some ⟨bd, j * 6, none⟩))), (fun v _ => True)])
       (by kernel_rfl) rfl (by kernel_rfl) (by kernel_rfl) (by kernel_rfl) ⟨mE, mE, mE, mE, mE, mE, mE, mE, mE, mE, mE, mE, mE, mE, mE, mE, mE, mE, mE, mE, mE, mE, mE, mE, mE, mE, mE, mE, mE, mE, mE, mE, mE, mE, mE, fun v w w' k h => by first | exact h | exact h.kept k | exact ⟨h.1, h.2.kept k⟩, mE, fun v w w' k h => by first | exact h | exact h.kept k | exact ⟨h.1, h.2.kept k⟩, trivial⟩ ⟨(KB.refl _ _).drew, (by exact ⟨HDJ.out, HWJ.out⟩)⟩ (⟨
         (fun LF aF wF F => by have FK : KB wr [bd, bw] wF := F.frame.1; have fj := F.frame.2; refine .inl ⟨fun wq kq => ⟨FK.step kq, by exact GrJ.kept kq fj⟩, ?_⟩; have s15 : aF.tmps.getD 15 undef = (.slice (some ⟨bd, 0, none⟩) nx nx) := F.o 15; exact sv rfl), (fun LF aF wF F => by have FK : KB wr [bd, bw] wF := F.frame.1; have fj := F.frame.2; refine .inl ⟨fun wq kq => ⟨FK.step kq, by exact GrJ.kept kq fj⟩, ?_⟩; have s16 : aF.tmps.getD 16 undef = (.int .i64 (j : Int)) := F.o 16; exact sv rfl), (fun LF aF wF F => by have FK : KB wr [bd, bw] wF := F.frame.1; have fj := F.frame.2; refine .inl ⟨fun wq kq => ⟨FK.step kq, by exact GrJ.kept kq fj⟩, ?_⟩; have s11 : aF.tmps.getD 11 undef = (.pointer (some ⟨bw, 0, none⟩)) := F.o 11; exact sv rfl), (fun LF aF wF F => by have FK : KB wr [bd, bw] wF := F.frame.1; have fj := F.frame.2; refine .inl ⟨fun wq kq => ⟨FK.step kq, by exact GrJ.kept kq fj⟩, ?_⟩; have s14 : aF.tmps.getD 14 undef = (.pointer (some ⟨b14, 0, none⟩)) := F.o 14; exact sv rfl), (fun LF aF wF F => by have FK : KB wr [bd, bw] wF := F.frame.1; have fj := F.frame.2; refine .inl ⟨fun wq kq => ⟨FK.step kq, by exact GrJ.kept kq fj⟩, ?_⟩; have s76 := F.v 3 76; have c0 := cell_atX HL4x.out FK NB14 0 _ rfl; exact sv rfl), (fun LF aF wF F => by have FK : KB wr [bd, bw] wF := F.frame.1; have fj := F.frame.2; refine .inl ⟨fun wq kq => ⟨FK.step kq, by exact GrJ.kept kq fj⟩, ?_⟩; have s9 : aF.tmps.getD 9 undef = (.slice (some ⟨bV, oV, none⟩) nv cv) := F.o 9; exact sv rfl), (fun LF aF wF F => by have FK : KB wr [bd, bw] wF := F.frame.1; have fj := F.frame.2; refine .inl ⟨fun wq kq => ⟨FK.step kq, by exact GrJ.kept kq fj⟩, ?_⟩; have s14 : aF.tmps.getD 14 undef = (.pointer (some ⟨b14, 0, none⟩)) := F.o 14; exact sv rfl), (fun LF aF wF F => by have FK : KB wr [bd, bw] wF := F.frame.1; have fj := F.frame.2; refine .inl ⟨fun wq kq => ⟨FK.step kq, by exact GrJ.kept kq fj⟩, ?_⟩; have s79 := F.v 6 79; have c0 := cell_atX HL4x.out FK NB14 1 _ rfl; exact sv rfl), (fun LF aF wF F => by have FK : KB wr [bd, bw] wF := F.frame.1; have fj := F.frame.2; refine .inl ⟨fun wq kq => ⟨FK.step kq, by exact GrJ.kept kq fj⟩, ?_⟩; have s78 := F.v 5 78; have s80 := F.v 7 80; exact sv rfl), (fun LF aF wF F => by have FK : KB wr [bd, bw] wF := F.frame.1; have fj := F.frame.2; refine .inl ⟨fun wq kq => ⟨FK.step kq, by exact GrJ.kept kq fj⟩, ?_⟩; have s81 := F.v 8 81; exact sw (by (obtain ⟨n0, n1, n2, n3, n4, n5⟩ := CAx.out.kb FK NBV; go_simp)) rfl), (fun LF aF wF F => by have FK : KB wr [bd, bw] wF := F.frame.1; have fj := F.frame.2; refine .inl ⟨fun wq kq => ⟨FK.step kq, by exact GrJ.kept kq fj⟩, ?_⟩; have s9 : aF.tmps.getD 9 undef = (.slice (some ⟨bV, oV, none⟩) nv cv) := F.o 9; exact sv rfl), (fun LF aF wF F => by have FK : KB wr [bd, bw] wF := F.frame.1; have fj := F.frame.2; refine .inl ⟨fun wq kq => ⟨FK.step kq, by exact GrJ.kept kq fj⟩, ?_⟩; have s14 : aF.tmps.getD 14 undef = (.pointer (some ⟨b14, 0, none⟩)) := F.o 14; exact sv rfl), (fun LF aF wF F => by have FK : KB wr [bd, bw] wF := F.frame.1; have fj := F.frame.2; refine .inl ⟨fun wq kq => ⟨FK.step kq, by exact GrJ.kept kq fj⟩, ?_⟩; have s84 := F.v 11 84; have c0 := cell_atX HL4x.out FK NB14 2 _ rfl; exact sv rfl), (fun LF aF wF F => by have FK : KB wr [bd, bw] wF := F.frame.1; have fj := F.frame.2; refine .inl ⟨fun wq kq => ⟨FK.step kq, by exact GrJ.kept kq fj⟩, ?_⟩; have s83 := F.v 10 83; have s85 := F.v 12 85; exact sv rfl), (fun LF aF wF F => by have FK : KB wr [bd, bw] wF := F.frame.1; have fj := F.frame.2; refine .inl ⟨fun wq kq => ⟨FK.step kq, by exact GrJ.kept kq fj⟩, ?_⟩; have s86 := F.v 13 86; exact sw (by (obtain ⟨n0, n1, n2, n3, n4, n5⟩ := CBx.out.kb FK NBV; go_simp)) rfl), (fun LF aF wF F => by have FK : KB wr [bd, bw] wF := F.frame.1; have fj := F.frame.2; refine .inl ⟨fun wq kq => ⟨FK.step kq, by exact GrJ.kept kq fj⟩, ?_⟩; have s9 : aF.tmps.getD 9 undef = (.slice (some ⟨bV, oV, none⟩) nv cv) := F.o 9; exact sv rfl), (fun LF aF wF F => by have FK : KB wr [bd, bw] wF := F.frame.1; have fj := F.frame.2; refine .inl ⟨fun wq kq => ⟨FK.step kq, by exact GrJ.kept kq fj⟩, ?_⟩; have s13 : aF.tmps.getD 13 undef = (.int .i64 (k : Int)) := F.o 13; exact sv rfl), (fun LF aF wF F => by have FK : KB wr [bd, bw] wF := F.frame.1; have fj := F.frame.2; refine .inl ⟨fun wq kq => ⟨FK.step kq, by exact GrJ.kept kq fj⟩, ?_⟩; have s88 := F.v 15 88; have s89 := F.v 16 89; exact sv rfl), (fun LF aF wF F => by have FK : KB wr [bd, bw] wF := F.frame.1; have fj := F.frame.2; refine .inl ⟨fun wq kq => ⟨FK.step kq, by exact GrJ.kept kq fj⟩, ?_⟩; have s90 := F.v 17 90; exact sw (by (obtain ⟨n0, n1, n2, n3, n4, n5⟩ := CCx.out.kb FK NBV; go_simp)) rfl), (fun LF aF wF F => by have FK : KB wr [bd, bw] wF := F.frame.1; have fj := F.frame.2; refine .inl ⟨fun wq kq => ⟨FK.step kq, by exact GrJ.kept kq fj⟩, ?_⟩; have s12 : aF.tmps.getD 12 undef = (.slice (some ⟨ball, 0, none⟩) nv nv) := F.o 12; exact sv rfl), (fun LF aF wF F => by have FK : KB wr [bd, bw] wF := F.frame.1; have fj := F.frame.2; refine .inl ⟨fun wq kq => ⟨FK.step kq, by exact GrJ.kept kq fj⟩, ?_⟩; have s14 : aF.tmps.getD 14 undef = (.pointer (some ⟨b14, 0, none⟩)) := F.o 14; exact sv rfl), (fun LF aF wF F => by have FK : KB wr [bd, bw] wF := F.frame.1; have fj := F.frame.2; refine .inl ⟨fun wq kq => ⟨FK.step kq, by exact GrJ.kept kq fj⟩, ?_⟩; have s93 := F.v 20 93; have c0 := cell_atX HL4x.out FK NB14 1 _ rfl; exact sv rfl), (fun LF aF wF F => by have FK : KB wr [bd, bw] wF := F.frame.1; have fj := F.frame.2; refine .inl ⟨fun wq kq => ⟨FK.step kq, by exact GrJ.kept kq fj⟩, ?_⟩; have s92 := F.v 19 92; have s94 := F.v 21 94; exact sv rfl), (fun LF aF wF F => by have FK : KB wr [bd, bw] wF := F.frame.1; have fj := F.frame.2; refine .inl ⟨fun wq kq => ⟨FK.step kq, by exact GrJ.kept kq fj⟩, ?_⟩; have s95 := F.v 22 95; exact sw (by (have n0 := FK.cell HSAx.out NBALL; go_simp)) rfl), (fun LF aF wF F => by have FK : KB wr [bd, bw] wF := F.frame.1; have fj := F.frame.2; refine .inl ⟨fun wq kq => ⟨FK.step kq, by exact GrJ.kept kq fj⟩, ?_⟩; have s16 : aF.tmps.getD 16 undef = (.int .i64 (j : Int)) := F.o 16; exact sv rfl), (fun LF aF wF F => by have FK : KB wr [bd, bw] wF := F.frame.1; have fj := F.frame.2; refine .inl ⟨fun wq kq => ⟨FK.step kq, by exact GrJ.kept kq fj⟩, ?_⟩; have s96 := F.v 23 96; have s97 := F.v 24 97; exact sv rfl), (fun LF aF wF F => by have FK : KB wr [bd, bw] wF := F.frame.1; have fj := F.frame.2; refine .inl ⟨fun wq kq => ⟨FK.step kq, by exact GrJ.kept kq fj⟩, ?_⟩; have s98 := F.v 25 98; exact sw (by (obtain ⟨n0, n1, n2, n3, n4, n5⟩ := CX.out.kb FK NA; go_simp)) rfl), (fun LF aF wF F => by have FK : KB wr [bd, bw] wF := F.frame.1; have fj := F.frame.2; refine .inl ⟨fun wq kq => ⟨FK.step kq, by exact GrJ.kept kq fj⟩, ?_⟩; have s12 : aF.tmps.getD 12 undef = (.slice (some ⟨ball, 0, none⟩) nv nv) := F.o 12; exact sv rfl), (fun LF aF wF F => by have FK : KB wr [bd, bw] wF := F.frame.1; have fj := F.frame.2; refine .inl ⟨fun wq kq => ⟨FK.step kq, by exact GrJ.kept kq fj⟩, ?_⟩; have s14 : aF.tmps.getD 14 undef = (.pointer (some ⟨b14, 0, none⟩)) := F.o 14; exact sv rfl), (fun LF aF wF F => by have FK : KB wr [bd, bw] wF := F.frame.1; have fj := F.frame.2; refine .inl ⟨fun wq kq => ⟨FK.step kq, by exact GrJ.kept kq fj⟩, ?_⟩; have s101 := F.v 28 101; have c0 := cell_atX HL4x.out FK NB14 2 _ rfl; exact sv rfl), (fun LF aF wF F => by have FK : KB wr [bd, bw] wF := F.frame.1; have fj := F.frame.2; refine .inl ⟨fun wq kq => ⟨FK.step kq, by exact GrJ.kept kq fj⟩, ?_⟩; have s100 := F.v 27 100; have s102 := F.v 29 102; exact sv rfl), (fun LF aF wF F => by have FK : KB wr [bd, bw] wF := F.frame.1; have fj := F.frame.2; refine .inl ⟨fun wq kq => ⟨FK.step kq, by exact GrJ.kept kq fj⟩, ?_⟩; have s103 := F.v 30 103; exact sw (by (have n0 := FK.cell HSBx.out NBALL; go_simp)) rfl), (fun LF aF wF F => by have FK : KB wr [bd, bw] wF := F.frame.1; have fj := F.frame.2; refine .inl ⟨fun wq kq => ⟨FK.step kq, by exact GrJ.kept kq fj⟩, ?_⟩; have s16 : aF.tmps.getD 16 undef = (.int .i64 (j : Int)) := F.o 16; exact sv rfl), (fun LF aF wF F => by have FK : KB wr [bd, bw] wF := F.frame.1; have fj := F.frame.2; refine .inl ⟨fun wq kq => ⟨FK.step kq, by exact GrJ.kept kq fj⟩, ?_⟩; have s104 := F.v 31 104; have s105 := F.v 32 105; exact sv rfl), (fun LF aF wF F => by have FK : KB wr [bd, bw] wF := F.frame.1; have fj := F.frame.2; refine .inl ⟨fun wq kq => ⟨FK.step kq, by exact GrJ.kept kq fj⟩, ?_⟩; have s106 := F.v 33 106; exact sw (by (obtain ⟨n0, n1, n2, n3, n4, n5⟩ := CY.out.kb FK NB; go_simp)) rfl), (fun LF aF wF F => by have FK : KB wr [bd, bw] wF := F.frame.1; have fj := F.frame.2; refine .inr ?_; have s75 := F.v 2 75; have s77 := F.v 4 77; have s82 := F.v 9 82; have s87 := F.v 14 87; have s91 := F.v 18 91; have s99 := F.v 26 99; have s107 := F.v 34 107; have fw := GrJ.wk fj F.yet; have DD := one_c (op := op) fw (IAx.out.kb FK) (IBx.out.kb FK) (ICx.out.kb FK) (IX.out.kb FK) (IY.out.kb FK) OKS.out.1 OKS.out.2.1 OKS.out.2.2.1 OKS.out.2.2.2.1 OKS.out.2.2.2.2 (HTx.out.kb FK NG2) p1 (by omega) OPS.out (DER.out _ (List.mem_of_getElem? HLK.out)); rw [← HO1.out] at DD; exact stepG_call (by simp [Region.wanted]) (by go_simp) DD (fun e1 w1' he => by obtain ⟨kb', hwk, u, rfl, hv⟩ := he; exact ⟨u, rfl, ⟨⟨FK.trans kb' (by simp), GrJ.did NDW fj kb' hwk⟩, (stab_of _ ⟨.inr vS, .inr vS, .inr vS, .inr vS, .inr vS, .inr vS, .inr vS, .inr vS, .inr vS, .inr vS, .inr vS, .inr vS, .inr vS, .inr vS, .inr vS, .inr vS, .inr vS, .inr vS, .inr vS, .inr vS, .inr vS, .inr vS, .inr vS, .inr vS, .inr vS, .inr vS, .inr vS, .inr vS, .inr vS, .inr vS, .inr vS, .inr vS, .inr vS, .inr vS, .inr vS, .inl rfl, .inr vS, .inr (fun u h => h), trivial⟩)⟩, hv⟩)), (fun LF aF wF F => by have FK : KB wr [bd, bw] wF := F.frame.1; have fj := F.frame.2; refine .inl ⟨fun wq kq => ⟨FK.step kq, by exact GrJ.kept kq fj⟩, ?_⟩; have s73 := F.v 0 73; have s74 := F.v 1 74; exact sv rfl), (fun LF aF wF F => by have FK : KB wr [bd, bw] wF := F.frame.1; have fj := F.frame.2; refine .inr ?_; have s108 := F.p 35 108; have s109 := F.v 36 109; obtain ⟨P1, t1, k1, P2, t2, k2, ee, v1', v2'⟩ := ivR_split s108; simp only [Array.getD_eq_getD_getElem?] at ee; have hdr := GrJ.row fj F.yet; obtain ⟨_, _, _, _, _, _, n0, n1, n2, n3, n4, n5, -⟩ := hdr.at HATJ.out; have m0 := hdr.free (j * 6); have m1 := hdr.free (j * 6 + 1); have m2 := hdr.free (j * 6 + 2); have m3 := hdr.free (j * 6 + 3); have m4 := hdr.free (j * 6 + 4); have m5 := hdr.free (j * 6 + 5); have hset := hdr.set HLTJ.out (show IvR wF (.agg #[_, _, _, _, _, _]) o1.v.raw from ⟨_, _, _, _, _, _, rfl, v1', v2'⟩); exact stepG_store (w' := ivWo wF bd (j * 6) _ _ _ _ _ _) (by simp [Region.wanted]) (by go_simp; rfl) ⟨FK.trans hset.2 (by simp), GrJ.laid NBW fj hset.2 hset.1⟩ (stab_of _ ⟨.inr vS, .inr vS, .inr vS, .inr vS, .inr vS, .inr vS, .inr vS, .inr vS, .inr vS, .inr vS, .inr vS, .inr vS, .inr vS, .inr vS, .inr vS, .inr vS, .inr vS, .inr vS, .inr vS, .inr vS, .inr vS, .inr vS, .inr vS, .inr vS, .inr vS, .inr vS, .inr vS, .inr vS, .inr vS, .inr vS, .inr vS, .inr vS, .inr vS, .inr vS, .inr vS, .inr (fun u h => by exact h.kb hset.2), .inr vS, .inl rfl, trivial⟩) trivial),
         trivial⟩) ?_
      intro u wy L1 hL j1 hu
      obtain ⟨q, j1⟩ := j1
      have p108 := hp hu 35
      simp only [puts, slotOf, if_true, Act.put, List.setIfInBounds_toArray, List.set_cons_zero, List.set_cons_succ, List.getElem?_toArray, List.getElem?_cons_zero, List.getElem?_cons_succ, Option.bind_some, hv hu 0, hv hu 1, hv hu 2, hv hu 3, hv hu 4, hv hu 5, hv hu 6, hv hu 7, hv hu 8, hv hu 9, hv hu 10, hv hu 11, hv hu 12, hv hu 13, hv hu 14, hv hu 15, hv hu 16, hv hu 17, hv hu 18, hv hu 19, hv hu 20, hv hu 21, hv hu 22, hv hu 23, hv hu 24, hv hu 25, hv hu 26, hv hu 27, hv hu 28, hv hu 29, hv hu 30, hv hu 31, hv hu 32, hv hu 33, hv hu 34, hv hu 36]
      clear hu
      generalize u 35 = v108 at *
      obtain ⟨hDX, hWX⟩ := GrJ.done j1 (hL 35 (by decide)) (hL 37 (by decide))
      rw [set_midI HLJ.out hjn] at hDX
      have HDX := Lib.hid hDX
      have HWX := Lib.hid hWX
      have KY := Lib.hid (KX.out.trans q (fun y hy => .inl hy))
      clear j1 hL p108 hDX hWX q
      go_simp
      go_wp2_with fail
      go_roundw
      case rel =>
       refine ⟨j + 1, l ++ [o1.v.raw], o1.k, by omega, by go_num, ?_, by simp [HLJ.out], HCLJ.out.snoc HOK1.out, HDX.out, HWX.out, KY.out⟩
       rw [List.take_add_one, List.take_add_one, HX1.out, HY1.out]
       have hs := rowG_snoc pn op ea.iv eb.iv ec.iv x y (da.take j) (db.take j) 0 (by rw [List.length_take, List.length_take, lda, ldb])
       rw [HRG.out] at hs
       simp only at hs
       rw [← HO1.out] at hs
       exact hs
      case measure => simp only [intOf]; omega
     ·obtain rfl : nx = j := by omega
      have hfull : rowG pn op ea.iv eb.iv ec.iv da db 0 = (l, ej) := by
       have := HRG.out
       rwa [List.take_of_length_le (by omega), List.take_of_length_le (by omega)] at this
      have hdl := HDJ.out
      rw [Nat.sub_self, List.replicate_zero, List.append_nil] at hdl
      have HDX := Lib.hid hdl
      have HFULL := Lib.hid (HDER.out.trans hfull)
      obtain ⟨w0, w1'⟩ := cells2 HWJ.out
      have hXX : ∀ x ∈ [bd, bw], x < ball + 1 ∨ b14 ≤ x := by intro x hx; simp at hx; omega
      clear hfull hdl
      by_cases hej : ej = 0
      ·subst hej
       obtain ⟨r, hr⟩ : ∃ r, r = l := ⟨_, rfl⟩
       subst hr
       have HDER' := HDER
       clear HDER
       have HDER : Hid (derivS pn nx T.v rows ⟨op, ka, kb, kk⟩ = (r, 0)) := HFULL
       have HRLN := HLJ
       have HRC := HCLJ
       have HAX := Lib.hid (HA4.out.kb KX.out NBALL hXX)
       have HCX := Lib.hid (KX.out.cell HC4.out NBALL)
       have KXX := Lib.hid (KB.kept K4.out KX.out (by intro x hx; simp at hx; omega))
       go_wp2_with fail
       go_roundw
       case rel =>
        refine ⟨k + 1, rows ++ [r], by omega, by go_num, ?_, by simp [HLEN.out], ?_, ?_, HWJ.out, KXX.out⟩
        ·have hsn := gradS_snoc pn nx T.v (ls.take k) [] rows ⟨op, ka, kb, kk⟩ HROW.out
         rw [HDER.out, if_pos rfl] at hsn
         rw [List.take_add_one, HLK.out]
         exact hsn
        ·intro x hx
         rcases List.mem_append.1 hx with hx | hx
         ·exact HRL.out x hx
         ·simp at hx; subst hx; exact ⟨HRLN.out, HRC.out⟩
        ·have hds := HDX.out.ivS (Nat.le_of_eq HRLN.out)
         rw [HRLN.out] at hds
         exact (HAX.out.mono (by have := HDX.out.lt; have := HBD.out; have := HB14.out; omega)).snoc (by rw [HLEN.out]; exact HCX.out) hds FR.out (by intro g hg; simp [Value.ownBlock] at hg; subst hg; exact HDX.out.lt)
       case measure => simp only [intOf]; omega
      ·have gej : (ej != 0) = true := by simp [hej]
       have e1 : G = ⟨([], []), ej⟩ := by
        have hsn := gradS_snoc pn nx T.v (ls.take k) [] rows ⟨op, ka, kb, kk⟩ HROW.out
        rw [HFULL.out, if_neg hej] at hsn
        have hall : gradS pn nx T.v [] ls = ⟨[], ej⟩ := by
         conv => lhs; rw [← List.take_append_drop (k + 1) ls]
         rw [List.take_add_one, HLK.out]
         show gradS pn nx T.v [] (ls.take k ++ [⟨op, ka, kb, kk⟩] ++ _) = _
         rw [gradS_bad pn nx T.v _ _ _ (by rw [hsn]; exact hej), hsn]
        rw [← HGI.out]
        unfold gradI
        rw [HTI.out, if_neg (by rw [HK.out]; decide), Int.toNat_natCast, HNX.out, hall, if_pos hej]
       have KXX := Lib.hid (KB.kept K4.out KX.out (by intro x hx; simp at hx; omega))
       go_wp2_with fail
       go_region
       go_wp2_with fail
       go_ret3
       subst e1
       exact ⟨(K1.out.trans KXX.out).drew, _, _, rfl, ivS_nil _, rowsS_nil _⟩
   ·obtain rfl : nv = k := by omega
    have hfull : gradS pn nx T.v [] ls = ⟨rows, 0⟩ := by
     have := HROW.out
     rwa [List.take_of_length_le (by have := HN.out; omega)] at this
    obtain ⟨row, hrw⟩ : ∃ r, rows[ko]? = some r := ⟨_, List.getElem?_eq_getElem (by have := HLEN.out; omega)⟩
    obtain ⟨sr, hsr, isr, -, -⟩ := HALR.out.at hrw
    obtain ⟨hrn, -⟩ := HRL.out row (List.mem_of_getElem? hrw)
    obtain ⟨bV, oV, ea, rfl, -, hea, hata⟩ := HVS.out.at (show ko < T.v.length by have := HNV.out; omega)
    have e1 : G = ⟨([ea], [row]), 0⟩ := by
     rw [← HGI.out]
     unfold gradI
     rw [HTI.out, if_neg (by rw [HK.out]; decide), Int.toNat_natCast, HNX.out, hfull, if_neg (by simp)]
     simp only [List.map_cons, List.map_nil, Int.toNat_natCast, List.getD_eq_getElem?_getD, hrw, hea, Option.getD_some]
    obtain ⟨p0, p1', p2', p3, p4, p5, s0, s1, s2, s3, s4, s5, hIa⟩ := hata.kept KR.out
    have CA := Lib.hid (show Cells6 wr bV (oV + ko * 6) p0 p1' p2' p3 p4 p5 from ⟨s0, s1, s2, s3, s4, s5⟩)
    have IA := Lib.hid hIa
    have HSR := Lib.hid hsr
    have ISR := Lib.hid isr
    have HE1 := Lib.hid e1
    have HRN := Lib.hid (show row.length ≤ 1000000000 by have := LE.out.2.2.2.2.1; have := HNX.out; omega)
    obtain ⟨t0, t1⟩ := cells2 (blk_kept HB1.out KR.out)
    obtain ⟨B', d', ed, -, hB⟩ := (HO.out.kept (K1.out.trans KR.out))
    injection ed with ed1 ed2 ed3
    subst ed1
    obtain ⟨bo, oo', rfl, ho⟩ := hB (by simp)
    have ho0 := ho 0 _ rfl
    rw [Nat.add_zero] at ho0
    clear hfull hrw hea hata s0 s1 s2 s3 s4 s5 hIa hsr isr e1 hrn ho hB ed2 ed3
    go_upto_region 29 with fail
    refine wp_loop_rounds 2 ?_
    rw [rounds_succ]
    go_upto_region 31 with fail
    clear t0 t1 ho0
    refine region_lin2 (m := 15) (V := VL [(vE (.slice none 0 0)), (vE (.slice (some ⟨bV, oV, none⟩) nv cv)), (vE (.int .i64 (ko : Int))), (vE (.pointer (some ⟨bV, oV + ko * 6, none⟩))), (vE (.agg #[p0, p1', p2', p3, p4, p5])), (fun v wv => IvS wv v [ea]), (fun v wv => IvS wv v [ea]), (vE (.slice none 0 0)), (vE (.slice (some ⟨ball, 0, none⟩) nv nv)), (vE (.int .i64 (ko : Int))), (vE (.pointer (some ⟨ball, ko, none⟩))), (vE sr), (fun v wv => IvS wv v row), (fun v wv => Row1 wv v row), (fun v wv => RowsS wv v [row])])
     (by kernel_rfl) rfl rfl rfl rfl rfl (by kernel_rfl) (by kernel_rfl) (by kernel_rfl) (by kernel_rfl) (mono_of _ ⟨mE, mE, mE, mE, mE, fun v w w' k h => by first | exact h | exact h.kept k | exact ⟨h.1, h.2.kept k⟩, fun v w w' k h => by first | exact h | exact h.kept k | exact ⟨h.1, h.2.kept k⟩, mE, mE, mE, mE, mE, fun v w w' k h => by first | exact h | exact h.kept k | exact ⟨h.1, h.2.kept k⟩, fun v w w' k h => by first | exact h | exact h.kept k | exact ⟨h.1, h.2.kept k⟩, fun v w w' k h => by first | exact h | exact h.kept k | exact ⟨h.1, h.2.kept k⟩, trivial⟩) (steps_of ⟨
       (fun aF wF F => by have s17 : aF.tmps.getD 17 undef = (.slice none 0 0) := F.o 17; exact sv rfl), (fun aF wF F => by have s9 : aF.tmps.getD 9 undef = (.slice (some ⟨bV, oV, none⟩) nv cv) := F.o 9; exact sv rfl), (fun aF wF F => by have s20 : aF.tmps.getD 20 undef = (.int .i64 (ko : Int)) := F.o 20; exact sv rfl), (fun aF wF F => by have s129 := F.v 1 129; have s130 := F.v 2 130; exact sv rfl), (fun aF wF F => by have s131 := F.v 3 131; exact sw (by (obtain ⟨n0, n1, n2, n3, n4, n5⟩ := CA.out.kept F.kept; go_simp)) rfl), (fun aF wF F => by have s132 := F.v 4 132; simp only [Array.getD_eq_getD_getElem?] at s132; exact step_new (by simp [Region.wanted]) (by first | (go_simp; done) | (go_simp; rfl)) (kept_alloc _ _) (ivS_new1 (IA.out.kept F.kept))), (fun aF wF F => by have s128 := F.v 0 128; have s133 := F.p 5 133; obtain ⟨v', w', hr, hk, hv⟩ := copy_iv wF s133 (by show (1 : Nat) ≤ 1000000000; decide) 33; exact step_new (by simp [Region.wanted]) (exec_append _ _ _ rfl s128 rfl hr) hk hv), (fun aF wF F => by have s18 : aF.tmps.getD 18 undef = (.slice none 0 0) := F.o 18; exact sv rfl), (fun aF wF F => by have s12 : aF.tmps.getD 12 undef = (.slice (some ⟨ball, 0, none⟩) nv nv) := F.o 12; exact sv rfl), (fun aF wF F => by have s20 : aF.tmps.getD 20 undef = (.int .i64 (ko : Int)) := F.o 20; exact sv rfl), (fun aF wF F => by have s136 := F.v 8 136; have s137 := F.v 9 137; exact sv rfl), (fun aF wF F => by have s138 := F.v 10 138; exact sw (by (have n0 := (F.kept.cell (p := ⟨ball, ko, none⟩) (lt_of_cell HSR.out)).trans HSR.out; go_simp)) rfl), (fun aF wF F => by have s139 := F.v 11 139; obtain ⟨v', w', hr, hk, hv⟩ := copy_iv wF (ISR.out.kept F.kept) HRN.out 33; exact step_new (by simp [Region.wanted]) (exec_append _ _ _ rfl rfl s139 hr) hk hv), (fun aF wF F => by have s140 := F.p 12 140; have hs := s140; obtain ⟨A9, c9, e9, -, -⟩ := s140; rw [e9] at hs; simp only [Array.getD_eq_getD_getElem?] at e9; exact step_new (by simp [Region.wanted]) (by first | (go_simp; done) | (go_simp; rfl)) (kept_alloc _ _) (row1_new hs)), (fun aF wF F => by have s135 := F.v 7 135; have s141 := F.p 13 141; obtain ⟨b', s', c', e', hc', hs'⟩ := s141; obtain ⟨v', w', hr, hk, hv⟩ := copy_row1 wF hc' hs' 42; exact step_new (by simp [Region.wanted]) (exec_append _ _ _ rfl s135 e' hr) hk hv),
       trivial⟩) ?_
    intro u wx q hu
    have p133 := hp hu 5
    have p134 := hp hu 6
    have p140 := hp hu 12
    have p141 := hp hu 13
    have p142 := hp hu 14
    simp only [puts, slotOf, if_true, Act.put, List.setIfInBounds_toArray, List.set_cons_zero, List.set_cons_succ, List.getElem?_toArray, List.getElem?_cons_zero, List.getElem?_cons_succ, Option.bind_some, hv hu 0, hv hu 1, hv hu 2, hv hu 3, hv hu 4, hv hu 7, hv hu 8, hv hu 9, hv hu 10, hv hu 11]
    clear hu
    generalize u 5 = v133 at *
    generalize u 6 = v134 at *
    generalize u 12 = v140 at *
    generalize u 13 = v141 at *
    generalize u 14 = v142 at *
    go_simp
    rename_i hKK
    refine ⟨hKK _ _ ?_, .inl (by kernel_rfl)⟩
    go_wp2_with fail
    rw [rounds_succ]
    go_wp2_with fail
    go_ret3
    have e1 := HE1.out
    subst e1
    exact ⟨(K1.out.trans KR.out).trans q, _, _, rfl, p134, p142⟩
 ·have gk : (T.k != 0) = true := by simp [hk]
  have e1 : G = ⟨([], []), T.k⟩ := by
   rw [← HGI.out]; unfold gradI; rw [HTI.out, if_pos hk]
  go_wp2_with fail
  go_ret3
  subst e1
  exact ⟨K1.out, _, _, rfl, ivS_nil _, rowsS_nil _⟩
end Go.Proofs.YtgododcbmkpbjaaGreatDoor
