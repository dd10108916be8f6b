/- Contracts of package tape, seventh part: Eval. -/
import Derived.Test.YtgododcbmkpbjaaGreatDoorClaimSmeanp37
set_option maxRecDepth 100000
set_option maxHeartbeats 16000000
namespace Go.Proofs.YtgododcbmkpbjaaGreatDoor
open Go.RowKit
theorem linesI_len (ov : Iv → Nat → Outc Iv) (e : En) (p : Nat) : ∀ (ls : List Ln) (out : List RawI), (linesI ov e p out ls).k = 0 → (linesI ov e p out ls).v.length = out.length + ls.length
 | [], out, _ => rfl
 | l :: ls, out, h => by
   rw [linesI] at h ⊢
   by_cases hk : (lineI ov e p out l).k = 0
   ·rw [if_pos hk] at h ⊢
    rw [linesI_len ov e p ls _ h]
    simp; omega
   ·rw [if_neg hk] at h
    exact absurd h hk
/-- What is so when a tape's lines have been reckoned. -/
theorem tapeI_good {ov : Iv → Nat → Outc Iv} {ls : List Ln} {outs : List Int} {e : En} {p : Int} (h : (tapeI ov ls outs e p).k = 0) :
 (1 ≤ p ∧ p ≤ 300 ∧ mayT ls outs e.x.length e.u.length e.p.length = true ∧ mayE e = true) ∧ (tapeI ov ls outs e p).v.length = ls.length ∧ tapeI ov ls outs e p = linesI ov e p.toNat [] ls := by
 unfold tapeI at h ⊢
 by_cases hg : 1 ≤ p ∧ p ≤ 300 ∧ mayT ls outs e.x.length e.u.length e.p.length = true ∧ mayE e = true
 ·rw [if_pos hg] at h ⊢
  refine ⟨hg, ?_, rfl⟩
  rw [linesI_len _ _ _ _ _ h]; simp
 ·rw [if_neg hg] at h
  cases h
theorem mayT_outs {ls : List Ln} {outs : List Int} {x u p : Int} (h : mayT ls outs x u p = true) : outs.length ≤ 200 ∧ ∀ n ∈ outs, 0 ≤ n ∧ n < ls.length := by
 unfold mayT at h
 simp only [Bool.and_eq_true, decide_eq_true_eq, List.all_eq_true] at h
 refine ⟨h.1.1.2, fun n hn => ?_⟩
 have := h.2 n hn
 unfold belowP at this
 simpa using this
theorem eval_c {S : Int → Prop} {ov : Iv → Nat → Outc Iv} {w : World} {vt ve : Value} {ls : List Ln} {outs : List Int} {e : En} {p : Int} (hv : TpR w vt ls outs) (he : EnR w ve e) (hok : LnOk ls) (hle : EnLens e) (hn : ls.length ≤ 1000000000) (hno : outs.length ≤ 1000000000)
 (hT : Tab w) (hov : ∀ l ∈ ls, l.op = 13 → OvC ov) (O : OpsC S) (hS : ∀ l ∈ ls, 6 ≤ l.op → l.op ≤ 12 → S l.op) :
 Calls Tryz.prog 19 #[vt, ve, .int .i64 p] w (RetLs (evalI ov ls outs e p) w) := by
 have LC := Lib.hid (fun w1 (k : Kept w w1) => lines_c (p := p) (hv.kept k) (he.kept k) hok hle hn hno (hT.kept k) hov O hS)
 clear O hS
 obtain ⟨s, o, rfl, hls, hou⟩ := hv
 obtain ⟨x0, x1, x2, x3, x4, x5, sx, su, sp, rfl, ht, hx, hu, hp⟩ := he
 have HO := Lib.hid hou
 obtain ⟨A, c, rfl, hc, -⟩ := hls
 obtain ⟨B, d, rfl, -, -⟩ := hou
 obtain ⟨AX, cx, rfl, -, -⟩ := hx
 obtain ⟨AU, cu, rfl, -, -⟩ := hu
 obtain ⟨AP, cp, rfl, -, -⟩ := hp
 obtain ⟨W, hW, kW, hb, hb', lW⟩ := box2te w (.slice A ls.length c) (.slice B outs.length d) x0 x1 x2 x3 x4 x5 (.slice AX e.x.length cx) (.slice AU e.u.length cu) (.slice AP e.p.length cp)
 have HW := Lib.hid hW
 have K := Lib.hid kW
 have HB := Lib.hid hb
 obtain ⟨c0, c1⟩ := cells2 hb
 obtain ⟨d0, d1, d2, d3, d4, d5, d6, d7, d8⟩ := ln_cells hb'
 clear hok hle hW kW hb hb' hT ht hov
 obtain ⟨T, hTI⟩ : ∃ T, tapeI ov ls outs e p = T := ⟨_, rfl⟩
 rw [hTI] at LC
 obtain ⟨G, hGI⟩ : ∃ G, evalI ov ls outs e p = G := ⟨_, rfl⟩
 rw [hGI]
 have hgood : T.k = 0 → outs.length ≤ 200 ∧ (∀ n ∈ outs, 0 ≤ n ∧ n < ls.length) ∧ T.v.length = ls.length := fun hk => by
  rw [← hTI] at hk ⊢
  have h := tapeI_good hk
  have h2 := mayT_outs h.1.2.2.1
  exact ⟨h2.1, h2.2, h.2.1⟩
 have HG := Lib.hid hgood
 have HE : Hid (G = if T.k = 0 then ⟨outs.map fun n => T.v.getD n.toNat rzI, 0⟩ else ⟨[], T.k⟩) := Lib.hid (by rw [← hGI, ← hTI]; rfl)
 clear hTI hGI hgood
 generalize hnl : ls.length = n at *
 generalize hnO : outs.length = no at *
 have HN := Lib.hid hnl
 have HNO := Lib.hid hnO
 clear hnl hnO
 go_enter Tryz.func19, Tryz.ntmps19
 go_upto_region 1 with fail
 rw [← HW.out]
 go_wp2_with fail
 refine (LC.out _ K.out).mono ?_
 rintro e' w1 ⟨q, v, rfl, hvs⟩
 have HVS := Lib.hid hvs
 obtain ⟨AV, cv, rfl, hcv, -⟩ := hvs
 have K1 := Lib.hid (K.out.trans q)
 obtain ⟨t0, t1⟩ := cells2 (blk_kept HB.out q)
 clear c0 c1 d0 d1 d2 d3 d4 d5 d6 d7 d8 q HW LC HB
 simp only []
 by_cases hk : T.k = 0
 ·have gk : (T.k != 0) = false := by simp [hk]
  obtain ⟨h200, hbel, hvl⟩ := HG.out hk
  have HBEL := Lib.hid hbel
  have HVL := Lib.hid hvl
  have HE2 : Hid (G = ⟨outs.map fun n => T.v.getD n.toNat rzI, 0⟩) := Lib.hid (by have := HE.out; rwa [if_pos hk] at this)
  clear hbel hvl HE HG
  rw [HVL.out] at hcv
  have hkk := Lib.hid hk
  clear hk
  go_upto_region 5 with fail
  go_wp2_with fail
  go_loopw [10, 26] (fun v t wr => ∃ (i : Nat) (xs : List Value), i ≤ no ∧ t = .int .i64 i ∧ OwnI wr w1.heap.size v ((outs.take i).map fun n => T.v.getD n.toNat rzI) xs ∧ Kept w1 wr) (fun _ t _ => (no - intOf t).toNat)
  case atStart => exact ⟨0, [], Nat.zero_le _, rfl, OwnI.nil _ _, Below.refl _ _⟩
  case round =>
   obtain ⟨i, xs, hi, rfl, hown, hkr⟩ := hrel
   have OW := Lib.hid hown
   have KR := Lib.hid hkr
   clear hown hkr
   by_cases hin : i < no
   ·obtain ⟨z, hz⟩ : ∃ z, outs[i]? = some z := ⟨_, List.getElem?_eq_getElem (by have := HNO.out; omega)⟩
    obtain ⟨z1, z2⟩ := HBEL.out z (List.mem_of_getElem? hz)
    obtain ⟨kz, rfl⟩ : ∃ kz : Nat, z = (kz : Int) := ⟨z.toNat, by omega⟩
    have hkz : kz < T.v.length := by have := HVL.out; omega
    obtain ⟨B', d', ed, -, hB⟩ := (HO.out.kept (K1.out.trans KR.out))
    injection ed with ed1 ed2 ed3
    subst ed1
    obtain ⟨bo, oo', rfl, ho⟩ := hB (by have := HNO.out; omega)
    have ho0 := ho i _ hz
    obtain ⟨bV, oV, ea, rfl, -, hea, hata⟩ := HVS.out.at hkz
    obtain ⟨p0, p1', p2', p3, p4, p5, s0, s1, s2, s3, s4, s5, hIa⟩ := hata.kept KR.out
    have IA := Lib.hid hIa
    have htk : (outs.take (i + 1)).map (fun n => T.v.getD n.toNat rzI) = (outs.take i).map (fun n => T.v.getD n.toNat rzI) ++ [ea] := by
     rw [List.take_add_one, hz, List.map_append]
     simp only [Option.toList_some, List.map_cons, List.map_nil, Int.toNat_natCast, List.getD_eq_getElem?_getD, hea, Option.getD_some]
    have HTK := Lib.hid htk
    have lrows : ((outs.take i).map fun n => T.v.getD n.toNat rzI).length ≤ 1000 := by rw [List.length_map, List.length_take]; omega
    have lbase := KR.out.size
    clear ho hB ed2 ed3 hz z1 z2 hea hata hIa htk
    go_wp2_with (at_builtin; refine wpList_append_iv rfl (.tmp 30) (.tmp 35) rfl rfl (OW.out.kept (kept_alloc _ _)) (IA.out.kept (kept_alloc _ _)) (blkI_new _ _ _ _ _ _ _) rfl lrows (Nat.le_trans lbase (by simp)) ?_; intro v' X' OX' gX')
    have K' := Lib.hid (OwnI.grown_kept (OW.out.kept (kept_alloc _ _)) (KR.out.trans (kept_alloc _ _)) gX')
    have OX := Lib.hid OX'
    clear s0 s1 s2 s3 s4 s5 gX' OX' ho0
    go_roundw
    case rel =>
     have h9 := OX.out
     rw [← HTK.out] at h9
     exact ⟨i + 1, _, by omega, by go_num, h9, K'.out⟩
    case measure => simp only [intOf]; omega
   ·obtain rfl : no = i := by omega
    go_wp2_with fail
    go_ret2
    have h2 := HE2.out
    subst h2
    refine ⟨K1.out.trans KR.out, _, rfl, ?_⟩
    have h := OW.out.ivS
    rwa [List.take_of_length_le (by have := HNO.out; omega)] at h
 ·have gk : (T.k != 0) = true := by simp [hk]
  have h2 : G = ⟨[], T.k⟩ := by have := HE.out; rwa [if_neg hk] at this
  go_wp2_with fail
  go_ret2
  subst h2
  exact ⟨K1.out, _, rfl, ivS_nil _⟩
end Go.Proofs.YtgododcbmkpbjaaGreatDoor
