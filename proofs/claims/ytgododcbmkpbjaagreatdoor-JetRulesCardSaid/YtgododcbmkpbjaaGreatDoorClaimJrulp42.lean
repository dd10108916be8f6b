/- JetRules' tape in memory; five noughts; what the worker's lines want. -/
import Derived.Test.YtgododcbmkpbjaaGreatDoorClaimJrulp22
import Derived.Test.YtgododcbmkpbjaaGreatDoorClaimJrulp32
import Derived.Test.YtgododcbmkpbjaaGreatDoorClaimJrulp39
import Derived.Test.YtgododcbmkpbjaaGreatDoorClaimJrulp40
import Derived.Test.YtgododcbmkpbjaaGreatDoorClaimJrulp41
set_option maxRecDepth 100000
set_option maxHeartbeats 16000000
namespace Go.Proofs.YtgododcbmkpbjaaGreatDoor
open Go.RowKit
def sumV (f g : Nat → Rat) (n : Nat) : Rat → List Nat → Rat
 | s,[] => s
 | s,j :: js => sumV f g n (s + f j * g (n - j)) js
def lessV (f g : Nat → Rat) (n : Nat) : Rat → List Nat → Rat
 | s,[] => s
 | s,j :: js => lessV f g n (s - f j * g (n - j)) js
theorem sumL_mem {p n : Nat} {a b : List RawI} {f g : Nat → Rat} {A B : Int} (p1 : 1 ≤ p) (p2 : p ≤ 300) (hA : A ≤ 100000) (hB : B + 3 * n + 3 ≤ 99990) (hAB : A + B + 3 * n + 3 ≤ 3900)
 (h : ∀ j,j ≤ n → GoodI (mulI (gI a j) (gI b (n - j)) p) A B ∧ In (f j * g (n - j)) (mulI (gI a j) (gI b (n - j)) p).v) : ∀ (m j : Nat) (s : Iv) (v : Rat),j + m = n + 1 → RgI s A (B + 3 * j) → In v s →
   (sumL p a b n s (List.range' j m)).k = 0 ∧ RgI (sumL p a b n s (List.range' j m)).v A (B + 3 * n + 3) ∧ In (sumV f g n v (List.range' j m)) (sumL p a b n s (List.range' j m)).v
 | 0,j,s,v,e,r,i => ⟨rfl,r.mono (Int.le_refl _) (by omega),i⟩
 | m + 1, j, s, v, e, r, i => by
   obtain ⟨g1,i1⟩ := h j (by omega)
   have g2 := addI_rg (p := p) r (g1.2.mono (Int.le_refl _) (B' := B + 3 * j) (by omega)) (by omega) hA (by omega) (by omega)
   rw [sumL_snoc _ _ _ _ _ _ _ (Nat.succ_pos m),Outc.th_ok g1.1,Outc.th_ok g2.1]
   exact sumL_mem p1 p2 hA hB hAB h m (j + 1) _ _ (by omega) (g2.2.mono (Int.le_refl _) (by omega)) (add_in p1 g2.1 i i1)
theorem sumJ_mem {p n : Nat} {a b : List RawI} {f g : Nat → Rat} {A B : Int} (p1 : 1 ≤ p) (p2 : p ≤ 300) (hA : A ≤ 100000) (hB : B + 3 * n + 3 ≤ 99990) (hAB : A + B + 3 * n + 3 ≤ 3900)
 (h : ∀ j,j ≤ n → GoodI (mulI (gI a j) (gI b (n - j)) p) A B ∧ In (f j * g (n - j)) (mulI (gI a j) (gI b (n - j)) p).v) :
   GoodI (sumJ p a b n) A (B + 3 * n + 3) ∧ In (sumV f g n (f 0 * g n) (List.range' 1 n)) (sumJ p a b n).v := by
 obtain ⟨g1,i1⟩ := h 0 (Nat.zero_le _)
 unfold sumJ
 rw [Nat.sub_zero] at g1 i1
 rw [Outc.th_ok g1.1]
 obtain ⟨h1,h2,h3⟩ := sumL_mem p1 p2 hA hB hAB h n 1 _ _ (by omega) (g1.2.mono (Int.le_refl _) (by omega)) i1
 exact ⟨⟨h1,h2⟩,h3⟩
theorem lessL_mem {p n : Nat} {a b : List RawI} {f g : Nat → Rat} {A B : Int} (p1 : 1 ≤ p) (p2 : p ≤ 300) (hA : A ≤ 100000) (hB : B + 3 * n + 3 ≤ 99990) (hAB : A + B + 3 * n + 3 ≤ 3900)
 (h : ∀ j,1 ≤ j → j ≤ n → GoodI (mulI (gI a j) (gI b (n - j)) p) A B ∧ In (f j * g (n - j)) (mulI (gI a j) (gI b (n - j)) p).v) : ∀ (m j : Nat) (s : Iv) (v : Rat),1 ≤ j → j + m = n + 1 → RgI s A (B + 3 * j) → In v s →
   (lessL p a b n s (List.range' j m)).k = 0 ∧ RgI (lessL p a b n s (List.range' j m)).v A (B + 3 * n + 3) ∧ In (lessV f g n v (List.range' j m)) (lessL p a b n s (List.range' j m)).v
 | 0,j,s,v,_,e,r,i => ⟨rfl,r.mono (Int.le_refl _) (by omega),i⟩
 | m + 1, j, s, v, hj, e, r, i => by
   obtain ⟨g1,i1⟩ := h j hj (by omega)
   have g2 := subI_rg (p := p) r (g1.2.mono (Int.le_refl _) (B' := B + 3 * j) (by omega)) (by omega) hA (by omega) (by omega)
   rw [lessL_snoc _ _ _ _ _ _ _ (Nat.succ_pos m),Outc.th_ok g1.1,Outc.th_ok g2.1]
   exact lessL_mem p1 p2 hA hB hAB h m (j + 1) _ _ (by omega) (by omega) (g2.2.mono (Int.le_refl _) (by omega)) (sub_in p1 g2.1 i i1)
def rowE (f : Nat → Int) : List RawI := (List.range 5).map fun i => (pt (dyz (f i) (-3))).raw
theorem rowE_len (f : Nat → Int) : (rowE f).length = 5 := by simp [rowE]
theorem rowE_at (f : Nat → Int) {i : Nat} (h : i < 5) : (rowE f)[i]? = some (pt (dyz (f i) (-3))).raw := by
 unfold rowE
 rw [List.getElem?_map,List.getElem?_range h];rfl
theorem rowE_gI (f : Nat → Int) {i : Nat} (h : i < 5) : gI (rowE f) i = pt (dyz (f i) (-3)) := by
 unfold gI
 rw [List.getD_eq_getElem?_getD,rowE_at f h]
 exact Iv.raw_iv _
def eR (f : Nat → Int) (i : Nat) : Rat := (f i : Rat) * pw (-3)
theorem smZ16 {z : Int} (h : z.natAbs ≤ 16) : SmZ z (-3) := ⟨Nat.lt_of_le_of_lt h (by decide),by decide,by decide⟩
theorem rowE_cf {f : Nat → Int} (h : ∀ i,(f i).natAbs ≤ 16) : Cf (eR f) (fun _ => 3) (fun _ => 2) (rowE f) := by
 intro i hi
 rw [rowE_len] at hi
 rw [rowE_gI f hi,rowE_at f hi]
 have h8 := h i
 have hb := bl_le (f i).natAbs 5 (by omega)
 have hr : RgI (pt (dyz (f i) (-3))) 3 2 := RgI.pt (fitD_rg (fun _ => by omega) (fun _ => by omega) (by omega) (by decide) (by decide)).2
 refine ⟨⟨pt_ok (dyz_ok _ _),rfl⟩,hr,?_⟩
 have := in_pt (dyz (f i) (-3))
 rwa [dyz_q (smZ16 h8)] at this
theorem coefG_self {p : Nat} {g : List RawI} (hg : ∀ i,i < g.length → roundI (gI g i) p = ⟨gI g i,0⟩ ∧ g[i]? = some (gI g i).raw) : ∀ (m j : Nat),j + m = g.length → coefG p g (g.take j) (List.range' j m) = ⟨g,0⟩
 | 0,j,h => by rw [List.take_of_length_le (by omega)];rfl
 | m + 1, j, h => by
   obtain ⟨h1,h2⟩ := hg j (by omega)
   rw [coefG_snoc _ _ _ _ _ (Nat.succ_pos m),h1,if_pos rfl]
   have e : g.take j ++ [(gI g j).raw] = g.take (j + 1) := by rw [List.take_add_one,h2];rfl
   show coefG p g (g.take j ++ [(gI g j).raw]) (List.range' (j + 1) m) = _
   rw [e]
   exact coefG_self hg m (j + 1) (by omega)
theorem coefG_rowE {p : Nat} {f : Nat → Int} (p1 : 20 ≤ p) (h : ∀ i,(f i).natAbs ≤ 16) : coefG p (rowE f) [] (List.range' 0 5) = ⟨rowE f,0⟩ := by
 have h20 : 2 ^ 20 ≤ 2 ^ p := Nat.pow_le_pow_right (by decide) p1
 have e : (2 : Nat) ^ 20 = 1048576 := rfl
 refine coefG_self (g := rowE f) (fun i hi => ?_) 5 0 (by rw [rowE_len])
 rw [rowE_len] at hi
 rw [rowE_gI f hi,rowE_at f hi]
 exact ⟨dyz_round (by have := h i;omega),rfl⟩
def cZ (i : Nat) : Int := if i = 0 then 1 else 0
def row1 : List RawI := constJ (pt (dyz 1 0)).raw 4
theorem row1_gI {i : Nat} (h : i < 5) : gI row1 i = pt (dyz (cZ i) 0) ∧ row1[i]? = some (gI row1 i).raw := by
 have hz : rzI.iv = pt (dyz 0 0) := by rw [← iz_rawz,Iv.raw_iv,dyz_zero];rfl
 have hr : rzI = (pt (dyz 0 0)).raw := by rw [dyz_zero];exact iz_rawz.symm
 rcases i with _ | i
 ·refine ⟨?_, ?_⟩
  ·show (pt (dyz 1 0)).raw.iv = _
   rw [Iv.raw_iv];rfl
  ·show some (pt (dyz 1 0)).raw = some (pt (dyz 1 0)).raw.iv.raw
   rw [Iv.raw_iv]
 ·have hg : row1[i + 1]? = some rzI := by
   unfold row1 constJ
   rw [List.getElem?_cons_succ,List.getElem?_replicate,if_pos (by omega)]
  have hi : gI row1 (i + 1) = pt (dyz 0 0) := by
   unfold gI
   rw [List.getD_eq_getElem?_getD,hg]
   exact hz
  refine ⟨hi,?_⟩
  rw [hg,hi,hr]
theorem coefG_row1 {p : Nat} (p1 : 20 ≤ p) : coefG p row1 [] (List.range' 0 5) = ⟨row1,0⟩ := by
 have h20 : 2 ^ 20 ≤ 2 ^ p := Nat.pow_le_pow_right (by decide) p1
 have e : (2 : Nat) ^ 20 = 1048576 := rfl
 refine coefG_self (g := row1) (fun i hi => ?_) 5 0 rfl
 have hi5 : i < 5 := hi
 obtain ⟨h1,h2⟩ := row1_gI hi5
 refine ⟨?_,h2⟩
 rw [h1]
 refine dyz_round ?_
 unfold cZ
 split <;> simp <;> omega
def sumZ (f g : Nat → Int) (n : Nat) : Int → List Nat → Int
 | s,[] => s
 | s,j :: js => sumZ f g n (s + f j * g (n - j)) js
theorem sumL_ex {p n : Nat} {a b : List RawI} {f g : Nat → Int} (p1 : 20 ≤ p) (h : ∀ j,(f j * g (n - j)).natAbs ≤ 16) (hf : ∀ j,(f j).natAbs ≤ 16) (hg : ∀ j,(g j).natAbs ≤ 1) (ha : ∀ j,j ≤ n → gI a j = pt (dyz (f j) (-3))) (hb : ∀ j,j ≤ n → gI b j = pt (dyz (g j) 0)) :
 ∀ (m j : Nat) (s : Int),j + m = n + 1 → s.natAbs + 16 * m ≤ 1000 → sumL p a b n (pt (dyz s (-3))) (List.range' j m) = ⟨pt (dyz (sumZ f g n s (List.range' j m)) (-3)),0⟩
 | 0,j,s,_,_ => rfl
 | m + 1, j, s, e, hs => by
   have h20 : 2 ^ 20 ≤ 2 ^ p := Nat.pow_le_pow_right (by decide) p1
   have e20 : (2 : Nat) ^ 20 = 1048576 := rfl
   have e60 : (2 : Nat) ^ 60 = 1152921504606846976 := rfl
   have h1 := h j
   have h2 := hf j
   have h3 := hg (n - j)
   have hm : mulI (gI a j) (gI b (n - j)) p = ⟨pt (dyz (f j * g (n - j)) (-3)),0⟩ := by
    rw [ha j (by omega),hb (n - j) (by omega)]
    exact dyz_mulI (e := -3) (f := 0) ⟨by omega,by decide,by decide⟩ ⟨by omega,by decide,by decide⟩ ⟨by omega,by decide,by decide⟩ (by omega)
   have hadd := dyz_addI (p := p) (a := s) (b := f j * g (n - j)) (e := -3) ⟨by omega,by decide,by decide⟩ ⟨by omega,by decide,by decide⟩ ⟨by omega,by decide,by decide⟩ (by omega)
   rw [sumL_snoc _ _ _ _ _ _ _ (Nat.succ_pos m),hm,Outc.th_ok rfl]
   simp only []
   rw [hadd,Outc.th_ok rfl]
   simp only []
   rw [show m + 1 - 1 = m from rfl,sumL_ex p1 h hf hg ha hb m (j + 1) _ (by omega) (by omega),List.range'_succ]
   rfl
theorem sumJ_ex {p n : Nat} {f : Nat → Int} (p1 : 20 ≤ p) (hf : ∀ j,(f j).natAbs ≤ 16) (hn : n < 5) : sumJ p (rowE f) row1 n = ⟨pt (dyz (f n) (-3)),0⟩ := by
 have h20 : 2 ^ 20 ≤ 2 ^ p := Nat.pow_le_pow_right (by decide) p1
 have e20 : (2 : Nat) ^ 20 = 1048576 := rfl
 have e60 : (2 : Nat) ^ 60 = 1152921504606846976 := rfl
 have hc : ∀ j,(cZ j).natAbs ≤ 1 := fun j => by unfold cZ;split <;> decide
 have hp : ∀ j,(f j * cZ (n - j)).natAbs ≤ 16 := fun j => by
  rw [Int.natAbs_mul]
  have := Nat.mul_le_mul (hf j) (hc (n - j))
  omega
 have h0 := hf 0
 have hcn := hc n
 have hp0 : (f 0 * cZ n).natAbs ≤ 16 := by
  rw [Int.natAbs_mul]
  have := Nat.mul_le_mul h0 hcn
  omega
 have hm : mulI (gI (rowE f) 0) (gI row1 n) p = ⟨pt (dyz (f 0 * cZ n) (-3)),0⟩ := by
  rw [rowE_gI f (by omega),(row1_gI hn).1]
  exact dyz_mulI (e := -3) (f := 0) ⟨by omega,by decide,by decide⟩ ⟨by omega,by decide,by decide⟩ ⟨by omega,by decide,by decide⟩ (by omega)
 unfold sumJ
 rw [hm,Outc.th_ok rfl]
 simp only []
 rw [sumL_ex p1 hp hf hc (fun j hj => rowE_gI f (by omega)) (fun j hj => (row1_gI (by omega)).1) n 1 _ (by omega) (by omega)]
 have ez : sumZ f cZ n (f 0 * cZ n) (List.range' 1 n) = f n := by
  have : n = 0 ∨ n = 1 ∨ n = 2 ∨ n = 3 ∨ n = 4 := by omega
  rcases this with rfl | rfl | rfl | rfl | rfl <;> simp [sumZ,cZ,List.range']
 rw [ez]
def qv0 (a b : Nat → Rat) : Rat := a 0 / b 0
def qv1 (a b : Nat → Rat) : Rat := (a 1 - b 1 * qv0 a b) / b 0
def qv2 (a b : Nat → Rat) : Rat := (a 2 - b 1 * qv1 a b - b 2 * qv0 a b) / b 0
def qv3 (a b : Nat → Rat) : Rat := (a 3 - b 1 * qv2 a b - b 2 * qv1 a b - b 3 * qv0 a b) / b 0
def qv4 (a b : Nat → Rat) : Rat := (a 4 - b 1 * qv3 a b - b 2 * qv2 a b - b 3 * qv1 a b - b 4 * qv0 a b) / b 0
def qv (a b : Nat → Rat) (n : Nat) : Rat := if n = 0 then qv0 a b else if n = 1 then qv1 a b else if n = 2 then qv2 a b else if n = 3 then qv3 a b else qv4 a b
theorem qv_step (a b : Nat → Rat) {n : Nat} (h : n < 5) : lessV b (qv a b) n (a n) (List.range' 1 n) / b 0 = qv a b n := by
 have : n = 0 ∨ n = 1 ∨ n = 2 ∨ n = 3 ∨ n = 4 := by omega
 rcases this with rfl | rfl | rfl | rfl | rfl <;> rfl
theorem qv_mul (a b : Nat → Rat) (h0 : b 0 ≠ 0) {n : Nat} (h : n < 5) : sumV (qv a b) b n (qv a b 0 * b n) (List.range' 1 n) = a n := by
 have e0 : qv0 a b * b 0 = a 0 := Rat.div_mul_cancel h0
 have e1 : qv1 a b * b 0 = a 1 - b 1 * qv0 a b := Rat.div_mul_cancel h0
 have e2 : qv2 a b * b 0 = a 2 - b 1 * qv1 a b - b 2 * qv0 a b := Rat.div_mul_cancel h0
 have e3 : qv3 a b * b 0 = a 3 - b 1 * qv2 a b - b 2 * qv1 a b - b 3 * qv0 a b := Rat.div_mul_cancel h0
 have e4 : qv4 a b * b 0 = a 4 - b 1 * qv3 a b - b 2 * qv2 a b - b 3 * qv1 a b - b 4 * qv0 a b := Rat.div_mul_cancel h0
 have : n = 0 ∨ n = 1 ∨ n = 2 ∨ n = 3 ∨ n = 4 := by omega
 rcases this with rfl | rfl | rfl | rfl | rfl
 ·exact e0
 ·show qv0 a b * b 1 + qv1 a b * b 0 = a 1
  grind
 ·show qv0 a b * b 2 + qv1 a b * b 1 + qv2 a b * b 0 = a 2
  grind
 ·show qv0 a b * b 3 + qv1 a b * b 2 + qv2 a b * b 1 + qv3 a b * b 0 = a 3
  grind
 ·show qv0 a b * b 4 + qv1 a b * b 3 + qv2 a b * b 2 + qv3 a b * b 1 + qv4 a b * b 0 = a 4
  grind
theorem coefN_self {ov : Iv → Nat → Outc Iv} {p : Nat} {op : Int} {a b g : List RawI} (hg : ∀ c i,i < g.length → nextJ ov p op a b c i = ⟨gI g i,0⟩ ∧ g[i]? = some (gI g i).raw) : ∀ (m j : Nat),j + m = g.length → coefN ov p op a b (g.take j) (List.range' j m) = ⟨g,0⟩
 | 0,j,h => by rw [List.take_of_length_le (by omega)];rfl
 | m + 1, j, h => by
   obtain ⟨h1,h2⟩ := hg (g.take j) j (by omega)
   rw [coefN_snoc _ _ _ _ _ _ _ _ (Nat.succ_pos m),h1,if_pos rfl]
   have e : g.take j ++ [(gI g j).raw] = g.take (j + 1) := by rw [List.take_add_one,h2];rfl
   show coefN ov p op a b (g.take j ++ [(gI g j).raw]) (List.range' (j + 1) m) = _
   rw [e]
   exact coefN_self hg m (j + 1) (by omega)
def sqV (f : Nat → Rat) (n : Nat) : Rat := sumV f f n (f 0 * f n) (List.range' 1 n)
section
variable {ov : Iv → Nat → Outc Iv} {p : Nat} {a b : Nat → Int}
theorem mul_pair {f g : Nat → Rat} {A B A' B' : Nat → Int} {x y : List RawI} (p1 : 1 ≤ p) (p2 : p ≤ 300) (hx : Cf f A B x) (hy : Cf g A' B' y) {i j : Nat} (hi : i < x.length) (hj : j < y.length) {C D : Int} (h1 : A i + A' j ≤ C) (h2 : B i + B' j + 1 ≤ D) (hC : C ≤ 3000) (hD : D ≤ 500) (h3 : A i + B i + A' j + B' j ≤ 4000) :
 GoodI (mulI (gI x i) (gI y j) p) C D ∧ In (f i * g j) (mulI (gI x i) (gI y j) p).v := by
 obtain ⟨-,r1,i1⟩ := hx i hi
 obtain ⟨-,r2,i2⟩ := hy j hj
 have g := mulI_rg (p := p) r1 r2 (by omega) (by omega) (by omega) (by omega)
 exact ⟨g.mono h1 h2,mul_in p1 g.1 i1 i2⟩
theorem row4 (p1 : 20 ≤ p) (p2 : p ≤ 80) (ha : ∀ i,(a i).natAbs ≤ 16) (op : Int) (ho : op = 8 ∨ op = 11) : ∃ r,coefN ov p op (rowE a) (rowE a) [] (List.range' 0 5) = ⟨r,0⟩ ∧ Cf (sqV (eR a)) (fun _ => 6) (fun n => 8 + 3 * n) r ∧ r.length = 5 := by
 have hc := rowE_cf ha
 have hl := rowE_len a
 have hN : ∀ c n,n < 5 → Cf (sqV (eR a)) (fun _ => 6) (fun n => 8 + 3 * n) c → c.length = n → (nextJ ov p op (rowE a) (rowE a) c n).v.Ok ∧ GoodI (nextJ ov p op (rowE a) (rowE a) c n) 6 (8 + 3 * (n : Int)) ∧ In (sqV (eR a) n) (nextJ ov p op (rowE a) (rowE a) c n).v := by
  intro c n hn _ _
  have hs : GoodI (sumJ p (rowE a) (rowE a) n) 6 (8 + 3 * (n : Int)) ∧ In (sqV (eR a) n) (sumJ p (rowE a) (rowE a) n).v := by
   obtain ⟨g,i⟩ := sumJ_mem (p := p) (n := n) (a := rowE a) (b := rowE a) (f := eR a) (g := eR a) (A := 6) (B := 5) (by omega) (by omega) (by decide) (by omega) (by omega) (fun j hj => mul_pair (by omega) (by omega) hc hc (by omega) (by omega) (by decide) (by decide) (by decide) (by decide) (by decide))
   exact ⟨g.mono (by omega) (by omega),i⟩
  have hq : GoodI (nextJ ov p op (rowE a) (rowE a) c n) 6 (8 + 3 * (n : Int)) ∧ In (sqV (eR a) n) (nextJ ov p op (rowE a) (rowE a) c n).v := by
   rcases ho with rfl | rfl
   ·rw [nextJ8];exact hs
   ·rw [nextJ11]
    by_cases h0 : n = 0
    ·subst h0
     rw [if_pos rfl]
     obtain ⟨-,r1,i1⟩ := hc 0 (by omega)
     have r1' : RgI (gI (rowE a) 0) 3 2 := r1
     have g := sqrI_rg (p := p) r1' (by omega) (by decide) (by decide) (by decide)
     exact ⟨g.mono (by decide) (by decide),sqr_in (by omega) g.1 i1⟩
    ·rw [if_neg h0];exact hs
  exact ⟨nextJ_okv (by omega) hc.gd hc.gd (by rcases ho with h | h <;> simp [h]) hq.1.1,hq⟩
 obtain ⟨k0,q,ql⟩ := coefN_cf (L := 5) hN 5 [] (by simp) (Cf.nil _ _ _)
 exact ⟨_,k0_eq k0 rfl,q,by simpa using ql⟩
theorem row6 (p1 : 20 ≤ p) (p2 : p ≤ 80) (ha : ∀ i,(a i).natAbs ≤ 16) (hb : ∀ i,(b i).natAbs ≤ 16) (hb0 : 8 ≤ b 0) : ∃ r,coefN ov p 9 (rowE a) (rowE b) [] (List.range' 0 5) = ⟨r,0⟩ ∧ Cf (qv (eR a) (eR b)) (fun n => 90 + 90 * n) (fun n => 8 + 30 * n) r ∧ r.length = 5 := by
 have hc := rowE_cf ha
 have hd := rowE_cf hb
 have hl := rowE_len a
 have hl2 := rowE_len b
 obtain ⟨⟨ok0,-⟩,r0,i0⟩ := hd 0 (by omega)
 replace r0 : RgI (gI (rowE b) 0) 3 2 := r0
 have hz : ¬ hasZero (gI (rowE b) 0) = true := by
  rw [rowE_gI b (by decide),hasZero_iff]
  rintro ⟨h1,-⟩
  have h1 : (dyz (b 0) (-3)).q ≤ 0 := h1
  rw [dyz_q (smZ16 (hb 0))] at h1
  have h2 : (0 : Rat) < ((b 0 : Int) : Rat) := by
   have : ((0 : Int) : Rat) < ((b 0 : Int) : Rat) := Rat.intCast_lt_intCast.2 (by omega)
   exact this
  have h3 := Rat.mul_pos h2 (pw_pos (-3))
  grind
 have hN : ∀ c n,n < 5 → Cf (qv (eR a) (eR b)) (fun n => 90 + 90 * n) (fun n => 8 + 30 * n) c → c.length = n → (nextJ ov p 9 (rowE a) (rowE b) c n).v.Ok ∧ GoodI (nextJ ov p 9 (rowE a) (rowE b) c n) (90 + 90 * (n : Int)) (8 + 30 * (n : Int)) ∧ In (qv (eR a) (eR b) n) (nextJ ov p 9 (rowE a) (rowE b) c n).v := by
  intro c n hn hcc hcl
  rw [nextJ9]
  obtain ⟨⟨oka,-⟩,ra,ia⟩ := hc n (by omega)
  replace ra : RgI (gI (rowE a) n) 3 2 := ra
  obtain ⟨Bn,hB1,hB2⟩ : ∃ Bn : Int,(n = 0 → Bn = 0) ∧ (n ≠ 0 → Bn = 30 * (n : Int) - 19) := ⟨if n = 0 then 0 else 30 * (n : Int) - 19,fun h => if_pos h,fun h => if_neg h⟩
  obtain ⟨k1,rl,il⟩ := lessL_mem (p := p) (n := n) (a := rowE b) (b := c) (f := eR b) (g := qv (eR a) (eR b)) (A := 4 + 90 * (n : Int)) (B := Bn) (by omega) (by omega) (by omega) (by omega) (by omega)
   (fun j h1 h2 => mul_pair (by omega) (by omega) hd hcc (by omega) (by omega) (by show (3 : Int) + (90 + 90 * ((n - j : Nat) : Int)) ≤ _;omega) (by show (2 : Int) + (8 + 30 * ((n - j : Nat) : Int)) + 1 ≤ _;omega) (by omega) (by omega) (by show (3 : Int) + 2 + (90 + 90 * ((n - j : Nat) : Int)) + (8 + 30 * ((n - j : Nat) : Int)) ≤ 4000;omega)) n 1 (gI (rowE a) n) (eR a n) (by omega) (by omega) (ra.mono (by omega) (by omega)) ia
  rw [Outc.th_ok k1]
  have g := divI_rg (p := p) rl r0 ok0 hz (by omega) (by omega) (by omega)
  refine ⟨(divI_ok ok0 (by omega)).1,g.mono (by omega) (by omega),?_⟩
  have := div_in ok0 (by omega) g.1 il i0
  rwa [qv_step (eR a) (eR b) hn] at this
 obtain ⟨k0,q,ql⟩ := coefN_cf (L := 5) hN 5 [] (by simp) (Cf.nil _ _ _)
 exact ⟨_,k0_eq k0 rfl,q,by simpa using ql⟩
theorem eR_ne {b : Nat → Int} (hb0 : 8 ≤ b 0) : eR b 0 ≠ 0 := by
 have h2 : (0 : Rat) < ((b 0 : Int) : Rat) := by
  have : ((0 : Int) : Rat) < ((b 0 : Int) : Rat) := Rat.intCast_lt_intCast.2 (by omega)
  exact this
 have h3 := Rat.mul_pos h2 (pw_pos (-3))
 unfold eR
 grind
theorem row7 {q : List RawI} (p1 : 20 ≤ p) (p2 : p ≤ 80) (hb : ∀ i,(b i).natAbs ≤ 16) (hb0 : 8 ≤ b 0) (hq : Cf (qv (eR a) (eR b)) (fun n => 90 + 90 * n) (fun n => 8 + 30 * n) q) (hql : q.length = 5) :
 ∃ r,coefN ov p 8 q (rowE b) [] (List.range' 0 5) = ⟨r,0⟩ ∧ Cf (eR a) (fun _ => 500) (fun _ => 200) r ∧ r.length = 5 := by
 have hd := rowE_cf hb
 have hl2 := rowE_len b
 have hN : ∀ c n,n < 5 → Cf (eR a) (fun _ => 500) (fun _ => 200) c → c.length = n → (nextJ ov p 8 q (rowE b) c n).v.Ok ∧ GoodI (nextJ ov p 8 q (rowE b) c n) 500 200 ∧ In (eR a n) (nextJ ov p 8 q (rowE b) c n).v := by
  intro c n hn _ _
  rw [nextJ8]
  obtain ⟨g,i⟩ := sumJ_mem (p := p) (n := n) (a := q) (b := rowE b) (f := qv (eR a) (eR b)) (g := eR b) (A := 500) (B := 150) (by omega) (by omega) (by decide) (by omega) (by omega)
   (fun j hj => mul_pair (by omega) (by omega) hq hd (by omega) (by omega) (by show (90 + 90 * (j : Int)) + 3 ≤ 500;omega) (by show (8 + 30 * (j : Int)) + 2 + 1 ≤ 150;omega) (by decide) (by decide) (by show (90 + 90 * (j : Int)) + (8 + 30 * (j : Int)) + 3 + 2 ≤ 4000;omega))
  rw [qv_mul (eR a) (eR b) (eR_ne hb0) hn] at i
  exact ⟨sumJ_okv (by omega) g.1,g.mono (by omega) (by omega),i⟩
 obtain ⟨k0,q,ql⟩ := coefN_cf (L := 5) hN 5 [] (by simp) (Cf.nil _ _ _)
 exact ⟨_,k0_eq k0 rfl,q,by simpa using ql⟩
end
def tR : List Ln := [⟨3,0,0,rzI⟩,⟨3,1,0,rzI⟩,⟨1,0,0,(pt (dyz 1 0)).raw⟩,⟨8,0,2,rzI⟩,⟨11,0,0,rzI⟩,⟨8,0,0,rzI⟩,⟨9,0,1,rzI⟩,⟨8,6,1,rzI⟩]
theorem seriesR {ov : Iv → Nat → Outc Iv} {p : Nat} {a b : Nat → Int} (t : List RawI) (p1 : 20 ≤ p) (p2 : p ≤ 80) (ha : ∀ i,(a i).natAbs ≤ 16) (hb : ∀ i,(b i).natAbs ≤ 16) (hb0 : 8 ≤ b 0) :
 ∃ r4 r5 r7,seriesJ ov p tR [0,3,4,5,7] t [rowE a,rowE b] [] 4 = ⟨[rowE a,rowE a,r4,r5,r7],0⟩ ∧ Cf (sqV (eR a)) (fun _ => 6) (fun n => 8 + 3 * n) r4 ∧ Cf (sqV (eR a)) (fun _ => 6) (fun n => 8 + 3 * n) r5 ∧ Cf (eR a) (fun _ => 500) (fun _ => 200) r7 ∧ r4.length = 5 ∧ r5.length = 5 ∧ r7.length = 5 := by
 obtain ⟨r4,h4,c4,l4⟩ := row4 (ov := ov) p1 p2 ha 11 (.inr rfl)
 obtain ⟨r5,h5,c5,l5⟩ := row4 (ov := ov) p1 p2 ha 8 (.inl rfl)
 obtain ⟨r6,h6,c6,l6⟩ := row6 (ov := ov) p1 p2 ha hb hb0
 obtain ⟨r7,h7,c7,l7⟩ := row7 (ov := ov) p1 p2 hb hb0 c6 l6
 have h3 : coefN ov p 8 (rowE a) row1 [] (List.range' 0 5) = ⟨rowE a,0⟩ := coefN_self (g := rowE a) (fun c i hi => by
  rw [rowE_len] at hi
  rw [nextJ8,sumJ_ex p1 ha hi,rowE_gI a hi,rowE_at a hi]
  exact ⟨rfl,rfl⟩) 5 0 (by rw [rowE_len])
 refine ⟨r4,r5,r7,?_,c4,c5,c7,l4,l5,l7⟩
 have e0 : lineJ ov p ⟨3,0,0,rzI⟩ [] t [rowE a,rowE b] [] 4 = ⟨rowE a,0⟩ := by
  rw [lineJ3 _ _ _ _ _ _ _ _ rfl];exact coefG_rowE p1 ha
 have e1 : lineJ ov p ⟨3,1,0,rzI⟩ [rowE a] t [rowE a,rowE b] [] 4 = ⟨rowE b,0⟩ := by
  rw [lineJ3 _ _ _ _ _ _ _ _ rfl];exact coefG_rowE p1 hb
 have e2 : lineJ ov p ⟨1,0,0,(pt (dyz 1 0)).raw⟩ [rowE a,rowE b] t [rowE a,rowE b] [] 4 = ⟨row1,0⟩ := by
  rw [lineJ1 _ _ _ _ _ _ _ _ rfl];exact coefG_row1 p1
 have e3 : lineJ ov p ⟨8,0,2,rzI⟩ [rowE a,rowE b,row1] t [rowE a,rowE b] [] 4 = ⟨rowE a,0⟩ := by
  rw [lineJ6 _ _ _ _ _ _ _ _ (by decide)];exact h3
 have e4 : lineJ ov p ⟨11,0,0,rzI⟩ [rowE a,rowE b,row1,rowE a] t [rowE a,rowE b] [] 4 = ⟨r4,0⟩ := by
  rw [lineJ6 _ _ _ _ _ _ _ _ (by decide)];exact h4
 have e5 : lineJ ov p ⟨8,0,0,rzI⟩ [rowE a,rowE b,row1,rowE a,r4] t [rowE a,rowE b] [] 4 = ⟨r5,0⟩ := by
  rw [lineJ6 _ _ _ _ _ _ _ _ (by decide)];exact h5
 have e6 : lineJ ov p ⟨9,0,1,rzI⟩ [rowE a,rowE b,row1,rowE a,r4,r5] t [rowE a,rowE b] [] 4 = ⟨r6,0⟩ := by
  rw [lineJ6 _ _ _ _ _ _ _ _ (by decide)];exact h6
 have e7 : lineJ ov p ⟨8,6,1,rzI⟩ [rowE a,rowE b,row1,rowE a,r4,r5,r6] t [rowE a,rowE b] [] 4 = ⟨r7,0⟩ := by
  rw [lineJ6 _ _ _ _ _ _ _ _ (by decide)];exact h7
 simp only [seriesJ,linesJ,tR,e0,e1,e2,e3,e4,e5,e6,e7,if_true,List.nil_append,List.cons_append,List.map_cons,List.map_nil]
 rfl
theorem meet_ok {a b : Iv} {x : Rat} (ha : a.Ok) (hb : b.Ok) (ia : In x a) (ib : In x b) : (meetI a b).Ok := by
 have h1 : (greatestI a.lo b.lo).Ok ∧ (greatestI a.lo b.lo).q ≤ x := by
  unfold greatestI
  split
  ·exact ⟨ha.lo,ia.1⟩
  ·exact ⟨hb.lo,ib.1⟩
 have h2 : (leastI a.hi b.hi).Ok ∧ x ≤ (leastI a.hi b.hi).q := by
  unfold leastI
  split
  ·exact ⟨ha.hi,ia.2⟩
  ·exact ⟨hb.hi,ib.2⟩
 exact ⟨h1.1,h2.1,by have := h1.2;have := h2.2;show (greatestI a.lo b.lo).q ≤ (leastI a.hi b.hi).q;grind⟩
theorem app_iv2 {w : World} {B : Nat} {v : Value} {l : List RawI} {d : RawI} {xs : List Value} {t0 t1 t2 t3 t4 t5 : Value} {bt : Nat} (ty : TypeId) (ho : OwnI w B v l xs) (hnil : l = [] → v = .slice none 0 0) (hl : l.length ≤ 1000) (hB : B ≤ w.heap.size)
 (hb : BlkI w bt t0 t1 t2 t3 t4 t5) (hd : IvR w (.agg #[t0,t1,t2,t3,t4,t5]) d) :
 ∃ v' w' g', (Builtin.append_ #[33, 33] ty #[v, .slice (some ⟨bt, 0, none⟩) 1 1]).run Tryz.prog w = .ok v' w' ∧ OwnI w' B v' (l ++ [d]) (xs ++ [t0, t1, t2, t3, t4, t5]) ∧ w.grownBy w' v.ownBlock ∧
   (∀ (b : Nat) (cs : Array Value) (T : TypeId),w.heap[b]? = some (.cells cs T (0,0)) → cs.size < 12 → w'.heap[b]? = some (.cells cs T (0,0))) ∧ v'.ownBlock = some g' ∧ (v.ownBlock = some g' ∨ w.heap.size ≤ g') ∧ g' < w'.heap.size := by
 obtain ⟨i0,hi,hz0,hz1,hz2⟩ := info_parts iinfo
 obtain ⟨-,c0,c1,c2,c3,c4,c5⟩ := hb.facts
 have hcl := hd.cells
 have ad : ∀ (b j : Nat),(⟨b,0,none⟩ : Addr).add j = ⟨b,j,none⟩ := by intro b j;unfold Addr.add;split <;> simp_all
 have hnews : ∀ (j : Nat) (u : Value),[t0,t1,t2,t3,t4,t5][j]? = some u → w.cell? ((⟨bt,0,none⟩ : Addr).add j) = some u := by
  intro j u hu
  rw [ad]
  rcases j with _ | _ | _ | _ | _ | _ | j
  ·cases hu;exact c0
  ·cases hu;exact c1
  ·cases hu;exact c2
  ·cases hu;exact c3
  ·cases hu;exact c4
  ·cases hu;exact c5
  ·simp at hu
 obtain ⟨v',w',g',hr,h2,h3,h4,h5⟩ := run_append_nol (P := Tryz.prog) w B 33 ty 32 i0 _ 6 80 Tryz.underlying33 hi hz0 hz1 hz2 rfl (by decide) v l.length xs ho.row ⟨bt,0,none⟩ 1 1 [t0,t1,t2,t3,t4,t5] rfl hnews (fun u hu => (hcl u hu).2) (by unfold maxLen;omega) (by omega) hB (by decide) ho.nl (fun u hu => (hcl u hu).1) zcells_nl ho.blk
 have hown' := ho.snoc hd h2 h3 h4 h5
 have hlt : g' < w'.heap.size := by
  obtain ⟨cr,e,q1,-⟩ := h5
  exact (Array.getElem?_eq_some_iff.1 q1).1
 by_cases hl0 : l = []
 ·subst hl0
  obtain rfl := hnil rfl
  have hx : xs = [] := List.eq_nil_of_length_eq_zero (by simpa using ho.row.1)
  subst hx
  have hr2 := run_append_nil (P := Tryz.prog) w 33 ty 32 i0 _ Tryz.underlying33 hi hz0 ⟨bt,0,none⟩ 1 1 [t0,t1,t2,t3,t4,t5] (by rw [hz1];rfl) hnews (by decide) (by decide) (by rw [hz2];decide)
  rw [hr2] at hr
  injection hr with e1 e2
  have kk : Kept w w' := by rw [← e2];exact (Below.refl _ _).drew.alloc (Nat.le_refl _) _
  have hg' : w.heap.size = g' := by rw [← e1] at h4;simpa [Value.ownBlock] using h4
  rw [e1,e2] at hr2
  exact ⟨v',w',g',hr2,hown',h3,fun b cs T hb2 _ => (kk.block b (Array.getElem?_eq_some_iff.1 hb2).1).trans hb2,h4,.inr (Nat.le_of_eq hg'),hlt⟩
 have hn : 0 < l.length := List.length_pos_iff.2 hl0
 rcases ho.row.2 with ⟨-,h0⟩ | ⟨g,cap,cur,rfl,hbg,hg,hnc,hcm,hcs,htake⟩
 ·omega
 have h3' : w.grownBy w' (some g) := h3
 have oth : ∀ (b : Nat) (o : Obj),b ≠ g → w.heap[b]? = some o → w'.heap[b]? = some o := fun b o hne hb' => by
  rw [h3'.block b (Array.getElem?_eq_some_iff.1 hb').1 (fun e => hne (Option.some.inj e))]
  exact hb'
 by_cases hroom : l.length + 1 ≤ cap
 ·have hsz : 12 ≤ cur.size := by rw [hcs]; omega
  have hr2 := run_append_room (P := Tryz.prog) w 33 ty 32 i0 Tryz.underlying33 hi g l.length cap cur hg ⟨bt,0,none⟩ 1 1 [t0,t1,t2,t3,t4,t5] (by rw [hz1];rfl) hnews (fun u hu => (hcl u hu).2) hroom (by rw [hz1,hcs];simp only [List.length_cons,List.length_nil];omega)
  rw [hz1] at hr2
  rw [hr2] at hr
  injection hr with e1 e2
  subst e1
  subst e2
  obtain rfl : g = g' := by simpa [Value.ownBlock] using h4
  refine ⟨_,_,g,hr2,hown',h3,?_,rfl,.inl rfl,hlt⟩
  intro b cs T hb2 hlt
  refine oth b _ ?_ hb2
  rintro rfl
  rw [hg] at hb2
  injection hb2 with hb2
  injection hb2 with hb2
  subst hb2
  omega
 ·have holds : ∀ j u, xs[j]? = some u → w.cell? ((⟨g, 0, none⟩ : Addr).add j) = some u := ho.row.cells (g := g) rfl
  have hr2 := run_append_grow (P := Tryz.prog) w 33 ty 32 i0 _ Tryz.underlying33 hi hz0 ⟨g,0,none⟩ l.length cap xs (by rw [hz1];exact ho.row.1) holds ⟨bt,0,none⟩ 1 1 [t0,t1,t2,t3,t4,t5] (by rw [hz1];rfl) hnews (by omega) (by omega) (growslice_fits (by omega) (by rw [hz2];omega))
  rw [hr2] at hr
  injection hr with e1 e2
  have kk : Kept w w' := by rw [← e2];exact (Below.refl _ _).drew.alloc (Nat.le_refl _) _
  have hg' : w.heap.size = g' := by rw [← e1] at h4;simpa [Value.ownBlock] using h4
  rw [e1,e2] at hr2
  exact ⟨v',w',g',hr2,hown',h3,fun b cs T hb2 _ => (kk.block b (Array.getElem?_eq_some_iff.1 hb2).1).trans hb2,h4,.inr (Nat.le_of_eq hg'),hlt⟩
theorem OwnI.apart {w w' : World} {B : Nat} {v : Value} {l : List RawI} {xs : List Value} {row : Option Nat} (h : OwnI w B v l xs) (hg : w.grownBy w' row) (hN : ∀ g,row = some g → NoL w g) (hne : ∀ g,v.ownBlock = some g → row ≠ some g) : OwnI w' B v l xs := by
 obtain ⟨h1,h2,h3,h4,h5⟩ := h
 refine ⟨⟨h1.1,?_⟩,h2,h3,?_,?_⟩
 ·rcases h1.2 with hn | ⟨g, cap, cr, rfl, hb2, hg2, rest⟩
  ·exact .inl hn
  ·exact .inr ⟨g,cap,cr,rfl,hb2,(hg.block g (Array.getElem?_eq_some_iff.1 hg2).1 (fun e => hne g rfl e.symm)).trans hg2,rest⟩
 ·intro g hg2
  obtain ⟨cr,e,q1,q2⟩ := h4 g hg2
  exact ⟨cr,e,(hg.block g (Array.getElem?_eq_some_iff.1 q1).1 (fun e => hne g hg2 e.symm)).trans q1,q2⟩
 ·intro i a hi
  obtain ⟨p0,p1,p2,p3,p4,p5,s0,s1,s2,s3,s4,s5,hI⟩ := h5 i a hi
  exact ⟨p0,p1,p2,p3,p4,p5,s0,s1,s2,s3,s4,s5,hI.grown hg hN⟩
def fA (a : List Int) (i : Nat) : Int := kzJ 33 16 (a.getD i 0)
def fB (b : List Int) (i : Nat) : Int := if i = 0 then 8 + (IntKind.u64.wrap (b.getD 0 0)).tmod 9 else kzJ 33 16 (b.getD i 0)
theorem fA_b (a : List Int) (i : Nat) : (fA a i).natAbs ≤ 16 := by
 have h := (kzJ_eq (a.getD i 0) (m := 33) (c := 16) (by decide) (by decide) (by decide) (by decide)).2
 unfold fA
 omega
theorem r9 (z : Int) : wrap64 (8 + wrap64 ((IntKind.u64.wrap z).tmod 9)) = 8 + (IntKind.u64.wrap z).tmod 9 ∧ 8 ≤ 8 + (IntKind.u64.wrap z).tmod 9 ∧ 8 + (IntKind.u64.wrap z).tmod 9 ≤ 16 := by
 rw [IntKind.wrap_u64]
 have h0 : 0 ≤ z % 18446744073709551616 := Int.emod_nonneg _ (by decide)
 rw [Int.tmod_eq_emod_of_nonneg h0]
 have h1 : 0 ≤ z % 18446744073709551616 % 9 := Int.emod_nonneg _ (by decide)
 have h2 : z % 18446744073709551616 % 9 < 9 := Int.emod_lt_of_pos _ (by decide)
 generalize z % 18446744073709551616 % 9 = x at *
 unfold wrap64
 omega
theorem fB_b (b : List Int) (i : Nat) : (fB b i).natAbs ≤ 16 := by
 unfold fB
 split
 ·have := (r9 (b.getD 0 0)).2;omega
 ·have h := (kzJ_eq (b.getD i 0) (m := 33) (c := 16) (by decide) (by decide) (by decide) (by decide)).2
  omega
theorem fB_0 (b : List Int) : 8 ≤ fB b 0 := by
 unfold fB
 rw [if_pos rfl]
 exact (r9 (b.getD 0 0)).2.1
def rowP (f : Nat → Int) (i : Nat) : List RawI := (List.range i).map fun i => (pt (dyz (f i) (-3))).raw
theorem rowP_snoc (f : Nat → Int) (i : Nat) : rowP f (i + 1) = rowP f i ++ [(pt (dyz (f i) (-3))).raw] := by
 unfold rowP
 rw [List.range_succ,List.map_append];rfl
theorem rowP_len (f : Nat → Int) (i : Nat) : (rowP f i).length = i := by simp [rowP]
structure RuS (B bx : Nat) (w0 : World) (f g : Nat → Int) (i : Nat) (w : World) : Prop where
 box : ∃ v0 v1 xs0 xs1,w.heap[bx]? = some (.cells #[v0,v1] 33 (0,0)) ∧ OwnI w B v0 (rowP f i) xs0 ∧ OwnI w B v1 (rowP g i) xs1 ∧ (i = 0 → v0 = .slice none 0 0 ∧ v1 = .slice none 0 0) ∧ (∀ b,v0.ownBlock = some b → v1.ownBlock ≠ some b)
 k : Kept w0 w
theorem RuS.kept {B bx : Nat} {w0 : World} {f g : Nat → Int} {i : Nat} {w w' : World} (h : RuS B bx w0 f g i w) (k : Kept w w') : RuS B bx w0 f g i w' := by
 obtain ⟨v0,v1,xs0,xs1,h1,h2,h3,h4,h5⟩ := h.box
 exact ⟨⟨v0,v1,xs0,xs1,blk_kept h1 k,h2.kept k,h3.kept k,h4,h5⟩,h.k.trans k⟩
def ownB (v : Value) : List Nat := v.ownBlock.toList
theorem mem_ownB {v : Value} {g : Nat} : g ∈ ownB v ↔ v.ownBlock = some g := by unfold ownB;simp [Option.mem_toList,eq_comm]
def RuJ (B bx : Nat) (v0 v1 : Value) (ra rb : List RawI) (xs0 xs1 : List Value) (l4 l8 l11 l15 l17 l19 : Bool) (w : World) : Prop :=
 (l8 = false → OwnI w B v0 ra xs0) ∧ (l15 = false → OwnI w B v1 rb xs1) ∧ ∃ c0 c1,w.heap[bx]? = some (.cells #[c0,c1] 33 (0,0)) ∧ SlC c0 ∧ SlC c1 ∧ (l17 = false → c0 = v0) ∧ (l19 = false → c1 = v1) ∧ (l17 = true → l4 = true ∧ l8 = true) ∧ (l19 = true → l11 = true ∧ l15 = true)
section
variable {B bx : Nat} {v0 v1 : Value} {ra rb : List RawI} {xs0 xs1 : List Value} {l4 l8 l11 l15 l17 l19 : Bool} {w w' : World}
theorem RuJ.kept (k : Kept w w') (h : RuJ B bx v0 v1 ra rb xs0 xs1 l4 l8 l11 l15 l17 l19 w) : RuJ B bx v0 v1 ra rb xs0 xs1 l4 l8 l11 l15 l17 l19 w' := by
 obtain ⟨h1,h2,c0,c1,hb,rest⟩ := h
 exact ⟨fun e => (h1 e).kept k,fun e => (h2 e).kept k,c0,c1,blk_kept hb k,rest⟩
theorem RuJ.seen4 (k : Kept w w') (h : RuJ B bx v0 v1 ra rb xs0 xs1 l4 l8 l11 l15 l17 l19 w) : RuJ B bx v0 v1 ra rb xs0 xs1 true l8 l11 l15 l17 l19 w' := by
 obtain ⟨h1,h2,c0,c1,hb,s0,s1,h5,h6,h7,h8⟩ := h.kept k
 exact ⟨h1,h2,c0,c1,hb,s0,s1,h5,h6,fun e => ⟨rfl,(h7 e).2⟩,h8⟩
theorem RuJ.seen11 (k : Kept w w') (h : RuJ B bx v0 v1 ra rb xs0 xs1 l4 l8 l11 l15 l17 l19 w) : RuJ B bx v0 v1 ra rb xs0 xs1 l4 l8 true l15 l17 l19 w' := by
 obtain ⟨h1,h2,c0,c1,hb,s0,s1,h5,h6,h7,h8⟩ := h.kept k
 exact ⟨h1,h2,c0,c1,hb,s0,s1,h5,h6,h7,fun e => ⟨rfl,(h8 e).2⟩⟩
theorem RuJ.at0 (h : RuJ B bx v0 v1 ra rb xs0 xs1 l4 l8 l11 l15 l17 l19 w) (hl : l4 = false ∨ l8 = false ∨ l17 = false) : w.cell? ⟨bx,0,none⟩ = some v0 := by
 obtain ⟨-,-,c0,c1,hb,-,-,h5,-,h7,-⟩ := h
 have : c0 = v0 := h5 (by
  cases l17
  ·rfl
  ·obtain ⟨e1, e2⟩ := h7 rfl
   rcases hl with hl | hl | hl
   ·rw [e1] at hl;cases hl
   ·rw [e2] at hl;cases hl
   ·exact hl)
 rw [← this]
 exact cell_of_block hb 0 _ rfl
theorem RuJ.at1 (h : RuJ B bx v0 v1 ra rb xs0 xs1 l4 l8 l11 l15 l17 l19 w) (hl : l11 = false ∨ l15 = false ∨ l19 = false) : w.cell? ⟨bx,1,none⟩ = some v1 := by
 obtain ⟨-,-,c0,c1,hb,-,-,-,h6,-,h8⟩ := h
 have : c1 = v1 := h6 (by
  cases l19
  ·rfl
  ·obtain ⟨e1, e2⟩ := h8 rfl
   rcases hl with hl | hl | hl
   ·rw [e1] at hl;cases hl
   ·rw [e2] at hl;cases hl
   ·exact hl)
 rw [← this]
 exact cell_of_block hb 1 _ rfl
theorem RuJ.app0 (h : RuJ B bx v0 v1 ra rb xs0 xs1 l4 l8 l11 l15 l17 l19 w) (hg : w.grownBy w' v0.ownBlock) (hN : ∀ g,v0.ownBlock = some g → NoL w g)
 (hs : ∀ (b : Nat) (cs : Array Value) (T : TypeId),w.heap[b]? = some (.cells cs T (0,0)) → cs.size < 12 → w'.heap[b]? = some (.cells cs T (0,0))) (hap : ∀ g,v0.ownBlock = some g → v1.ownBlock ≠ some g) : RuJ B bx v0 v1 ra rb xs0 xs1 l4 true l11 l15 l17 l19 w' := by
 obtain ⟨h1,h2,c0,c1,hb,s0,s1,h5,h6,h7,h8⟩ := h
 exact ⟨fun e => by (cases e),fun e => (h2 e).apart hg hN (fun g hg' e' => hap g e' hg'),c0,c1,hs _ _ _ hb (by simp),s0,s1,h5,h6,fun e => ⟨(h7 e).1,rfl⟩,h8⟩
theorem RuJ.app1 (h : RuJ B bx v0 v1 ra rb xs0 xs1 l4 l8 l11 l15 l17 l19 w) (hg : w.grownBy w' v1.ownBlock) (hN : ∀ g,v1.ownBlock = some g → NoL w g)
 (hs : ∀ (b : Nat) (cs : Array Value) (T : TypeId),w.heap[b]? = some (.cells cs T (0,0)) → cs.size < 12 → w'.heap[b]? = some (.cells cs T (0,0))) (hap : ∀ g,v0.ownBlock = some g → v1.ownBlock ≠ some g) : RuJ B bx v0 v1 ra rb xs0 xs1 l4 l8 l11 true l17 l19 w' := by
 obtain ⟨h1,h2,c0,c1,hb,s0,s1,h5,h6,h7,h8⟩ := h
 exact ⟨fun e => (h1 e).apart hg hN (fun g hg' e' => hap g hg' e'),fun e => by (cases e),c0,c1,hs _ _ _ hb (by simp),s0,s1,h5,h6,h7,fun e => ⟨(h8 e).1,rfl⟩⟩
theorem RuJ.box (h : RuJ B bx v0 v1 ra rb xs0 xs1 l4 l8 l11 l15 l17 l19 w) : ∃ c0 c1,w.heap[bx]? = some (.cells #[c0,c1] 33 (0,0)) ∧ SlC c0 ∧ SlC c1 := by
 obtain ⟨-,-,c0,c1,hb,s0,s1,-⟩ := h
 exact ⟨c0,c1,hb,s0,s1⟩
theorem OwnI.setx {v : Value} {l : List RawI} {xs : List Value} {i : Nat} {T : TypeId} {c0 c1 x u : Value} (h : OwnI w B v l xs) (hlt : bx < B) (hb : w.heap[bx]? = some (.cells #[c0,c1] T (0,0))) (hx : #[c0,c1][i]? = some x) (hn : NoLimb x) : OwnI (w.setCell ⟨bx,i,none⟩ u) B v l xs := by
 have k : KB w [bx] (w.setCell ⟨bx,i,none⟩ u) := (KB.refl w [bx]).setCell (by simp) (cell_of_block hb i _ hx) hn u
 obtain ⟨h1,h2,h3,h4,h5⟩ := h
 have blk : ∀ g o,B ≤ g → w.heap[g]? = some o → (w.setCell ⟨bx,i,none⟩ u).heap[g]? = some o := fun g o hg ho => (Below.heap_setCell _ _ _ _ (show g ≠ bx by omega)).trans ho
 refine ⟨⟨h1.1,?_⟩,h2,h3,?_,?_⟩
 ·rcases h1.2 with hn | ⟨g2, cap, cr, e, hb2, hg2, rest⟩
  ·exact .inl hn
  ·exact .inr ⟨g2,cap,cr,e,hb2,blk _ _ hb2 hg2,rest⟩
 ·intro g2 hg2
  obtain ⟨cr,e,q1,q2⟩ := h4 g2 hg2
  refine ⟨cr,e,blk _ _ ?_ q1,q2⟩
  rcases h1.2 with ⟨rfl,-⟩ | ⟨g3,cap,cr',rfl,hb2,-⟩
  ·simp [Value.ownBlock] at hg2
  ·obtain rfl : g3 = g2 := by simpa [Value.ownBlock] using hg2
   exact hb2
 ·intro i a hi
  obtain ⟨p0,p1,p2,p3,p4,p5,s0,s1,s2,s3,s4,s5,hI⟩ := h5 i a hi
  exact ⟨p0,p1,p2,p3,p4,p5,s0,s1,s2,s3,s4,s5,hI.kb k⟩
theorem RuJ.set0 {v : Value} (h : RuJ B bx v0 v1 ra rb xs0 xs1 l4 l8 l11 l15 l17 l19 w) (hlt : bx < B) (e4 : l4 = true) (e8 : l8 = true) (hv : SlC v) : RuJ B bx v0 v1 ra rb xs0 xs1 l4 l8 l11 l15 true l19 (w.setCell ⟨bx,0,none⟩ v) := by
 obtain ⟨h1,h2,c0,c1,hb,s0,s1,h5,h6,h7,h8⟩ := h
 refine ⟨fun e => (by rw [e8] at e;cases e),fun e => (h2 e).setx hlt hb (i := 0) rfl s0.nl,v,c1,?_,hv,s1,fun e => (by cases e),h6,fun _ => ⟨e4,e8⟩,h8⟩
 have := block_setCell (i := 0) hb v
 simpa using this
theorem RuJ.set1 {v : Value} (h : RuJ B bx v0 v1 ra rb xs0 xs1 l4 l8 l11 l15 l17 l19 w) (hlt : bx < B) (e11 : l11 = true) (e15 : l15 = true) (hv : SlC v) : RuJ B bx v0 v1 ra rb xs0 xs1 l4 l8 l11 l15 l17 true (w.setCell ⟨bx,1,none⟩ v) := by
 obtain ⟨h1,h2,c0,c1,hb,s0,s1,h5,h6,h7,h8⟩ := h
 refine ⟨fun e => (h1 e).setx hlt hb (i := 1) rfl s1.nl,fun e => (by rw [e15] at e;cases e),c0,v,?_,s0,hv,h5,fun e => (by cases e),h7,fun _ => ⟨e11,e15⟩⟩
 have := block_setCell (i := 1) hb v
 simpa using this
end
def RuV (B hs : Nat) (v0 : Value) (l : List RawI) (v : Value) (w : World) : Prop := ∃ xs g,OwnI w B v l xs ∧ v.ownBlock = some g ∧ (v0.ownBlock = some g ∨ hs ≤ g) ∧ g < w.heap.size
theorem RuV.kept {B hs : Nat} {v0 v : Value} {l : List RawI} {w w' : World} (h : RuV B hs v0 l v w) (k : Kept w w') : RuV B hs v0 l v w' := by
 obtain ⟨xs,g,h1,h2,h3,h4⟩ := h
 exact ⟨xs,g,h1.kept k,h2,h3,Nat.lt_of_lt_of_le h4 k.size⟩
theorem RuV.app {B hs : Nat} {v0 v1 v : Value} {l : List RawI} {w w' : World} (h : RuV B hs v1 l v w) (hg : w.grownBy w' v0.ownBlock) (hN : ∀ g,v0.ownBlock = some g → NoL w g) (hap : ∀ g,v0.ownBlock = some g → v1.ownBlock ≠ some g) (hlt : ∀ g,v0.ownBlock = some g → g < hs) : RuV B hs v1 l v w' := by
 obtain ⟨xs,g,h1,h2,h3,h4⟩ := h
 refine ⟨xs,g,h1.apart hg hN (fun g' hg' e => ?_),h2,h3,Nat.lt_of_lt_of_le h4 hg.size⟩
 rw [h2] at hg'
 injection hg' with hg'
 subst hg'
 rcases h3 with h3 | h3
 ·exact hap _ e h3
 ·have := hlt _ e;omega
theorem RuV.setx {B hs bx : Nat} {v0 v : Value} {l : List RawI} {w : World} {i : Nat} {T : TypeId} {c0 c1 x u : Value} (h : RuV B hs v0 l v w) (hlt : bx < B) (hb : w.heap[bx]? = some (.cells #[c0,c1] T (0,0))) (hx : #[c0,c1][i]? = some x) (hn : NoLimb x) : RuV B hs v0 l v (w.setCell ⟨bx,i,none⟩ u) := by
 obtain ⟨xs,g,h1,h2,h3,h4⟩ := h
 exact ⟨xs,g,h1.setx hlt hb hx hn,h2,h3,by simpa [World.setCell] using h4⟩
theorem OneI.setx {w : World} {v : Value} {r : RawI} {bx i : Nat} {T : TypeId} {c0 c1 x u : Value} (h : OneI w v r) (hb : w.heap[bx]? = some (.cells #[c0,c1] T (0,0))) (hx : #[c0,c1][i]? = some x) (hn : NoLimb x) : OneI (w.setCell ⟨bx,i,none⟩ u) v r := by
 have k : KB w [bx] (w.setCell ⟨bx,i,none⟩ u) := (KB.refl w [bx]).setCell (by simp) (cell_of_block hb i _ hx) hn u
 obtain ⟨b,x',y,z,x'',y',z',e,h1,h2⟩ := h
 refine ⟨b,x',y,z,x'',y',z',e,h1.kb k ?_,h2.kb k⟩
 intro hm
 simp only [List.mem_singleton] at hm
 subst hm
 unfold BlkI at h1
 rw [h1] at hb
 simp at hb
def RuG (bx : Nat) (L : Nat → Bool) (u : Nat → Value) (w : World) : Prop :=
 (L 8 = true → L 15 = true → ∀ g,(u 8).ownBlock = some g → (u 15).ownBlock ≠ some g) ∧ (L 17 = true → w.cell? ⟨bx,0,none⟩ = some (u 8)) ∧ (L 19 = true → w.cell? ⟨bx,1,none⟩ = some (u 15))
theorem RuG.keep {bx i : Nat} {L : Nat → Bool} {u : Nat → Value} {v : Value} {w w' : World} (hE : (i == 8 || i == 15 || i == 17 || i == 19) = false) (k : Kept w w') (h : RuG bx L u w) : RuG bx (upd L i true) (upd u i v) w' := by
 simp only [Bool.or_eq_false_iff,beq_eq_false_iff_ne,ne_eq] at hE
 obtain ⟨⟨⟨h8,h15⟩,h17⟩,h19⟩ := hE
 obtain ⟨g1,g2,g3⟩ := h
 have e8 : (8 : Nat) ≠ i := fun e => h8 e.symm
 have e15 : (15 : Nat) ≠ i := fun e => h15 e.symm
 have e17 : (17 : Nat) ≠ i := fun e => h17 e.symm
 have e19 : (19 : Nat) ≠ i := fun e => h19 e.symm
 unfold RuG
 simp only [upd,e8,e15,e17,e19,if_false]
 exact ⟨g1,fun e => (k.cell (p := ⟨bx,0,none⟩) (lt_of_cell (g2 e))).trans (g2 e),fun e => (k.cell (p := ⟨bx,1,none⟩) (lt_of_cell (g3 e))).trans (g3 e)⟩
theorem RuV.ne {B hs g' : Nat} {v0 v1 v x : Value} {l : List RawI} {w : World} (h : RuV B hs v1 l x w) (hob : v.ownBlock = some g') (hwh : v0.ownBlock = some g' ∨ w.heap.size ≤ g') (hap : ∀ g,v0.ownBlock = some g → v1.ownBlock ≠ some g) (hlt : ∀ g,v0.ownBlock = some g → g < hs) : ∀ g,v.ownBlock = some g → x.ownBlock ≠ some g := by
 intro g hg e
 obtain ⟨xs,gx,-,h2,h3,h4⟩ := h
 rw [hob] at hg
 injection hg with hg
 subst hg
 rw [h2] at e
 injection e with e
 subst e
 rcases hwh with hwh | hwh
 ·rcases h3 with h3 | h3
  ·exact hap _ hwh h3
  ·have := hlt _ hwh;omega
 ·omega
theorem RuG.put8 {bx : Nat} {L : Nat → Bool} {u : Nat → Value} {v : Value} {w w' : World} (h : RuG bx L u w) (h17 : L 17 = false) (hne : L 15 = true → ∀ g,v.ownBlock = some g → (u 15).ownBlock ≠ some g) (hc : ∀ x,w.cell? ⟨bx,1,none⟩ = some x → w'.cell? ⟨bx,1,none⟩ = some x) : RuG bx (upd L 8 true) (upd u 8 v) w' :=
 ⟨fun _ e => hne e,fun e => absurd (h17.symm.trans e) (by decide),fun e => hc _ (h.2.2 e)⟩
theorem RuG.put15 {bx : Nat} {L : Nat → Bool} {u : Nat → Value} {v : Value} {w w' : World} (h : RuG bx L u w) (h19 : L 19 = false) (hne : L 8 = true → ∀ g,v.ownBlock = some g → (u 8).ownBlock ≠ some g) (hc : ∀ x,w.cell? ⟨bx,0,none⟩ = some x → w'.cell? ⟨bx,0,none⟩ = some x) : RuG bx (upd L 15 true) (upd u 15 v) w' :=
 ⟨fun e _ g hg e' => hne e g e' hg,fun e => hc _ (h.2.1 e),fun e => absurd (h19.symm.trans e) (by decide)⟩
theorem RuG.put17 {bx : Nat} {L : Nat → Bool} {u : Nat → Value} {w w' : World} (h : RuG bx L u w) (hx : w'.cell? ⟨bx,0,none⟩ = some (u 8)) (hc : ∀ x,w.cell? ⟨bx,1,none⟩ = some x → w'.cell? ⟨bx,1,none⟩ = some x) : RuG bx (upd L 17 true) (upd u 17 undef) w' :=
 ⟨h.1,fun _ => hx,fun e => hc _ (h.2.2 e)⟩
theorem RuG.put19 {bx : Nat} {L : Nat → Bool} {u : Nat → Value} {w w' : World} (h : RuG bx L u w) (hx : w'.cell? ⟨bx,1,none⟩ = some (u 15)) (hc : ∀ x,w.cell? ⟨bx,0,none⟩ = some x → w'.cell? ⟨bx,0,none⟩ = some x) : RuG bx (upd L 19 true) (upd u 19 undef) w' :=
 ⟨h.1,fun e => hc _ (h.2.1 e),fun _ => hx⟩
theorem cell_ne {w : World} {b i j : Nat} {x v : Value} (hij : i ≠ j) (h : w.cell? ⟨b,j,none⟩ = some x) : (w.setCell ⟨b,i,none⟩ v).cell? ⟨b,j,none⟩ = some x := by
 rw [World.cell?_setCell_other]
 ·exact h
 ·intro e
  injection e with e1 e2
  exact hij e2
theorem cell_eq {w : World} {b i : Nat} {cs : Array Value} {T : TypeId} (h : w.heap[b]? = some (.cells cs T (0,0))) (hi : i < cs.size) (v : Value) : (w.setCell ⟨b,i,none⟩ v).cell? ⟨b,i,none⟩ = some v :=
 cell_of_block (block_setCell (i := i) h v) i v (by simp [hi])
theorem RuJ.no17 {B bx : Nat} {v0 v1 : Value} {ra rb : List RawI} {xs0 xs1 : List Value} {l4 l8 l11 l15 l17 l19 : Bool} {w : World} (h : RuJ B bx v0 v1 ra rb xs0 xs1 l4 l8 l11 l15 l17 l19 w) (e : l8 = false) : l17 = false := by
 obtain ⟨-,-,c0,c1,hb,-,-,h5,-,h7,-⟩ := h
 cases l17
 ·rfl
 ·have := (h7 rfl).2
  rw [e] at this;cases this
theorem RuJ.no19 {B bx : Nat} {v0 v1 : Value} {ra rb : List RawI} {xs0 xs1 : List Value} {l4 l8 l11 l15 l17 l19 : Bool} {w : World} (h : RuJ B bx v0 v1 ra rb xs0 xs1 l4 l8 l11 l15 l17 l19 w) (e : l15 = false) : l19 = false := by
 obtain ⟨-,-,c0,c1,hb,-,-,h5,-,h7,h8⟩ := h
 cases l19
 ·rfl
 ·have := (h8 rfl).2
  rw [e] at this;cases this
theorem RuJ.cells {B bx : Nat} {v0 v1 : Value} {ra rb : List RawI} {xs0 xs1 : List Value} {l4 l8 l11 l15 l17 l19 : Bool} {w w' : World} (h : RuJ B bx v0 v1 ra rb xs0 xs1 l4 l8 l11 l15 l17 l19 w)
 (hs : ∀ (b : Nat) (cs : Array Value) (T : TypeId),w.heap[b]? = some (.cells cs T (0,0)) → cs.size < 12 → w'.heap[b]? = some (.cells cs T (0,0))) : ∀ (i : Nat) (x : Value),w.cell? ⟨bx,i,none⟩ = some x → w'.cell? ⟨bx,i,none⟩ = some x := by
 obtain ⟨-,-,c0,c1,hb,-⟩ := h
 intro i x hx
 have hb' := hs _ _ _ hb (by simp)
 simp only [World.cell?,hb'] 
 simpa only [World.cell?,hb] using hx
theorem RuJ.own0 {B bx : Nat} {v0 v1 : Value} {ra rb : List RawI} {xs0 xs1 : List Value} {l4 l8 l11 l15 l17 l19 : Bool} {w : World} (h : RuJ B bx v0 v1 ra rb xs0 xs1 l4 l8 l11 l15 l17 l19 w) (e : l8 = false) : OwnI w B v0 ra xs0 := h.1 e
theorem RuJ.own1 {B bx : Nat} {v0 v1 : Value} {ra rb : List RawI} {xs0 xs1 : List Value} {l4 l8 l11 l15 l17 l19 : Bool} {w : World} (h : RuJ B bx v0 v1 ra rb xs0 xs1 l4 l8 l11 l15 l17 l19 w) (e : l15 = false) : OwnI w B v1 rb xs1 := h.2.1 e
theorem dy10 : (dyz 1 0).raw = ⟨false,[1],0⟩ := by
 have hl := limbs_one 1 (by decide) (by decide)
 have ht : tz 1 = 0 := tz_unique 1 0 1 rfl rfl
 have h : fitD false 1 0 = ⟨⟨false,1,0⟩,0⟩ := by
  unfold fitD
  rw [ht,if_neg (by decide),if_neg (by show ¬ 64 < (limbs 1).length;rw [hl];decide),if_neg (by decide),if_neg (by decide)]
  rfl
 have h2 : dyz 1 0 = ⟨false,1,0⟩ := congrArg Outc.v h
 rw [h2];unfold Dy.raw;rw [hl]
theorem one10 : (⟨⟨false,[1],0⟩,⟨false,[1],0⟩⟩ : RawI) = (pt (dyz 1 0)).raw := by show _ = RawI.mk (dyz 1 0).raw (dyz 1 0).raw;rw [dy10]
theorem boxTR (w : World) (k0 k1 k2 k3 k4 k5 : Value) : ∃ V,V = ((w.alloc (.cells #[.int .i64 3,.int .i64 0,.int .i64 0,.bool false,.slice none 0 0,.int .i64 0,.bool false,.slice none 0 0,.int .i64 0,.int .i64 3,.int .i64 1,.int .i64 0,.bool false,.slice none 0 0,.int .i64 0,.bool false,.slice none 0 0,.int .i64 0,.int .i64 1,.int .i64 0,.int .i64 0,k0,k1,k2,k3,k4,k5,.int .i64 8,.int .i64 0,.int .i64 2,.bool false,.slice none 0 0,.int .i64 0,.bool false,.slice none 0 0,.int .i64 0,.int .i64 11,.int .i64 0,.int .i64 0,.bool false,.slice none 0 0,.int .i64 0,.bool false,.slice none 0 0,.int .i64 0,.int .i64 8,.int .i64 0,.int .i64 0,.bool false,.slice none 0 0,.int .i64 0,.bool false,.slice none 0 0,.int .i64 0,.int .i64 9,.int .i64 0,.int .i64 1,.bool false,.slice none 0 0,.int .i64 0,.bool false,.slice none 0 0,.int .i64 0,.int .i64 8,.int .i64 6,.int .i64 1,.bool false,.slice none 0 0,.int .i64 0,.bool false,.slice none 0 0,.int .i64 0] 41)).alloc (.cells #[.int .i64 0,.int .i64 3,.int .i64 4,.int .i64 5,.int .i64 7] 3)).alloc (.cells #[.slice (some ⟨w.heap.size,0,none⟩) 8 8,.slice (some ⟨w.heap.size + 1,0,none⟩) 5 5] 27) ∧ Kept w V ∧
 V.heap[w.heap.size + 1 + 1]? = some (.cells #[.slice (some ⟨w.heap.size,0,none⟩) 8 8,.slice (some ⟨w.heap.size + 1,0,none⟩) 5 5] 27 (0,0)) ∧
 (IvR w (.agg #[k0,k1,k2,k3,k4,k5]) (pt (dyz 1 0)).raw → TpR V (.agg #[.slice (some ⟨w.heap.size,0,none⟩) 8 8,.slice (some ⟨w.heap.size + 1,0,none⟩) 5 5]) tR [0,3,4,5,7]) := by
 have st : ∀ (v : World) (n : Nat) (c : Array Value) (T : TypeId),v.heap.size = n → (v.alloc (.cells c T)).heap[n]? = some (.cells c T (0,0)) ∧ (v.alloc (.cells c T)).heap.size = n + 1 ∧ Kept v (v.alloc (.cells c T)) := by
  intro v n c T h
  subst h
  exact ⟨heap_alloc_new _ _,by simp,kept_alloc _ _⟩
 obtain ⟨p1,q1,x1⟩ := st w _ #[.int .i64 3,.int .i64 0,.int .i64 0,.bool false,.slice none 0 0,.int .i64 0,.bool false,.slice none 0 0,.int .i64 0,.int .i64 3,.int .i64 1,.int .i64 0,.bool false,.slice none 0 0,.int .i64 0,.bool false,.slice none 0 0,.int .i64 0,.int .i64 1,.int .i64 0,.int .i64 0,k0,k1,k2,k3,k4,k5,.int .i64 8,.int .i64 0,.int .i64 2,.bool false,.slice none 0 0,.int .i64 0,.bool false,.slice none 0 0,.int .i64 0,.int .i64 11,.int .i64 0,.int .i64 0,.bool false,.slice none 0 0,.int .i64 0,.bool false,.slice none 0 0,.int .i64 0,.int .i64 8,.int .i64 0,.int .i64 0,.bool false,.slice none 0 0,.int .i64 0,.bool false,.slice none 0 0,.int .i64 0,.int .i64 9,.int .i64 0,.int .i64 1,.bool false,.slice none 0 0,.int .i64 0,.bool false,.slice none 0 0,.int .i64 0,.int .i64 8,.int .i64 6,.int .i64 1,.bool false,.slice none 0 0,.int .i64 0,.bool false,.slice none 0 0,.int .i64 0] 41 rfl
 obtain ⟨p2,q2,x2⟩ := st _ _ #[.int .i64 0,.int .i64 3,.int .i64 4,.int .i64 5,.int .i64 7] 3 q1
 obtain ⟨p3,q3,x3⟩ := st _ _ #[.slice (some ⟨w.heap.size,0,none⟩) 8 8,.slice (some ⟨w.heap.size + 1,0,none⟩) 5 5] 27 q2
 refine ⟨_,rfl,(x1.trans x2).trans x3,p3,fun hK => ⟨_,_,rfl,⟨_,_,rfl,Nat.le_refl _,fun _ => ⟨w.heap.size,0,rfl,fun i l hi => ?_⟩⟩,⟨_,_,rfl,Nat.le_refl _,fun _ => ⟨w.heap.size + 1,0,rfl,fun i z hi => ?_⟩⟩⟩⟩
 ·have h := blk_kept p1 (x2.trans x3)
  have hK' := hK.kept ((x1.trans x2).trans x3)
  rcases i with _ | _ | _ | _ | _ | _ | _ | _ | i
  ·cases hi
   exact ⟨cell_of_block h 0 _ rfl,cell_of_block h 1 _ rfl,cell_of_block h 2 _ rfl,_,_,_,_,_,_,cell_of_block h 3 _ rfl,cell_of_block h 4 _ rfl,cell_of_block h 5 _ rfl,cell_of_block h 6 _ rfl,cell_of_block h 7 _ rfl,cell_of_block h 8 _ rfl,ivR_zero _⟩
  ·cases hi
   exact ⟨cell_of_block h 9 _ rfl,cell_of_block h 10 _ rfl,cell_of_block h 11 _ rfl,_,_,_,_,_,_,cell_of_block h 12 _ rfl,cell_of_block h 13 _ rfl,cell_of_block h 14 _ rfl,cell_of_block h 15 _ rfl,cell_of_block h 16 _ rfl,cell_of_block h 17 _ rfl,ivR_zero _⟩
  ·cases hi
   exact ⟨cell_of_block h 18 _ rfl,cell_of_block h 19 _ rfl,cell_of_block h 20 _ rfl,_,_,_,_,_,_,cell_of_block h 21 _ rfl,cell_of_block h 22 _ rfl,cell_of_block h 23 _ rfl,cell_of_block h 24 _ rfl,cell_of_block h 25 _ rfl,cell_of_block h 26 _ rfl,hK'⟩
  ·cases hi
   exact ⟨cell_of_block h 27 _ rfl,cell_of_block h 28 _ rfl,cell_of_block h 29 _ rfl,_,_,_,_,_,_,cell_of_block h 30 _ rfl,cell_of_block h 31 _ rfl,cell_of_block h 32 _ rfl,cell_of_block h 33 _ rfl,cell_of_block h 34 _ rfl,cell_of_block h 35 _ rfl,ivR_zero _⟩
  ·cases hi
   exact ⟨cell_of_block h 36 _ rfl,cell_of_block h 37 _ rfl,cell_of_block h 38 _ rfl,_,_,_,_,_,_,cell_of_block h 39 _ rfl,cell_of_block h 40 _ rfl,cell_of_block h 41 _ rfl,cell_of_block h 42 _ rfl,cell_of_block h 43 _ rfl,cell_of_block h 44 _ rfl,ivR_zero _⟩
  ·cases hi
   exact ⟨cell_of_block h 45 _ rfl,cell_of_block h 46 _ rfl,cell_of_block h 47 _ rfl,_,_,_,_,_,_,cell_of_block h 48 _ rfl,cell_of_block h 49 _ rfl,cell_of_block h 50 _ rfl,cell_of_block h 51 _ rfl,cell_of_block h 52 _ rfl,cell_of_block h 53 _ rfl,ivR_zero _⟩
  ·cases hi
   exact ⟨cell_of_block h 54 _ rfl,cell_of_block h 55 _ rfl,cell_of_block h 56 _ rfl,_,_,_,_,_,_,cell_of_block h 57 _ rfl,cell_of_block h 58 _ rfl,cell_of_block h 59 _ rfl,cell_of_block h 60 _ rfl,cell_of_block h 61 _ rfl,cell_of_block h 62 _ rfl,ivR_zero _⟩
  ·cases hi
   exact ⟨cell_of_block h 63 _ rfl,cell_of_block h 64 _ rfl,cell_of_block h 65 _ rfl,_,_,_,_,_,_,cell_of_block h 66 _ rfl,cell_of_block h 67 _ rfl,cell_of_block h 68 _ rfl,cell_of_block h 69 _ rfl,cell_of_block h 70 _ rfl,cell_of_block h 71 _ rfl,ivR_zero _⟩
  ·simp [tR] at hi
 ·have h := blk_kept p2 x3
  rcases i with _ | _ | _ | _ | _ | i
  ·cases hi;exact cell_of_block h 0 _ rfl
  ·cases hi;exact cell_of_block h 1 _ rfl
  ·cases hi;exact cell_of_block h 2 _ rfl
  ·cases hi;exact cell_of_block h 3 _ rfl
  ·cases hi;exact cell_of_block h 4 _ rfl
  ·simp at hi
theorem mk5 (w : World) : (Instr.makeSlice 33 (.int .i64 5) (.int .i64 5)).run Tryz.prog w = .ok (.slice (some ⟨w.heap.size,0,none⟩) 5 5) (w.alloc (.cells #[.bool false,.slice none 0 0,.int .i64 0,.bool false,.slice none 0 0,.int .i64 0,.bool false,.slice none 0 0,.int .i64 0,.bool false,.slice none 0 0,.int .i64 0,.bool false,.slice none 0 0,.int .i64 0,.bool false,.slice none 0 0,.int .i64 0,.bool false,.slice none 0 0,.int .i64 0,.bool false,.slice none 0 0,.int .i64 0,.bool false,.slice none 0 0,.int .i64 0,.bool false,.slice none 0 0,.int .i64 0] 32)) := by
 kernel_rfl
theorem ivS5 (w : World) : IvS (w.alloc (.cells #[.bool false,.slice none 0 0,.int .i64 0,.bool false,.slice none 0 0,.int .i64 0,.bool false,.slice none 0 0,.int .i64 0,.bool false,.slice none 0 0,.int .i64 0,.bool false,.slice none 0 0,.int .i64 0,.bool false,.slice none 0 0,.int .i64 0,.bool false,.slice none 0 0,.int .i64 0,.bool false,.slice none 0 0,.int .i64 0,.bool false,.slice none 0 0,.int .i64 0,.bool false,.slice none 0 0,.int .i64 0] 32)) (.slice (some ⟨w.heap.size,0,none⟩) 5 5) [rzI,rzI,rzI,rzI,rzI] := by
 have h := heap_alloc_new w (.cells #[.bool false,.slice none 0 0,.int .i64 0,.bool false,.slice none 0 0,.int .i64 0,.bool false,.slice none 0 0,.int .i64 0,.bool false,.slice none 0 0,.int .i64 0,.bool false,.slice none 0 0,.int .i64 0,.bool false,.slice none 0 0,.int .i64 0,.bool false,.slice none 0 0,.int .i64 0,.bool false,.slice none 0 0,.int .i64 0,.bool false,.slice none 0 0,.int .i64 0,.bool false,.slice none 0 0,.int .i64 0] 32)
 refine ⟨_,_,rfl,Nat.le_refl _,fun _ => ⟨w.heap.size,0,rfl,fun i a hi => ?_⟩⟩
 rcases i with _ | _ | _ | _ | _ | i
 ·cases hi;exact ⟨_,_,_,_,_,_,cell_of_block h 0 _ rfl,cell_of_block h 1 _ rfl,cell_of_block h 2 _ rfl,cell_of_block h 3 _ rfl,cell_of_block h 4 _ rfl,cell_of_block h 5 _ rfl,ivR_zero _⟩
 ·cases hi;exact ⟨_,_,_,_,_,_,cell_of_block h 6 _ rfl,cell_of_block h 7 _ rfl,cell_of_block h 8 _ rfl,cell_of_block h 9 _ rfl,cell_of_block h 10 _ rfl,cell_of_block h 11 _ rfl,ivR_zero _⟩
 ·cases hi;exact ⟨_,_,_,_,_,_,cell_of_block h 12 _ rfl,cell_of_block h 13 _ rfl,cell_of_block h 14 _ rfl,cell_of_block h 15 _ rfl,cell_of_block h 16 _ rfl,cell_of_block h 17 _ rfl,ivR_zero _⟩
 ·cases hi;exact ⟨_,_,_,_,_,_,cell_of_block h 18 _ rfl,cell_of_block h 19 _ rfl,cell_of_block h 20 _ rfl,cell_of_block h 21 _ rfl,cell_of_block h 22 _ rfl,cell_of_block h 23 _ rfl,ivR_zero _⟩
 ·cases hi;exact ⟨_,_,_,_,_,_,cell_of_block h 24 _ rfl,cell_of_block h 25 _ rfl,cell_of_block h 26 _ rfl,cell_of_block h 27 _ rfl,cell_of_block h 28 _ rfl,cell_of_block h 29 _ rfl,ivR_zero _⟩
 ·simp at hi
def SR (op : Int) : Prop := op = 6 ∨ op = 7 ∨ op = 8 ∨ op = 9 ∨ op = 11
theorem opsR : OpsC SR :=
 ⟨fun _ _ _ _ _ _ _ => Add_k,fun _ _ _ _ _ _ _ => Sub_k,fun _ _ _ _ _ _ _ => Mul_k,fun _ _ _ _ _ _ _ => Div_k,fun h => absurd h (by unfold SR;decide),fun _ _ _ _ _ => Sqr_k,fun h => absurd h (by unfold SR;decide)⟩
theorem linC_R {ov : Iv → Nat → Outc Iv} {p : Nat} {a b : Nat → Int} {t : List RawI} (p1 : 1 ≤ p) (p2 : p ≤ 300) (ha : ∀ i,(a i).natAbs ≤ 16) (hb : ∀ i,(b i).natAbs ≤ 16) : ∀ i l,tR[i]? = some l → LinC true ov p 4 t [rowE a,rowE b] [] i l := by
 have gx : GdR 4 [rowE a,rowE b] := by
  intro r hr
  simp only [List.mem_cons,List.not_mem_nil,or_false] at hr
  rcases hr with rfl | rfl
  ·exact ⟨(rowE_cf ha).gd,rowE_len a⟩
  ·exact ⟨(rowE_cf hb).gd,rowE_len b⟩
 have g1 : (pt (dyz 1 0)).raw.iv.Ok ∧ (pt (dyz 1 0)).raw.iv.raw = (pt (dyz 1 0)).raw := ⟨by rw [Iv.raw_iv];exact pt_ok (dyz_ok _ _),by rw [Iv.raw_iv]⟩
 have n8 : NxC ov (fun op => op = 8) := nxC_mul opsR (.inl rfl) (.inr (.inr (.inl rfl)))
 have n11 : NxC ov (fun op => op = 11) := nxC_sqr opsR (.inl rfl) (.inr (.inr (.inl rfl))) (.inr (.inr (.inr (.inr rfl))))
 have n9 : NxC ov (fun op => op = 9) := nxC_div opsR (.inr (.inl rfl)) (.inr (.inr (.inl rfl))) (.inr (.inr (.inr (.inl rfl))))
 intro i l hl
 rcases i with _ | _ | _ | _ | _ | _ | _ | _ | i
 ·cases hl;exact linC3 rfl (j := 0) rfl (by simp) gx (by decide) p1 p2
 ·cases hl;exact linC3 rfl (j := 1) rfl (by simp) gx (by decide) p1 p2
 ·cases hl;exact linC1 rfl g1 (by decide) p1 p2
 ·cases hl;exact linC6 n8 rfl (.inl rfl) (j := 0) (m := 2) rfl rfl (by decide) (by decide) (by decide) p1 p2
 ·cases hl;exact linC6 n11 rfl (.inr (.inl rfl)) (j := 0) (m := 0) rfl rfl (by decide) (by decide) (by decide) p1 p2
 ·cases hl;exact linC6 n8 rfl (.inl rfl) (j := 0) (m := 0) rfl rfl (by decide) (by decide) (by decide) p1 p2
 ·cases hl;exact linC6 n9 rfl (.inr (.inr rfl)) (j := 0) (m := 1) rfl rfl (by decide) (by decide) (by decide) p1 p2
 ·cases hl;exact linC6 n8 rfl (.inl rfl) (j := 6) (m := 1) rfl rfl (by decide) (by decide) (by decide) p1 p2
 ·simp [tR] at hl
theorem lens_pt {z e : Int} : ((pt (dyz z e)).raw).lens 17592186044416 := iv_lens (pt_ok (dyz_ok z e))
theorem lnOk_R : LnOk tR := by
 intro l hl
 simp only [tR,List.mem_cons,List.not_mem_nil,or_false] at hl
 rcases hl with rfl | rfl | rfl | rfl | rfl | rfl | rfl | rfl
 all_goals first
  | exact ⟨by decide,by decide,by show (0 : Nat) ≤ 17592186044416;decide,by show (0 : Nat) ≤ 17592186044416;decide⟩
  | exact ⟨by decide,by decide,lens_pt.1,lens_pt.2⟩
theorem mayI_pt (z e : Int) : mayI (pt (dyz z e)).raw = true := mayI_raw (pt_ok (dyz_ok z e))
theorem mayT_R : mayT tR [0,3,4,5,7] 2 0 0 = true := by
 have e : tR = [⟨3,0,0,rzI⟩,⟨3,1,0,rzI⟩,⟨1,0,0,⟨⟨false,[1],0⟩,⟨false,[1],0⟩⟩⟩,⟨8,0,2,rzI⟩,⟨11,0,0,rzI⟩,⟨8,0,0,rzI⟩,⟨9,0,1,rzI⟩,⟨8,6,1,rzI⟩] := by
  unfold tR
  rw [← one10]
 have h : mayL ⟨1,0,0,⟨⟨false,[1],0⟩,⟨false,[1],0⟩⟩⟩ 2 2 0 0 = true := by rw [one10,mayL1,mayI_pt];rfl
 rw [e]
 unfold mayT
 simp only [mayLs]
 rw [show ((0 + 1 + 1 : Nat) : Int) = 2 from rfl,h]
 rfl
theorem rules_c {p : Nat} {a b : Nat → Int} (p1 : 20 ≤ p) (p2 : p ≤ 80) (ha : ∀ i,(a i).natAbs ≤ 16) (hb : ∀ i,(b i).natAbs ≤ 16) (hb0 : 8 ≤ b 0) :
 ∃ r4 r5 r7, Cf (sqV (eR a)) (fun _ => 6) (fun n => 8 + 3 * n) r4 ∧ Cf (sqV (eR a)) (fun _ => 6) (fun n => 8 + 3 * n) r5 ∧ Cf (eR a) (fun _ => 500) (fun _ => 200) r7 ∧ r4.length = 5 ∧ r5.length = 5 ∧ r7.length = 5 ∧
   ∀ w vv vt vx,TpR w vv tR [0,3,4,5,7] → IvS w vt [rzI,rzI,rzI,rzI,rzI] → Rws w vx [rowE a,rowE b] → Tab w → Calls Tryz.prog 27 #[vv,vt,vx,.slice none 0 0,.int .i64 4,.int .i64 (p : Int)] w (RetLL ⟨[rowE a,rowE a,r4,r5,r7],0⟩ w) := by
 obtain ⟨r4,r5,r7,hs,c4,c5,c7,l4,l5,l7⟩ := seriesR (ov := fun _ _ => ⟨iz,0⟩) [rzI,rzI,rzI,rzI,rzI] p1 p2 ha hb hb0
 refine ⟨r4,r5,r7,c4,c5,c7,l4,l5,l7,fun w vv vt vx h1 h2 h3 hT => ?_⟩
 have hz : rzI.lens 17592186044416 := ⟨by show (0 : Nat) ≤ 17592186044416;decide,by show (0 : Nat) ≤ 17592186044416;decide⟩
 have hmz : mayI rzI = true := by rw [← iz_rawz];exact mayI_raw iz_ok
 have hrow : ∀ f : Nat → Int,(rowE f).all mayI = true := fun f => by
  rw [List.all_eq_true]
  intro x hx
  unfold rowE at hx
  obtain ⟨i,-,rfl⟩ := List.mem_map.1 hx
  exact mayI_pt _ _
 have hlen : ∀ f : Nat → Int,∀ x ∈ rowE f,x.lens 17592186044416 := fun f x hx => by
  unfold rowE at hx
  obtain ⟨i,-,rfl⟩ := List.mem_map.1 hx
  exact lens_pt
 exact series_good (ov := fun _ _ => ⟨iz,0⟩) (k := 4) (tm := true) h1 h2 h3 lnOk_R (by decide) (by decide) (by
  intro n hn
  simp only [List.mem_cons,List.not_mem_nil,or_false] at hn
  show 0 ≤ n ∧ n < 8
  omega)
  (by unfold withinJ;simp only [Bool.and_eq_true,decide_eq_true_eq];omega) mayT_R (by simp [fullJ,hmz]) (by simp [fullJ,rowE_len,hrow]) ⟨by decide,fun x hx => by
    simp only [List.mem_cons,List.not_mem_nil,or_false,or_self] at hx
    subst hx
    exact hz⟩ ⟨by simp,fun r hr => by
    simp only [List.mem_cons,List.not_mem_nil,or_false] at hr
    rcases hr with rfl | rfl
    ·exact ⟨by rw [rowE_len];decide,hlen a⟩
    ·exact ⟨by rw [rowE_len];decide,hlen b⟩⟩ (linC_R (by omega) (by omega) ha hb) hT hs
end Go.Proofs.YtgododcbmkpbjaaGreatDoor
