/- Contracts of package tape, first part: below, parts, mayLine. -/
import Derived.Test.YtgododcbmkpbjaaGreatDoorClaimJrulp18
import Derived.Test.YtgododcbmkpbjaaGreatDoorClaimJrulp22
import Derived.Test.YtgododcbmkpbjaaGreatDoorClaimJrulp32
import Derived.Maps.OwnSet
set_option maxRecDepth 100000
set_option maxHeartbeats 16000000
namespace Go.Proofs.YtgododcbmkpbjaaGreatDoor
open Go.Lib (hid)
open Go.RowKit Go.Maps
def mapD (x u p : Int) : DataW Unit := (((DataW.map []).put (.int .i64 3) (.lit (.int .i64 x))).put (.int .i64 4) (.lit (.int .i64 u))).put (.int .i64 5) (.lit (.int .i64 p))
def MapR (w : World) (v : Value) (x u p : Int) : Prop := ∃ b n,v = .map (some b) ∧ w.ownsMap Tryz.prog 3 (plainElem Tryz.prog 3) b n (mapD x u p)
def manyP (op x u p : Int) : Int := if op = 3 then x else if op = 4 then u else if op = 5 then p else 0
def isP (op : Int) : Bool := decide (op = 3) || decide (op = 4) || decide (op = 5)
theorem MapR.kept {w w' : World} {v : Value} {x u p : Int} (h : MapR w v x u p) (k : Kept w w') : MapR w' v x u p := by
 obtain ⟨b,n,rfl,h⟩ := h
 exact ⟨b,n,rfl,h.kept (row := none) ⟨k.os,k.tape,k.output,k.size,fun b hb _ => k.block b hb⟩ (by simp)⟩
theorem mapD_at (x u p op : Int) : (mapD x u p).atKey (.int .i64 op) (.lit (.int .i64 0)) = .lit (.int .i64 (manyP op x u p)) ∧ Maps.has (mapD x u p) (.int .i64 op) = isP op := by
 have e : mapD x u p = .map [(.int .i64 3,.lit (.int .i64 x)),(.int .i64 4,.lit (.int .i64 u)),(.int .i64 5,.lit (.int .i64 p))] := by rfl
 rw [e]
 unfold manyP isP
 by_cases h3 : op = 3
 ·subst h3;exact ⟨rfl,rfl⟩
 ·by_cases h4 : op = 4
  ·subst h4;exact ⟨rfl,rfl⟩
  ·by_cases h5 : op = 5
   ·subst h5;exact ⟨rfl,rfl⟩
   ·have g3 : ¬ (3 : Int) = op := fun h => h3 h.symm
    have g4 : ¬ (4 : Int) = op := fun h => h4 h.symm
    have g5 : ¬ (5 : Int) = op := fun h => h5 h.symm
    constructor
    ·rw [if_neg h3, if_neg h4, if_neg h5]
     simp [DataW.atKey,Lit.sameKey,g3,g4,g5]
    ·simp [Maps.has,Lit.sameKey,g3,g4,g5,h3,h4,h5]
theorem MapR.look {w : World} {v : Value} {x u p op : Int} (h : MapR w v x u p) (h1 : -9223372036854775808 ≤ op) (h2 : op ≤ 9223372036854775807) :
 (Instr.lookup 119 v (.int .i64 op) true).run Tryz.prog w = .ok (.tuple #[.int .i64 (manyP op x u p),.bool (isP op)]) w := by
 obtain ⟨b,n,rfl,hown⟩ := h
 have hz : (zeroValue 3).run Tryz.prog w = .ok (.int .i64 0) w := by kernel_rfl
 have hw0 : (Lit.int .i64 0).wf = true := by decide
 have hop : (Lit.int .i64 op).wf = true := WalkArith.wf_i64 ⟨h1,h2⟩
 obtain ⟨v,ps,hrun,hv⟩ := hown.look_ok (int_keyed Tryz.underlying3) Tryz.underlying119 hz (plainElem_int Tryz.underlying3 hw0) (keyOf_int_mk Tryz.underlying3 hop)
 obtain ⟨c,rfl,hc,-⟩ := plainElem_int_inv Tryz.underlying3 hv
 obtain ⟨a1,a2⟩ := mapD_at x u p op
 simp only [Prod.mk.injEq] at hc
 rw [a1] at hc
 have e : c = manyP op x u p := by
  have h := hc.1
  simp only [DataW.lit.injEq,Lit.int.injEq,true_and] at h
  exact h.symm
 rw [hrun,a2,e]
theorem mapR_made (w : World) {x u p : Int} (hx1 : -9223372036854775808 ≤ x) (hx2 : x ≤ 9223372036854775807) (hu1 : -9223372036854775808 ≤ u) (hu2 : u ≤ 9223372036854775807) (hp1 : -9223372036854775808 ≤ p) (hp2 : p ≤ 9223372036854775807) :
 ∃ w1 w2 w3, (Instr.mapUpdate 119 (.map (some w.heap.size)) (.int .i64 3) (.int .i64 x)).run Tryz.prog (w.alloc (.map #[] 0)) = .ok () w1 ∧
   (Instr.mapUpdate 119 (.map (some w.heap.size)) (.int .i64 4) (.int .i64 u)).run Tryz.prog w1 = .ok () w2 ∧
   (Instr.mapUpdate 119 (.map (some w.heap.size)) (.int .i64 5) (.int .i64 p)).run Tryz.prog w2 = .ok () w3 ∧
   MapR w3 (.map (some w.heap.size)) x u p ∧ Kept w w3 := by
 have K : Keyed Tryz.prog 3 := int_keyed Tryz.underlying3
 have o0 := World.ownsMap_made (H := Unit) w Tryz.prog 3 (plainElem Tryz.prog 3)
 obtain ⟨w1,r1,o1,g1⟩ := o0.update K Tryz.underlying119 (by unfold maxLen;decide) (keyOf_int_mk (a := 3) Tryz.underlying3 (by decide)) (plainElem_int Tryz.underlying3 (WalkArith.wf_i64 ⟨hx1,hx2⟩))
 obtain ⟨w2,r2,o2,g2⟩ := o1.update K Tryz.underlying119 (by unfold maxLen;decide) (keyOf_int_mk (a := 4) Tryz.underlying3 (by decide)) (plainElem_int Tryz.underlying3 (WalkArith.wf_i64 ⟨hu1,hu2⟩))
 obtain ⟨w3,r3,o3,g3⟩ := o2.update K Tryz.underlying119 (by unfold maxLen;decide) (keyOf_int_mk (a := 5) Tryz.underlying3 (by decide)) (plainElem_int Tryz.underlying3 (WalkArith.wf_i64 ⟨hp1,hp2⟩))
 refine ⟨w1,w2,w3,r1,r2,r3,⟨_,_,rfl,o3⟩,?_⟩
 have k0 := kept_alloc w (.map #[] 0)
 have st : ∀ a b : World,Kept w a → a.grownBy b (some w.heap.size) → Kept w b := fun a b k g =>
  ⟨g.os.trans k.os,g.tape.trans k.tape,g.output.trans k.output,Nat.le_trans k.size g.size,fun i hi => (g.block i (Nat.lt_of_lt_of_le hi k.size) (by intro h;injection h with h;omega)).trans (k.block i hi)⟩
 exact st _ _ (st _ _ (st _ _ k0 g1) g2) g3
theorem below_c (n m : Int) (w : World) : Calls Tryz.prog 71 #[.int .i64 n,.int .i64 m] w (RetK (.bool (belowP n m)) w) := by
 by_cases h : 0 ≤ n
 ·have h1 : decide (0 ≤ n) = true := by simp [h]
  have e : belowP n m = decide (n < m) := by unfold belowP;rw [h1,Bool.true_and]
  rw [e]
  go_enter Tryz.func71,Tryz.ntmps71
  go_wp2
  go_ret
  exact ⟨rfl,Below.refl _ _⟩
 ·have h1 : decide (0 ≤ n) = false := by simp; omega
  have e : belowP n m = false := by unfold belowP;rw [h1,Bool.false_and]
  rw [e]
  go_enter Tryz.func71,Tryz.ntmps71
  go_wp2
  go_ret
  exact ⟨rfl,Below.refl _ _⟩
theorem parts_c (n : Int) (w : World) : Calls Tryz.prog 72 #[.int .i64 n] w (RetK (.int .i64 (partsP n)) w) := by
 have lit : ∀ m : Int,n ≠ m → (n == m) = false := fun m h => by simp [h]
 by_cases h1 : n = 1
 ·subst h1;clear lit;go_enter Tryz.func72,Tryz.ntmps72;go_wp2;go_ret;exact ⟨rfl,Below.refl _ _⟩
 by_cases h2 : n = 2
 ·subst h2;clear lit;go_enter Tryz.func72,Tryz.ntmps72;go_wp2;go_ret;exact ⟨rfl,Below.refl _ _⟩
 by_cases h3 : n = 3
 ·subst h3;clear lit;go_enter Tryz.func72,Tryz.ntmps72;go_wp2;go_ret;exact ⟨rfl,Below.refl _ _⟩
 by_cases h4 : n = 4
 ·subst h4;clear lit;go_enter Tryz.func72,Tryz.ntmps72;go_wp2;go_ret;exact ⟨rfl,Below.refl _ _⟩
 by_cases h5 : n = 5
 ·subst h5;clear lit;go_enter Tryz.func72,Tryz.ntmps72;go_wp2;go_ret;exact ⟨rfl,Below.refl _ _⟩
 by_cases h6 : n = 6
 ·subst h6;clear lit;go_enter Tryz.func72,Tryz.ntmps72;go_wp2;go_ret;exact ⟨rfl,Below.refl _ _⟩
 by_cases h7 : n = 7
 ·subst h7;clear lit;go_enter Tryz.func72,Tryz.ntmps72;go_wp2;go_ret;exact ⟨rfl,Below.refl _ _⟩
 by_cases h8 : n = 8
 ·subst h8;clear lit;go_enter Tryz.func72,Tryz.ntmps72;go_wp2;go_ret;exact ⟨rfl,Below.refl _ _⟩
 by_cases h9 : n = 9
 ·subst h9;clear lit;go_enter Tryz.func72,Tryz.ntmps72;go_wp2;go_ret;exact ⟨rfl,Below.refl _ _⟩
 by_cases h10 : n = 10
 ·subst h10;clear lit;go_enter Tryz.func72,Tryz.ntmps72;go_wp2;go_ret;exact ⟨rfl,Below.refl _ _⟩
 by_cases h11 : n = 11
 ·subst h11;clear lit;go_enter Tryz.func72,Tryz.ntmps72;go_wp2;go_ret;exact ⟨rfl,Below.refl _ _⟩
 by_cases h12 : n = 12
 ·subst h12;clear lit;go_enter Tryz.func72,Tryz.ntmps72;go_wp2;go_ret;exact ⟨rfl,Below.refl _ _⟩
 by_cases h13 : n = 13
 ·subst h13;clear lit;go_enter Tryz.func72,Tryz.ntmps72;go_wp2;go_ret;exact ⟨rfl,Below.refl _ _⟩
 have e : partsP n = -1 := by unfold partsP;simp [h1,h2,h3,h4,h5,h6,h7,h8,h9,h10,h11,h12,h13]
 rw [e]
 replace h1 := lit _ h1
 replace h2 := lit _ h2
 replace h3 := lit _ h3
 replace h4 := lit _ h4
 replace h5 := lit _ h5
 replace h6 := lit _ h6
 replace h7 := lit _ h7
 replace h8 := lit _ h8
 replace h9 := lit _ h9
 replace h10 := lit _ h10
 replace h11 := lit _ h11
 replace h12 := lit _ h12
 replace h13 := lit _ h13
 clear e lit
 go_enter Tryz.func72,Tryz.ntmps72
 go_wp2
 go_ret
 exact ⟨rfl,Below.refl _ _⟩
theorem boxL (w : World) (o a b k0 k1 k2 k3 k4 k5 : Value) : ∃ W,W = w.alloc (.cells #[o,a,b,k0,k1,k2,k3,k4,k5] 41) ∧ Kept w W ∧ W.heap[w.heap.size]? = some (.cells #[o,a,b,k0,k1,k2,k3,k4,k5] 41 (0,0)) ∧ w.heap.size < W.heap.size :=
 ⟨_,rfl,kept_alloc _ _,heap_alloc_new _ _,by simp⟩
theorem ln_cells {w : World} {b : Nat} {x0 x1 x2 x3 x4 x5 x6 x7 x8 : Value} {T : TypeId} (h : w.heap[b]? = some (.cells #[x0,x1,x2,x3,x4,x5,x6,x7,x8] T (0,0))) : w.cell? ⟨b,0,none⟩ = some x0 ∧ w.cell? ⟨b,1,none⟩ = some x1 ∧ w.cell? ⟨b,2,none⟩ = some x2 ∧
 w.cell? ⟨b,3,none⟩ = some x3 ∧ w.cell? ⟨b,4,none⟩ = some x4 ∧ w.cell? ⟨b,5,none⟩ = some x5 ∧ w.cell? ⟨b,6,none⟩ = some x6 ∧ w.cell? ⟨b,7,none⟩ = some x7 ∧ w.cell? ⟨b,8,none⟩ = some x8 :=
 ⟨cell_of_block h 0 _ rfl,cell_of_block h 1 _ rfl,cell_of_block h 2 _ rfl,cell_of_block h 3 _ rfl,cell_of_block h 4 _ rfl,cell_of_block h 5 _ rfl,cell_of_block h 6 _ rfl,cell_of_block h 7 _ rfl,cell_of_block h 8 _ rfl⟩
theorem mayL1 (a b i x u p : Int) (k : RawI) : mayL ⟨1,a,b,k⟩ i x u p = (mayI k && (a == 0) && (b == 0)) := by
 unfold mayL;rw [if_pos rfl,Bool.and_assoc];rfl
theorem mayL_same {op a b i x u p : Int} {k : RawI} (h1 : op ≠ 1) (h : sameI k rzI = false) : mayL ⟨op,a,b,k⟩ i x u p = false := by
 unfold mayL;rw [if_neg h1,if_pos h]
theorem mayL_rest {op a b i x u p : Int} {k : RawI} (h1 : op ≠ 1) (h : sameI k rzI = true) : mayL ⟨op,a,b,k⟩ i x u p =
 if op = 2 then (a == 0) && (b == 0) else if isP op = true then belowP a (manyP op x u p) && (b == 0) else if partsP op = 2 then belowP a i && belowP b i else if partsP op = 1 then belowP a i && (b == 0) else false := by
 unfold mayL
 simp only []
 rw [if_neg h1,if_neg (by rw [h];decide)]
 by_cases h2 : op = 2
 ·rw [if_pos h2,if_pos h2];rfl
 ·rw [if_neg h2, if_neg h2]
  by_cases h3 : op = 3
  ·subst h3;rfl
  ·rw [if_neg h3]
   by_cases h4 : op = 4
   ·subst h4;rfl
   ·rw [if_neg h4]
    by_cases h5 : op = 5
    ·subst h5;rfl
    ·rw [if_neg h5]
     have e : isP op = false := by unfold isP;simp [h3,h4,h5]
     rw [e]
     simp only [Bool.false_eq_true,if_false]
     have d0 : ¬ (op = 1 ∨ op = 2 ∨ op = 3 ∨ op = 4 ∨ op = 5) := by omega
     unfold partsP
     rw [if_neg d0]
     by_cases h6 : op = 6 ∨ op = 7 ∨ op = 8 ∨ op = 9
     ·rw [if_pos h6,if_pos h6,if_pos rfl]
     ·rw [if_neg h6, if_neg h6]
      by_cases h10 : op = 10 ∨ op = 11 ∨ op = 12 ∨ op = 13
      ·rw [if_pos h10,if_pos h10,if_neg (by decide),if_pos rfl];rfl
      ·rw [if_neg h10,if_neg h10,if_neg (by decide),if_neg (by decide)]
theorem mayLine_c {w : World} {op a b i x u p : Int} {k : RawI} {z0 z1 z2 z3 z4 z5 m : Value} (hk : IvR w (.agg #[z0,z1,z2,z3,z4,z5]) k) (hl : k.lens 17592186044416) (hm : MapR w m x u p)
 (o1 : -9223372036854775808 ≤ op) (o2 : op ≤ 9223372036854775807) :
 Calls Tryz.prog 96 #[.agg #[.int .i64 op,.int .i64 a,.int .i64 b,z0,z1,z2,z3,z4,z5],.int .i64 i,m] w (RetK (.bool (mayL ⟨op,a,b,k⟩ i x u p)) w) := by
 have MK := hid (fun w1 (q : Kept w w1) => imay_c (hk.kept q) hl)
 have MS := hid (fun w1 (q : Kept w w1) => isame_c (hk.kept q) (ivR_zero w1) hl)
 have ML := hid (fun w1 (q : Kept w w1) => (hm.kept q).look o1 o2)
 obtain ⟨bm,n,rfl,-⟩ := hm
 obtain ⟨W,hW,kW,BL,lW⟩ := boxL w (.int .i64 op) (.int .i64 a) (.int .i64 b) z0 z1 z2 z3 z4 z5
 have HW := hid hW
 have K := hid kW
 have HB := hid BL
 clear hk hl o1 o2 hW kW BL
 obtain ⟨fa,hfa⟩ : ∃ f,(a == 0) = f := ⟨_,rfl⟩
 obtain ⟨fb,hfb⟩ : ∃ f,(b == 0) = f := ⟨_,rfl⟩
 by_cases h1 : op = 1
 ·subst h1
  rw [mayL1,hfa,hfb]
  obtain ⟨mk,hmk⟩ : ∃ f,mayI k = f := ⟨_,rfl⟩
  rw [hmk] at MK ⊢
  have FA := hid hfa
  have FB := hid hfb
  clear hmk hfa hfb MS ML
  go_enter Tryz.func96,Tryz.ntmps96
  go_upto_region 1 with fail
  rw [← HW.out]
  obtain ⟨c0,c1,c2,c3,c4,c5,c6,c7,c8⟩ := ln_cells HB.out
  go_upto_region 2 with fail
  clear c0 c1 c2 c3 c4 c5 c6 c7 c8
  refine region_seq (m := 14) (V := VL [(vP w.heap.size 3),(vE (.agg #[z0,z1,z2,z3,z4,z5])),(vE (.bool mk)),(vE (.bool mk)),(fun v wv => (mk = true → (fun v _ => v = (.pointer (some ⟨w.heap.size,1,none⟩))) v wv) ∧ (mk = false → v = undef)),(fun v wv => (mk = true → (fun v _ => v = (.int .i64 a)) v wv) ∧ (mk = false → v = undef)),(fun v wv => (mk = true → (fun v _ => v = (.bool fa)) v wv) ∧ (mk = false → v = undef)),(vE (.bool (mk && fa))),(vE (.bool (mk && fa))),(fun v wv => ((mk && fa) = true → (fun v _ => v = (.pointer (some ⟨w.heap.size,2,none⟩))) v wv) ∧ ((mk && fa) = false → v = undef)),(fun v wv => ((mk && fa) = true → (fun v _ => v = (.int .i64 b)) v wv) ∧ ((mk && fa) = false → v = undef)),(fun v wv => ((mk && fa) = true → (fun v _ => v = (.bool fb)) v wv) ∧ ((mk && fa) = false → v = undef)),(vE (.bool (mk && fa && fb))),(vE (.bool (mk && fa && fb)))])
   rfl (by kernel_rfl) (by kernel_rfl) (by kernel_rfl) (mono_of _ ⟨mE,mE,mE,mE,fun v w w' k h => ⟨fun hC => (fun v w w' k h => by first | exact h | exact h.kept k | exact ⟨h.1,h.2.kept k⟩) v w w' k (h.1 hC),h.2⟩,fun v w w' k h => ⟨fun hC => (fun v w w' k h => by first | exact h | exact h.kept k | exact ⟨h.1,h.2.kept k⟩) v w w' k (h.1 hC),h.2⟩,fun v w w' k h => ⟨fun hC => (fun v w w' k h => by first | exact h | exact h.kept k | exact ⟨h.1,h.2.kept k⟩) v w w' k (h.1 hC),h.2⟩,mE,mE,fun v w w' k h => ⟨fun hC => (fun v w w' k h => by first | exact h | exact h.kept k | exact ⟨h.1,h.2.kept k⟩) v w w' k (h.1 hC),h.2⟩,fun v w w' k h => ⟨fun hC => (fun v w w' k h => by first | exact h | exact h.kept k | exact ⟨h.1,h.2.kept k⟩) v w w' k (h.1 hC),h.2⟩,fun v w w' k h => ⟨fun hC => (fun v w w' k h => by first | exact h | exact h.kept k | exact ⟨h.1,h.2.kept k⟩) v w w' k (h.1 hC),h.2⟩,mE,mE,trivial⟩) (steps_of ⟨
    (fun aF wF F => by have s3 : aF.tmps.getD 3 undef = (.pointer (some ⟨w.heap.size,0,none⟩)) := F.o 3;exact sv rfl),(fun aF wF F => by have s13 := F.v 0 13;have c0 := cell_at HB.out F.kept 3 _ rfl;have c1 := cell_at HB.out F.kept 4 _ rfl;have c2 := cell_at HB.out F.kept 5 _ rfl;have c3 := cell_at HB.out F.kept 6 _ rfl;have c4 := cell_at HB.out F.kept 7 _ rfl;have c5 := cell_at HB.out F.kept 8 _ rfl;exact sv rfl),(fun aF wF F => by have s14 := F.v 1 14;exact sK (MK.out _ (K.out.trans F.kept)) fun _ _ h => h),(fun aF wF F => by have s15 := F.v 2 15;exact sv rfl),
    (fun aF wF F => by
   have sg := F.v 3 16
   have s3 : aF.tmps.getD 3 undef = (.pointer (some ⟨w.heap.size,0,none⟩)) := F.o 3
   rcases bools mk with hC | hC
   ·refine step_imp (V1 := fun _ => (fun v _ => v = (.pointer (some ⟨w.heap.size, 1, none⟩)))) ?_ (fun _ _ h => ⟨fun _ => h, fun hN => absurd (hC.symm.trans hN) (by decide)⟩)
    exact step_val ((wanted_guard rfl rfl sg).trans (by first | rfl | simp [hC])) (by go_simp) rfl
   ·exact step_out ((wanted_guard rfl rfl sg).trans (by first | rfl | simp [hC])) ⟨fun h => absurd (hC.symm.trans h) (by decide), fun _ => rfl⟩),
    (fun aF wF F => by
   have sg := F.v 3 16
   have s17 : (mk = true → aF.tmps.getD 17 undef = (.pointer (some ⟨w.heap.size,1,none⟩))) ∧ (mk = false → aF.tmps.getD 17 undef = undef) := F.done 4 17 (by kernel_rfl) rfl
   have c0 := cell_at HB.out F.kept 1 _ rfl
   rcases bools mk with hC | hC
   ·refine step_imp (V1 := fun _ => (fun v _ => v = (.int .i64 a))) ?_ (fun _ _ h => ⟨fun _ => h, fun hN => absurd (hC.symm.trans hN) (by decide)⟩)
    replace s17 := s17.1 hC
    exact step_val ((wanted_guard rfl rfl sg).trans (by first | rfl | simp [hC])) (by go_simp) rfl
   ·exact step_out ((wanted_guard rfl rfl sg).trans (by first | rfl | simp [hC])) ⟨fun h => absurd (hC.symm.trans h) (by decide), fun _ => rfl⟩),
    (fun aF wF F => by
   have sg := F.v 3 16
   have s18 : (mk = true → aF.tmps.getD 18 undef = (.int .i64 a)) ∧ (mk = false → aF.tmps.getD 18 undef = undef) := F.done 5 18 (by kernel_rfl) rfl
   rcases bools mk with hC | hC
   ·refine step_imp (V1 := fun _ => (fun v _ => v = (.bool fa))) ?_ (fun _ _ h => ⟨fun _ => h, fun hN => absurd (hC.symm.trans hN) (by decide)⟩)
    replace s18 := s18.1 hC
    exact step_val ((wanted_guard rfl rfl sg).trans (by first | rfl | simp [hC])) (by (go_simp;exact FA.out)) rfl
   ·exact step_out ((wanted_guard rfl rfl sg).trans (by first | rfl | simp [hC])) ⟨fun h => absurd (hC.symm.trans h) (by decide), fun _ => rfl⟩),
    (fun aF wF F => by
   have s16 := F.v 3 16
   have s19 : (mk = true → aF.tmps.getD 19 undef = (.bool fa)) ∧ (mk = false → aF.tmps.getD 19 undef = undef) := F.done 6 19 (by kernel_rfl) rfl
   rcases bools mk with hE | hE
   ·replace s19 := s19.1 hE
    exact sw (by first | (go_simp;done) | (go_simp;simp_all;done) | (simp_all;done)) rfl
   ·exact sw (by first | (go_simp; done) | (go_simp; simp_all; done) | (simp_all; done)) rfl), (fun aF wF F => by have s20 := F.v 7 20; exact sv rfl),
    (fun aF wF F => by
   have sg := F.v 8 21
   have s3 : aF.tmps.getD 3 undef = (.pointer (some ⟨w.heap.size,0,none⟩)) := F.o 3
   rcases bools (mk && fa) with hC | hC
   ·refine step_imp (V1 := fun _ => (fun v _ => v = (.pointer (some ⟨w.heap.size, 2, none⟩)))) ?_ (fun _ _ h => ⟨fun _ => h, fun hN => absurd (hC.symm.trans hN) (by decide)⟩)
    exact step_val ((wanted_guard rfl rfl sg).trans (by first | rfl | simp [hC])) (by go_simp) rfl
   ·exact step_out ((wanted_guard rfl rfl sg).trans (by first | rfl | simp [hC])) ⟨fun h => absurd (hC.symm.trans h) (by decide), fun _ => rfl⟩),
    (fun aF wF F => by
   have sg := F.v 8 21
   have s22 : ((mk && fa) = true → aF.tmps.getD 22 undef = (.pointer (some ⟨w.heap.size,2,none⟩))) ∧ ((mk && fa) = false → aF.tmps.getD 22 undef = undef) := F.done 9 22 (by kernel_rfl) rfl
   have c0 := cell_at HB.out F.kept 2 _ rfl
   rcases bools (mk && fa) with hC | hC
   ·refine step_imp (V1 := fun _ => (fun v _ => v = (.int .i64 b))) ?_ (fun _ _ h => ⟨fun _ => h, fun hN => absurd (hC.symm.trans hN) (by decide)⟩)
    replace s22 := s22.1 hC
    exact step_val ((wanted_guard rfl rfl sg).trans (by first | rfl | simp [hC])) (by go_simp) rfl
   ·exact step_out ((wanted_guard rfl rfl sg).trans (by first | rfl | simp [hC])) ⟨fun h => absurd (hC.symm.trans h) (by decide), fun _ => rfl⟩),
    (fun aF wF F => by
   have sg := F.v 8 21
   have s23 : ((mk && fa) = true → aF.tmps.getD 23 undef = (.int .i64 b)) ∧ ((mk && fa) = false → aF.tmps.getD 23 undef = undef) := F.done 10 23 (by kernel_rfl) rfl
   rcases bools (mk && fa) with hC | hC
   ·refine step_imp (V1 := fun _ => (fun v _ => v = (.bool fb))) ?_ (fun _ _ h => ⟨fun _ => h, fun hN => absurd (hC.symm.trans hN) (by decide)⟩)
    replace s23 := s23.1 hC
    exact step_val ((wanted_guard rfl rfl sg).trans (by first | rfl | simp [hC])) (by (go_simp;exact FB.out)) rfl
   ·exact step_out ((wanted_guard rfl rfl sg).trans (by first | rfl | simp [hC])) ⟨fun h => absurd (hC.symm.trans h) (by decide), fun _ => rfl⟩),
    (fun aF wF F => by
   have s21 := F.v 8 21
   have s24 : ((mk && fa) = true → aF.tmps.getD 24 undef = (.bool fb)) ∧ ((mk && fa) = false → aF.tmps.getD 24 undef = undef) := F.done 11 24 (by kernel_rfl) rfl
   rcases bools (mk && fa) with hE | hE
   ·replace s24 := s24.1 hE
    exact sw (by first | (go_simp;done) | (go_simp;simp_all;done) | (simp_all;done)) rfl
   ·exact sw (by first | (go_simp; done) | (go_simp; simp_all; done) | (simp_all; done)) rfl), (fun aF wF F => by have s25 := F.v 12 25; exact sv rfl),
    trivial⟩) ?_
  intro u w1 k1 hu
  have p17 := hp hu 4
  have p18 := hp hu 5
  have p19 := hp hu 6
  have p22 := hp hu 9
  have p23 := hp hu 10
  have p24 := hp hu 11
  simp only [puts,slotOf,if_true,Act.put,List.setIfInBounds_toArray,List.set_cons_zero,List.set_cons_succ,List.getElem?_toArray,List.getElem?_cons_zero,List.getElem?_cons_succ,Option.bind_some,hv hu 0,hv hu 1,hv hu 2,hv hu 3,hv hu 7,hv hu 8,hv hu 12,hv hu 13]
  clear hu
  generalize u 4 = v17 at *
  generalize u 5 = v18 at *
  generalize u 6 = v19 at *
  generalize u 9 = v22 at *
  generalize u 10 = v23 at *
  generalize u 11 = v24 at *
  go_wp2_with fail
  go_ret
  exact ⟨rfl,K.out.trans k1⟩
 have g1 : (op == 1) = false := by simp [h1]
 obtain ⟨fs,hfs⟩ : ∃ f,sameI k rzI = f := ⟨_,rfl⟩
 have MS2 := hid (fun w1 (q : Kept w w1) => show Calls Tryz.prog 16 _ w1 (RetK (.bool fs) w1) by rw [← hfs];exact MS.out w1 q)
 have em : mayL ⟨op,a,b,k⟩ i x u p = if fs = false then false else if op = 2 then fa && fb else if isP op = true then belowP a (manyP op x u p) && fb else if partsP op = 2 then belowP a i && belowP b i else if partsP op = 1 then belowP a i && fb else false := by
  rw [← hfs,← hfa,← hfb]
  cases hs : sameI k rzI
  ·rw [mayL_same h1 hs,if_pos rfl]
  ·rw [mayL_rest h1 hs];rfl
 have FA := hid hfa
 have FB := hid hfb
 clear hfs hfa hfb MK MS h1
 obtain ⟨ip,hip⟩ : ∃ f,isP op = f := ⟨_,rfl⟩
 obtain ⟨mm,hmm⟩ : ∃ f,manyP op x u p = f := ⟨_,rfl⟩
 obtain ⟨pp,hpp⟩ : ∃ f,partsP op = f := ⟨_,rfl⟩
 rw [hip,hmm] at ML
 rw [hip,hmm,hpp] at em
 have HP := hid (fun w1 => show Calls Tryz.prog 72 #[.int .i64 op] w1 (RetK (.int .i64 pp) w1) by rw [← hpp];exact parts_c op w1)
 clear hip hmm hpp
 cases fs
 ·rw [if_pos rfl] at em
  rw [em]
  clear em
  go_enter Tryz.func96,Tryz.ntmps96
  go_upto_region 1 with fail
  rw [← HW.out]
  obtain ⟨c0,c1,c2,c3,c4,c5,c6,c7,c8⟩ := ln_cells HB.out
  go_wp2_with fail
  refine (MS2.out _ K.out).mono ?_
  rintro e w1 ⟨rfl,q⟩
  replace K := hid (K.out.trans q)
  have hb1 := (q.block _ (Array.getElem?_eq_some_iff.1 HB.out).1).trans HB.out
  replace HB := hid hb1
  clear c0 c1 c2 c3 c4 c5 c6 c7 c8 q hb1 HW MS2
  obtain ⟨c0,c1,c2,c3,c4,c5,c6,c7,c8⟩ := ln_cells HB.out
  simp only []
  go_wp2_with fail
  go_ret
  exact ⟨rfl,K.out⟩
 rw [if_neg (by decide)] at em
 by_cases h2 : op = 2
 ·subst h2
  rw [if_pos rfl] at em
  rw [em]
  clear em
  go_enter Tryz.func96,Tryz.ntmps96
  go_upto_region 1 with fail
  rw [← HW.out]
  obtain ⟨c0,c1,c2,c3,c4,c5,c6,c7,c8⟩ := ln_cells HB.out
  go_wp2_with fail
  refine (MS2.out _ K.out).mono ?_
  rintro e w1 ⟨rfl,q⟩
  replace K := hid (K.out.trans q)
  have hb1 := (q.block _ (Array.getElem?_eq_some_iff.1 HB.out).1).trans HB.out
  replace HB := hid hb1
  clear c0 c1 c2 c3 c4 c5 c6 c7 c8 q hb1 HW MS2
  obtain ⟨c0,c1,c2,c3,c4,c5,c6,c7,c8⟩ := ln_cells HB.out
  simp only []
  have hlk := ML.out w1 K.out
  clear ML
  go_wp2_with fail
  refine (HP.out w1).mono ?_
  rintro e w2 ⟨rfl,q⟩
  replace K := hid (K.out.trans q)
  have hb1 := (q.block _ (Array.getElem?_eq_some_iff.1 HB.out).1).trans HB.out
  replace HB := hid hb1
  clear c0 c1 c2 c3 c4 c5 c6 c7 c8 q hb1 HP hlk
  obtain ⟨c0,c1,c2,c3,c4,c5,c6,c7,c8⟩ := ln_cells HB.out
  simp only []
  go_upto_region 8 with fail
  clear c0 c1 c2 c3 c4 c5 c6 c7 c8
  refine region_seq (m := 9) (V := VL [(vP w.heap.size 1),(vE (.int .i64 a)),(vE (.bool fa)),(vE (.bool fa)),(fun v wv => (fa = true → (fun v _ => v = (.pointer (some ⟨w.heap.size,2,none⟩))) v wv) ∧ (fa = false → v = undef)),(fun v wv => (fa = true → (fun v _ => v = (.int .i64 b)) v wv) ∧ (fa = false → v = undef)),(fun v wv => (fa = true → (fun v _ => v = (.bool fb)) v wv) ∧ (fa = false → v = undef)),(vE (.bool (fa && fb))),(vE (.bool (fa && fb)))])
   rfl (by kernel_rfl) (by kernel_rfl) (by kernel_rfl) (mono_of _ ⟨mE,mE,mE,mE,fun v w w' k h => ⟨fun hC => (fun v w w' k h => by first | exact h | exact h.kept k | exact ⟨h.1,h.2.kept k⟩) v w w' k (h.1 hC),h.2⟩,fun v w w' k h => ⟨fun hC => (fun v w w' k h => by first | exact h | exact h.kept k | exact ⟨h.1,h.2.kept k⟩) v w w' k (h.1 hC),h.2⟩,fun v w w' k h => ⟨fun hC => (fun v w w' k h => by first | exact h | exact h.kept k | exact ⟨h.1,h.2.kept k⟩) v w w' k (h.1 hC),h.2⟩,mE,mE,trivial⟩) (steps_of ⟨
    (fun aF wF F => by have s3 : aF.tmps.getD 3 undef = (.pointer (some ⟨w.heap.size,0,none⟩)) := F.o 3;exact sv rfl),(fun aF wF F => by have s45 := F.v 0 45;have c0 := cell_at HB.out F.kept 1 _ rfl;exact sv rfl),(fun aF wF F => by have s46 := F.v 1 46;exact sw (by (go_simp;exact FA.out)) rfl),(fun aF wF F => by have s47 := F.v 2 47;exact sv rfl),
    (fun aF wF F => by
   have sg := F.v 3 48
   have s3 : aF.tmps.getD 3 undef = (.pointer (some ⟨w.heap.size,0,none⟩)) := F.o 3
   rcases bools fa with hC | hC
   ·refine step_imp (V1 := fun _ => (fun v _ => v = (.pointer (some ⟨w.heap.size, 2, none⟩)))) ?_ (fun _ _ h => ⟨fun _ => h, fun hN => absurd (hC.symm.trans hN) (by decide)⟩)
    exact step_val ((wanted_guard rfl rfl sg).trans (by first | rfl | simp [hC])) (by go_simp) rfl
   ·exact step_out ((wanted_guard rfl rfl sg).trans (by first | rfl | simp [hC])) ⟨fun h => absurd (hC.symm.trans h) (by decide), fun _ => rfl⟩),
    (fun aF wF F => by
   have sg := F.v 3 48
   have s49 : (fa = true → aF.tmps.getD 49 undef = (.pointer (some ⟨w.heap.size,2,none⟩))) ∧ (fa = false → aF.tmps.getD 49 undef = undef) := F.done 4 49 (by kernel_rfl) rfl
   have c0 := cell_at HB.out F.kept 2 _ rfl
   rcases bools fa with hC | hC
   ·refine step_imp (V1 := fun _ => (fun v _ => v = (.int .i64 b))) ?_ (fun _ _ h => ⟨fun _ => h, fun hN => absurd (hC.symm.trans hN) (by decide)⟩)
    replace s49 := s49.1 hC
    exact step_val ((wanted_guard rfl rfl sg).trans (by first | rfl | simp [hC])) (by go_simp) rfl
   ·exact step_out ((wanted_guard rfl rfl sg).trans (by first | rfl | simp [hC])) ⟨fun h => absurd (hC.symm.trans h) (by decide), fun _ => rfl⟩),
    (fun aF wF F => by
   have sg := F.v 3 48
   have s50 : (fa = true → aF.tmps.getD 50 undef = (.int .i64 b)) ∧ (fa = false → aF.tmps.getD 50 undef = undef) := F.done 5 50 (by kernel_rfl) rfl
   rcases bools fa with hC | hC
   ·refine step_imp (V1 := fun _ => (fun v _ => v = (.bool fb))) ?_ (fun _ _ h => ⟨fun _ => h, fun hN => absurd (hC.symm.trans hN) (by decide)⟩)
    replace s50 := s50.1 hC
    exact step_val ((wanted_guard rfl rfl sg).trans (by first | rfl | simp [hC])) (by (go_simp;exact FB.out)) rfl
   ·exact step_out ((wanted_guard rfl rfl sg).trans (by first | rfl | simp [hC])) ⟨fun h => absurd (hC.symm.trans h) (by decide), fun _ => rfl⟩),
    (fun aF wF F => by
   have s48 := F.v 3 48
   have s51 : (fa = true → aF.tmps.getD 51 undef = (.bool fb)) ∧ (fa = false → aF.tmps.getD 51 undef = undef) := F.done 6 51 (by kernel_rfl) rfl
   rcases bools fa with hE | hE
   ·replace s51 := s51.1 hE
    exact sw (by first | (go_simp;done) | (go_simp;simp_all;done) | (simp_all;done)) rfl
   ·exact sw (by first | (go_simp; done) | (go_simp; simp_all; done) | (simp_all; done)) rfl), (fun aF wF F => by have s52 := F.v 7 52; exact sv rfl),
    trivial⟩) ?_
  intro u w1 k1 hu
  have p49 := hp hu 4
  have p50 := hp hu 5
  have p51 := hp hu 6
  simp only [puts,slotOf,if_true,Act.put,List.setIfInBounds_toArray,List.set_cons_zero,List.set_cons_succ,List.getElem?_toArray,List.getElem?_cons_zero,List.getElem?_cons_succ,Option.bind_some,hv hu 0,hv hu 1,hv hu 2,hv hu 3,hv hu 7,hv hu 8]
  clear hu
  generalize u 4 = v49 at *
  generalize u 5 = v50 at *
  generalize u 6 = v51 at *
  go_wp2_with fail
  go_ret
  exact ⟨rfl,K.out.trans k1⟩
 have g2 : (op == 2) = false := by simp [h2]
 rw [if_neg h2] at em
 clear h2
 cases ip
 ·rw [if_neg (by decide)] at em
  by_cases p2 : pp = 2
  ·subst p2
   rw [if_pos rfl] at em
   rw [em]
   clear em
   obtain ⟨ba,hba⟩ : ∃ f,belowP a i = f := ⟨_,rfl⟩
   obtain ⟨bb,hbb⟩ : ∃ f,belowP b i = f := ⟨_,rfl⟩
   have BA := hid (fun w1 => below_c a i w1)
   have BB := hid (fun w1 => below_c b i w1)
   rw [hba] at BA ⊢
   rw [hbb] at BB ⊢
   clear hba hbb
   go_enter Tryz.func96,Tryz.ntmps96
   go_upto_region 1 with fail
   rw [← HW.out]
   obtain ⟨c0,c1,c2,c3,c4,c5,c6,c7,c8⟩ := ln_cells HB.out
   go_wp2_with fail
   refine (MS2.out _ K.out).mono ?_
   rintro e w1 ⟨rfl,q⟩
   replace K := hid (K.out.trans q)
   have hb1 := (q.block _ (Array.getElem?_eq_some_iff.1 HB.out).1).trans HB.out
   replace HB := hid hb1
   clear c0 c1 c2 c3 c4 c5 c6 c7 c8 q hb1 HW MS2
   obtain ⟨c0,c1,c2,c3,c4,c5,c6,c7,c8⟩ := ln_cells HB.out
   simp only []
   have hlk := ML.out w1 K.out
   clear ML
   go_wp2_with fail
   refine (HP.out w1).mono ?_
   rintro e w2 ⟨rfl,q⟩
   replace K := hid (K.out.trans q)
   have hb1 := (q.block _ (Array.getElem?_eq_some_iff.1 HB.out).1).trans HB.out
   replace HB := hid hb1
   clear c0 c1 c2 c3 c4 c5 c6 c7 c8 q hb1 HP hlk
   obtain ⟨c0,c1,c2,c3,c4,c5,c6,c7,c8⟩ := ln_cells HB.out
   simp only []
   go_upto_region 12 with fail
   clear c0 c1 c2 c3 c4 c5 c6 c7 c8
   refine region_seq (m := 11) (V := VL [(vP w.heap.size 1),(vE (.int .i64 a)),(vE (.int .i64 i)),(vE (.bool ba)),(vE (.bool ba)),(fun v wv => (ba = true → (fun v _ => v = (.pointer (some ⟨w.heap.size,2,none⟩))) v wv) ∧ (ba = false → v = undef)),(fun v wv => (ba = true → (fun v _ => v = (.int .i64 b)) v wv) ∧ (ba = false → v = undef)),(fun v wv => (ba = true → (fun v _ => v = (.int .i64 i)) v wv) ∧ (ba = false → v = undef)),(fun v wv => (ba = true → (fun v _ => v = (.bool bb)) v wv) ∧ (ba = false → v = undef)),(vE (.bool (ba && bb))),(vE (.bool (ba && bb)))])
    rfl (by kernel_rfl) (by kernel_rfl) (by kernel_rfl) (mono_of _ ⟨mE,mE,mE,mE,mE,fun v w w' k h => ⟨fun hC => (fun v w w' k h => by first | exact h | exact h.kept k | exact ⟨h.1,h.2.kept k⟩) v w w' k (h.1 hC),h.2⟩,fun v w w' k h => ⟨fun hC => (fun v w w' k h => by first | exact h | exact h.kept k | exact ⟨h.1,h.2.kept k⟩) v w w' k (h.1 hC),h.2⟩,fun v w w' k h => ⟨fun hC => (fun v w w' k h => by first | exact h | exact h.kept k | exact ⟨h.1,h.2.kept k⟩) v w w' k (h.1 hC),h.2⟩,fun v w w' k h => ⟨fun hC => (fun v w w' k h => by first | exact h | exact h.kept k | exact ⟨h.1,h.2.kept k⟩) v w w' k (h.1 hC),h.2⟩,mE,mE,trivial⟩) (steps_of ⟨
     (fun aF wF F => by have s3 : aF.tmps.getD 3 undef = (.pointer (some ⟨w.heap.size,0,none⟩)) := F.o 3;exact sv rfl),(fun aF wF F => by have s67 := F.v 0 67;have c0 := cell_at HB.out F.kept 1 _ rfl;exact sv rfl),(fun aF wF F => by have s1 : aF.tmps.getD 1 undef = (.int .i64 i) := F.o 1;exact sv rfl),(fun aF wF F => by have s68 := F.v 1 68;have s69 := F.v 2 69;exact sK (BA.out _) fun _ _ h => h),(fun aF wF F => by have s70 := F.v 3 70;exact sv rfl),
     (fun aF wF F => by
    have sg := F.v 4 71
    have s3 : aF.tmps.getD 3 undef = (.pointer (some ⟨w.heap.size,0,none⟩)) := F.o 3
    rcases bools ba with hC | hC
    ·refine step_imp (V1 := fun _ => (fun v _ => v = (.pointer (some ⟨w.heap.size, 2, none⟩)))) ?_ (fun _ _ h => ⟨fun _ => h, fun hN => absurd (hC.symm.trans hN) (by decide)⟩)
     exact step_val ((wanted_guard rfl rfl sg).trans (by first | rfl | simp [hC])) (by go_simp) rfl
    ·exact step_out ((wanted_guard rfl rfl sg).trans (by first | rfl | simp [hC])) ⟨fun h => absurd (hC.symm.trans h) (by decide), fun _ => rfl⟩),
     (fun aF wF F => by
    have sg := F.v 4 71
    have s72 : (ba = true → aF.tmps.getD 72 undef = (.pointer (some ⟨w.heap.size,2,none⟩))) ∧ (ba = false → aF.tmps.getD 72 undef = undef) := F.done 5 72 (by kernel_rfl) rfl
    have c0 := cell_at HB.out F.kept 2 _ rfl
    rcases bools ba with hC | hC
    ·refine step_imp (V1 := fun _ => (fun v _ => v = (.int .i64 b))) ?_ (fun _ _ h => ⟨fun _ => h, fun hN => absurd (hC.symm.trans hN) (by decide)⟩)
     replace s72 := s72.1 hC
     exact step_val ((wanted_guard rfl rfl sg).trans (by first | rfl | simp [hC])) (by go_simp) rfl
    ·exact step_out ((wanted_guard rfl rfl sg).trans (by first | rfl | simp [hC])) ⟨fun h => absurd (hC.symm.trans h) (by decide), fun _ => rfl⟩),
     (fun aF wF F => by
    have sg := F.v 4 71
    have s1 : aF.tmps.getD 1 undef = (.int .i64 i) := F.o 1
    rcases bools ba with hC | hC
    ·refine step_imp (V1 := fun _ => (fun v _ => v = (.int .i64 i))) ?_ (fun _ _ h => ⟨fun _ => h, fun hN => absurd (hC.symm.trans hN) (by decide)⟩)
     exact step_val ((wanted_guard rfl rfl sg).trans (by first | rfl | simp [hC])) (by go_simp) rfl
    ·exact step_out ((wanted_guard rfl rfl sg).trans (by first | rfl | simp [hC])) ⟨fun h => absurd (hC.symm.trans h) (by decide), fun _ => rfl⟩),
     (fun aF wF F => by
    have sg := F.v 4 71
    have s73 : (ba = true → aF.tmps.getD 73 undef = (.int .i64 b)) ∧ (ba = false → aF.tmps.getD 73 undef = undef) := F.done 6 73 (by kernel_rfl) rfl
    have s74 : (ba = true → aF.tmps.getD 74 undef = (.int .i64 i)) ∧ (ba = false → aF.tmps.getD 74 undef = undef) := F.done 7 74 (by kernel_rfl) rfl
    rcases bools ba with hC | hC
    ·refine step_imp (V1 := fun _ => (fun v _ => v = (.bool bb))) ?_ (fun _ _ h => ⟨fun _ => h, fun hN => absurd (hC.symm.trans hN) (by decide)⟩)
     replace s73 := s73.1 hC
     replace s74 := s74.1 hC
     exact step_good ((wanted_guard rfl rfl sg).trans (by first | rfl | simp [hC])) (by go_simp) (BB.out _) (fun _ _ h => RetK.good h) (fun _ _ h => h)
    ·exact step_out ((wanted_guard rfl rfl sg).trans (by first | rfl | simp [hC])) ⟨fun h => absurd (hC.symm.trans h) (by decide), fun _ => rfl⟩),
     (fun aF wF F => by
    have s71 := F.v 4 71
    have s75 : (ba = true → aF.tmps.getD 75 undef = (.bool bb)) ∧ (ba = false → aF.tmps.getD 75 undef = undef) := F.done 8 75 (by kernel_rfl) rfl
    rcases bools ba with hE | hE
    ·replace s75 := s75.1 hE
     exact sw (by first | (go_simp;done) | (go_simp;simp_all;done) | (simp_all;done)) rfl
    ·exact sw (by first | (go_simp; done) | (go_simp; simp_all; done) | (simp_all; done)) rfl), (fun aF wF F => by have s76 := F.v 9 76; exact sv rfl),
     trivial⟩) ?_
   intro u w1 k1 hu
   have p72 := hp hu 5
   have p73 := hp hu 6
   have p74 := hp hu 7
   have p75 := hp hu 8
   simp only [puts,slotOf,if_true,Act.put,List.setIfInBounds_toArray,List.set_cons_zero,List.set_cons_succ,List.getElem?_toArray,List.getElem?_cons_zero,List.getElem?_cons_succ,Option.bind_some,hv hu 0,hv hu 1,hv hu 2,hv hu 3,hv hu 4,hv hu 9,hv hu 10]
   clear hu
   generalize u 5 = v72 at *
   generalize u 6 = v73 at *
   generalize u 7 = v74 at *
   generalize u 8 = v75 at *
   go_wp2_with fail
   go_ret
   exact ⟨rfl,K.out.trans k1⟩
  have q2 : (pp == 2) = false := by simp [p2]
  rw [if_neg p2] at em
  clear p2
  by_cases p1 : pp = 1
  ·subst p1
   rw [if_pos rfl] at em
   rw [em]
   clear em
   obtain ⟨ba,hba⟩ : ∃ f,belowP a i = f := ⟨_,rfl⟩
   have BA := hid (fun w1 => below_c a i w1)
   rw [hba] at BA ⊢
   clear hba
   go_enter Tryz.func96,Tryz.ntmps96
   go_upto_region 1 with fail
   rw [← HW.out]
   obtain ⟨c0,c1,c2,c3,c4,c5,c6,c7,c8⟩ := ln_cells HB.out
   go_wp2_with fail
   refine (MS2.out _ K.out).mono ?_
   rintro e w1 ⟨rfl,q⟩
   replace K := hid (K.out.trans q)
   have hb1 := (q.block _ (Array.getElem?_eq_some_iff.1 HB.out).1).trans HB.out
   replace HB := hid hb1
   clear c0 c1 c2 c3 c4 c5 c6 c7 c8 q hb1 HW MS2
   obtain ⟨c0,c1,c2,c3,c4,c5,c6,c7,c8⟩ := ln_cells HB.out
   simp only []
   have hlk := ML.out w1 K.out
   clear ML
   go_wp2_with fail
   refine (HP.out w1).mono ?_
   rintro e w2 ⟨rfl,q⟩
   replace K := hid (K.out.trans q)
   have hb1 := (q.block _ (Array.getElem?_eq_some_iff.1 HB.out).1).trans HB.out
   replace HB := hid hb1
   clear c0 c1 c2 c3 c4 c5 c6 c7 c8 q hb1 HP hlk
   obtain ⟨c0,c1,c2,c3,c4,c5,c6,c7,c8⟩ := ln_cells HB.out
   simp only []
   go_upto_region 14 with fail
   clear c0 c1 c2 c3 c4 c5 c6 c7 c8
   refine region_seq (m := 10) (V := VL [(vP w.heap.size 1),(vE (.int .i64 a)),(vE (.int .i64 i)),(vE (.bool ba)),(vE (.bool ba)),(fun v wv => (ba = true → (fun v _ => v = (.pointer (some ⟨w.heap.size,2,none⟩))) v wv) ∧ (ba = false → v = undef)),(fun v wv => (ba = true → (fun v _ => v = (.int .i64 b)) v wv) ∧ (ba = false → v = undef)),(fun v wv => (ba = true → (fun v _ => v = (.bool fb)) v wv) ∧ (ba = false → v = undef)),(vE (.bool (ba && fb))),(vE (.bool (ba && fb)))])
    rfl (by kernel_rfl) (by kernel_rfl) (by kernel_rfl) (mono_of _ ⟨mE,mE,mE,mE,mE,fun v w w' k h => ⟨fun hC => (fun v w w' k h => by first | exact h | exact h.kept k | exact ⟨h.1,h.2.kept k⟩) v w w' k (h.1 hC),h.2⟩,fun v w w' k h => ⟨fun hC => (fun v w w' k h => by first | exact h | exact h.kept k | exact ⟨h.1,h.2.kept k⟩) v w w' k (h.1 hC),h.2⟩,fun v w w' k h => ⟨fun hC => (fun v w w' k h => by first | exact h | exact h.kept k | exact ⟨h.1,h.2.kept k⟩) v w w' k (h.1 hC),h.2⟩,mE,mE,trivial⟩) (steps_of ⟨
     (fun aF wF F => by have s3 : aF.tmps.getD 3 undef = (.pointer (some ⟨w.heap.size,0,none⟩)) := F.o 3;exact sv rfl),(fun aF wF F => by have s80 := F.v 0 80;have c0 := cell_at HB.out F.kept 1 _ rfl;exact sv rfl),(fun aF wF F => by have s1 : aF.tmps.getD 1 undef = (.int .i64 i) := F.o 1;exact sv rfl),(fun aF wF F => by have s81 := F.v 1 81;have s82 := F.v 2 82;exact sK (BA.out _) fun _ _ h => h),(fun aF wF F => by have s83 := F.v 3 83;exact sv rfl),
     (fun aF wF F => by
    have sg := F.v 4 84
    have s3 : aF.tmps.getD 3 undef = (.pointer (some ⟨w.heap.size,0,none⟩)) := F.o 3
    rcases bools ba with hC | hC
    ·refine step_imp (V1 := fun _ => (fun v _ => v = (.pointer (some ⟨w.heap.size, 2, none⟩)))) ?_ (fun _ _ h => ⟨fun _ => h, fun hN => absurd (hC.symm.trans hN) (by decide)⟩)
     exact step_val ((wanted_guard rfl rfl sg).trans (by first | rfl | simp [hC])) (by go_simp) rfl
    ·exact step_out ((wanted_guard rfl rfl sg).trans (by first | rfl | simp [hC])) ⟨fun h => absurd (hC.symm.trans h) (by decide), fun _ => rfl⟩),
     (fun aF wF F => by
    have sg := F.v 4 84
    have s85 : (ba = true → aF.tmps.getD 85 undef = (.pointer (some ⟨w.heap.size,2,none⟩))) ∧ (ba = false → aF.tmps.getD 85 undef = undef) := F.done 5 85 (by kernel_rfl) rfl
    have c0 := cell_at HB.out F.kept 2 _ rfl
    rcases bools ba with hC | hC
    ·refine step_imp (V1 := fun _ => (fun v _ => v = (.int .i64 b))) ?_ (fun _ _ h => ⟨fun _ => h, fun hN => absurd (hC.symm.trans hN) (by decide)⟩)
     replace s85 := s85.1 hC
     exact step_val ((wanted_guard rfl rfl sg).trans (by first | rfl | simp [hC])) (by go_simp) rfl
    ·exact step_out ((wanted_guard rfl rfl sg).trans (by first | rfl | simp [hC])) ⟨fun h => absurd (hC.symm.trans h) (by decide), fun _ => rfl⟩),
     (fun aF wF F => by
    have sg := F.v 4 84
    have s86 : (ba = true → aF.tmps.getD 86 undef = (.int .i64 b)) ∧ (ba = false → aF.tmps.getD 86 undef = undef) := F.done 6 86 (by kernel_rfl) rfl
    rcases bools ba with hC | hC
    ·refine step_imp (V1 := fun _ => (fun v _ => v = (.bool fb))) ?_ (fun _ _ h => ⟨fun _ => h, fun hN => absurd (hC.symm.trans hN) (by decide)⟩)
     replace s86 := s86.1 hC
     exact step_val ((wanted_guard rfl rfl sg).trans (by first | rfl | simp [hC])) (by (go_simp;exact FB.out)) rfl
    ·exact step_out ((wanted_guard rfl rfl sg).trans (by first | rfl | simp [hC])) ⟨fun h => absurd (hC.symm.trans h) (by decide), fun _ => rfl⟩),
     (fun aF wF F => by
    have s84 := F.v 4 84
    have s87 : (ba = true → aF.tmps.getD 87 undef = (.bool fb)) ∧ (ba = false → aF.tmps.getD 87 undef = undef) := F.done 7 87 (by kernel_rfl) rfl
    rcases bools ba with hE | hE
    ·replace s87 := s87.1 hE
     exact sw (by first | (go_simp;done) | (go_simp;simp_all;done) | (simp_all;done)) rfl
    ·exact sw (by first | (go_simp; done) | (go_simp; simp_all; done) | (simp_all; done)) rfl), (fun aF wF F => by have s88 := F.v 8 88; exact sv rfl),
     trivial⟩) ?_
   intro u w1 k1 hu
   have p85 := hp hu 5
   have p86 := hp hu 6
   have p87 := hp hu 7
   simp only [puts,slotOf,if_true,Act.put,List.setIfInBounds_toArray,List.set_cons_zero,List.set_cons_succ,List.getElem?_toArray,List.getElem?_cons_zero,List.getElem?_cons_succ,Option.bind_some,hv hu 0,hv hu 1,hv hu 2,hv hu 3,hv hu 4,hv hu 8,hv hu 9]
   clear hu
   generalize u 5 = v85 at *
   generalize u 6 = v86 at *
   generalize u 7 = v87 at *
   go_wp2_with fail
   go_ret
   exact ⟨rfl,K.out.trans k1⟩
  have q1 : (pp == 1) = false := by simp [p1]
  rw [if_neg p1] at em
  rw [em]
  clear em
  go_enter Tryz.func96,Tryz.ntmps96
  go_upto_region 1 with fail
  rw [← HW.out]
  obtain ⟨c0,c1,c2,c3,c4,c5,c6,c7,c8⟩ := ln_cells HB.out
  go_wp2_with fail
  refine (MS2.out _ K.out).mono ?_
  rintro e w1 ⟨rfl,q⟩
  replace K := hid (K.out.trans q)
  have hb1 := (q.block _ (Array.getElem?_eq_some_iff.1 HB.out).1).trans HB.out
  replace HB := hid hb1
  clear c0 c1 c2 c3 c4 c5 c6 c7 c8 q hb1 HW MS2
  obtain ⟨c0,c1,c2,c3,c4,c5,c6,c7,c8⟩ := ln_cells HB.out
  simp only []
  have hlk := ML.out w1 K.out
  clear ML
  go_wp2_with fail
  refine (HP.out w1).mono ?_
  rintro e w2 ⟨rfl,q⟩
  replace K := hid (K.out.trans q)
  have hb1 := (q.block _ (Array.getElem?_eq_some_iff.1 HB.out).1).trans HB.out
  replace HB := hid hb1
  clear c0 c1 c2 c3 c4 c5 c6 c7 c8 q hb1 HP hlk
  obtain ⟨c0,c1,c2,c3,c4,c5,c6,c7,c8⟩ := ln_cells HB.out
  simp only []
  go_wp2_with fail
  go_ret
  exact ⟨rfl,K.out⟩
 ·rw [if_pos rfl] at em
  rw [em]
  clear em
  obtain ⟨ba,hba⟩ : ∃ f,belowP a mm = f := ⟨_,rfl⟩
  have BA := hid (fun w1 => below_c a mm w1)
  rw [hba] at BA ⊢
  clear hba
  go_enter Tryz.func96,Tryz.ntmps96
  go_upto_region 1 with fail
  rw [← HW.out]
  obtain ⟨c0,c1,c2,c3,c4,c5,c6,c7,c8⟩ := ln_cells HB.out
  go_wp2_with fail
  refine (MS2.out _ K.out).mono ?_
  rintro e w1 ⟨rfl,q⟩
  replace K := hid (K.out.trans q)
  have hb1 := (q.block _ (Array.getElem?_eq_some_iff.1 HB.out).1).trans HB.out
  replace HB := hid hb1
  clear c0 c1 c2 c3 c4 c5 c6 c7 c8 q hb1 HW MS2
  obtain ⟨c0,c1,c2,c3,c4,c5,c6,c7,c8⟩ := ln_cells HB.out
  simp only []
  have hlk := ML.out w1 K.out
  clear ML
  go_wp2_with fail
  refine (HP.out w1).mono ?_
  rintro e w2 ⟨rfl,q⟩
  replace K := hid (K.out.trans q)
  have hb1 := (q.block _ (Array.getElem?_eq_some_iff.1 HB.out).1).trans HB.out
  replace HB := hid hb1
  clear c0 c1 c2 c3 c4 c5 c6 c7 c8 q hb1 HP hlk
  obtain ⟨c0,c1,c2,c3,c4,c5,c6,c7,c8⟩ := ln_cells HB.out
  simp only []
  go_upto_region 10 with fail
  clear c0 c1 c2 c3 c4 c5 c6 c7 c8
  refine region_seq (m := 10) (V := VL [(vP w.heap.size 1),(vE (.int .i64 a)),(vE (.int .i64 mm)),(vE (.bool ba)),(vE (.bool ba)),(fun v wv => (ba = true → (fun v _ => v = (.pointer (some ⟨w.heap.size,2,none⟩))) v wv) ∧ (ba = false → v = undef)),(fun v wv => (ba = true → (fun v _ => v = (.int .i64 b)) v wv) ∧ (ba = false → v = undef)),(fun v wv => (ba = true → (fun v _ => v = (.bool fb)) v wv) ∧ (ba = false → v = undef)),(vE (.bool (ba && fb))),(vE (.bool (ba && fb)))])
   rfl (by kernel_rfl) (by kernel_rfl) (by kernel_rfl) (mono_of _ ⟨mE,mE,mE,mE,mE,fun v w w' k h => ⟨fun hC => (fun v w w' k h => by first | exact h | exact h.kept k | exact ⟨h.1,h.2.kept k⟩) v w w' k (h.1 hC),h.2⟩,fun v w w' k h => ⟨fun hC => (fun v w w' k h => by first | exact h | exact h.kept k | exact ⟨h.1,h.2.kept k⟩) v w w' k (h.1 hC),h.2⟩,fun v w w' k h => ⟨fun hC => (fun v w w' k h => by first | exact h | exact h.kept k | exact ⟨h.1,h.2.kept k⟩) v w w' k (h.1 hC),h.2⟩,mE,mE,trivial⟩) (steps_of ⟨
    (fun aF wF F => by have s3 : aF.tmps.getD 3 undef = (.pointer (some ⟨w.heap.size,0,none⟩)) := F.o 3;exact sv rfl),(fun aF wF F => by have s55 := F.v 0 55;have c0 := cell_at HB.out F.kept 1 _ rfl;exact sv rfl),(fun aF wF F => by have s7 : aF.tmps.getD 7 undef = (.int .i64 mm) := F.o 7;exact sv rfl),(fun aF wF F => by have s56 := F.v 1 56;have s57 := F.v 2 57;exact sK (BA.out _) fun _ _ h => h),(fun aF wF F => by have s58 := F.v 3 58;exact sv rfl),
    (fun aF wF F => by
   have sg := F.v 4 59
   have s3 : aF.tmps.getD 3 undef = (.pointer (some ⟨w.heap.size,0,none⟩)) := F.o 3
   rcases bools ba with hC | hC
   ·refine step_imp (V1 := fun _ => (fun v _ => v = (.pointer (some ⟨w.heap.size, 2, none⟩)))) ?_ (fun _ _ h => ⟨fun _ => h, fun hN => absurd (hC.symm.trans hN) (by decide)⟩)
    exact step_val ((wanted_guard rfl rfl sg).trans (by first | rfl | simp [hC])) (by go_simp) rfl
   ·exact step_out ((wanted_guard rfl rfl sg).trans (by first | rfl | simp [hC])) ⟨fun h => absurd (hC.symm.trans h) (by decide), fun _ => rfl⟩),
    (fun aF wF F => by
   have sg := F.v 4 59
   have s60 : (ba = true → aF.tmps.getD 60 undef = (.pointer (some ⟨w.heap.size,2,none⟩))) ∧ (ba = false → aF.tmps.getD 60 undef = undef) := F.done 5 60 (by kernel_rfl) rfl
   have c0 := cell_at HB.out F.kept 2 _ rfl
   rcases bools ba with hC | hC
   ·refine step_imp (V1 := fun _ => (fun v _ => v = (.int .i64 b))) ?_ (fun _ _ h => ⟨fun _ => h, fun hN => absurd (hC.symm.trans hN) (by decide)⟩)
    replace s60 := s60.1 hC
    exact step_val ((wanted_guard rfl rfl sg).trans (by first | rfl | simp [hC])) (by go_simp) rfl
   ·exact step_out ((wanted_guard rfl rfl sg).trans (by first | rfl | simp [hC])) ⟨fun h => absurd (hC.symm.trans h) (by decide), fun _ => rfl⟩),
    (fun aF wF F => by
   have sg := F.v 4 59
   have s61 : (ba = true → aF.tmps.getD 61 undef = (.int .i64 b)) ∧ (ba = false → aF.tmps.getD 61 undef = undef) := F.done 6 61 (by kernel_rfl) rfl
   rcases bools ba with hC | hC
   ·refine step_imp (V1 := fun _ => (fun v _ => v = (.bool fb))) ?_ (fun _ _ h => ⟨fun _ => h, fun hN => absurd (hC.symm.trans hN) (by decide)⟩)
    replace s61 := s61.1 hC
    exact step_val ((wanted_guard rfl rfl sg).trans (by first | rfl | simp [hC])) (by (go_simp;exact FB.out)) rfl
   ·exact step_out ((wanted_guard rfl rfl sg).trans (by first | rfl | simp [hC])) ⟨fun h => absurd (hC.symm.trans h) (by decide), fun _ => rfl⟩),
    (fun aF wF F => by
   have s59 := F.v 4 59
   have s62 : (ba = true → aF.tmps.getD 62 undef = (.bool fb)) ∧ (ba = false → aF.tmps.getD 62 undef = undef) := F.done 7 62 (by kernel_rfl) rfl
   rcases bools ba with hE | hE
   ·replace s62 := s62.1 hE
    exact sw (by first | (go_simp;done) | (go_simp;simp_all;done) | (simp_all;done)) rfl
   ·exact sw (by first | (go_simp; done) | (go_simp; simp_all; done) | (simp_all; done)) rfl), (fun aF wF F => by have s63 := F.v 8 63; exact sv rfl),
    trivial⟩) ?_
  intro u w1 k1 hu
  have p60 := hp hu 5
  have p61 := hp hu 6
  have p62 := hp hu 7
  simp only [puts,slotOf,if_true,Act.put,List.setIfInBounds_toArray,List.set_cons_zero,List.set_cons_succ,List.getElem?_toArray,List.getElem?_cons_zero,List.getElem?_cons_succ,Option.bind_some,hv hu 0,hv hu 1,hv hu 2,hv hu 3,hv hu 4,hv hu 8,hv hu 9]
  clear hu
  generalize u 5 = v60 at *
  generalize u 6 = v61 at *
  generalize u 7 = v62 at *
  go_wp2_with fail
  go_ret
  exact ⟨rfl,K.out.trans k1⟩
end Go.Proofs.YtgododcbmkpbjaaGreatDoor
