/- Steps of a region whose guard is not known: what they yield if they are wanted. -/
import Derived.Test.YtgododcbmkpbjaaGreatDoorClaimJexpp05
import Derived.Test.YtgododcbmkpbjaaGreatDoorClaimJexpp18
import Derived.Test.YtgododcbmkpbjaaGreatDoorClaimJexpp19
import Derived.KernelRfl
import Derived.Deep.DeepCutAuto
import Derived.Deep.CutBlock
set_option maxRecDepth 100000
set_option maxHeartbeats 16000000
namespace Go.Proofs.YtgododcbmkpbjaaGreatDoor
open Go.RowKit
section
variable {P : Program} {ops : Array Oper} {Q : Exit → Act → World → Prop} {md : Region.Mode}
/-- Words for the values, one behind the other. -/
def VL (l : List (Value → World → Prop)) : Nat → Value → World → Prop := fun i v w => (l.getD i (fun _ _ => True)) v w
def Mono (p : Value → World → Prop) : Prop := ∀ v w w', Kept w w' → p v w → p v w'
def MonoL : List (Value → World → Prop) → Prop
 | [] => True
 | p :: l => Mono p ∧ MonoL l
theorem mono_of : ∀ (l : List (Value → World → Prop)), MonoL l → ∀ i v w w', Kept w w' → VL l i v w → VL l i v w'
 | [], _, _, _, _, _, _, _ => trivial
 | _ :: _, h, 0, v, w, w', k, hv => h.1 v w w' k hv
 | _ :: l, h, i + 1, v, w, w', k, hv => mono_of l h.2 i v w w' k hv
/-- The steps of the operations of a list. -/
def StepsOK (P : Program) (md : Region.Mode) (ops : Array Oper) (Q : Exit → Act → World → Prop) (m : Nat) (V : Nat → Value → World → Prop) (a0 : Act) (W : World) : Nat → Nat → List Oper → Prop
 | _, 0, _ => True
 | _, _ + 1, [] => True
 | i, k + 1, o :: l => (∀ a w, Finds md ops m V a0 W i a w → StepOK P ops Q V i o a w) ∧ StepsOK P md ops Q m V a0 W (i + 1) k l
theorem steps_at {m : Nat} {V : Nat → Value → World → Prop} {a0 : Act} {W : World} : ∀ (k i0 : Nat) (l : List Oper), StepsOK P md ops Q m V a0 W i0 k l →
 ∀ i o, i < k → l[i]? = some o → ∀ a w, Finds md ops m V a0 W (i0 + i) a w → StepOK P ops Q V (i0 + i) o a w
 | 0, _, _, _, _, _, hi, _ => absurd hi (Nat.not_lt_zero _)
 | k + 1, _, [], _, _, _, _, ho => by simp at ho
 | k + 1, i0, x :: l, h, 0, o, _, ho => by
   simp at ho; subst ho
   exact h.1
 | k + 1, i0, x :: l, h, i + 1, o, hi, ho => by
   have := steps_at k (i0 + 1) l h.2 i o (by omega) (by simpa using ho)
   have e : i0 + 1 + i = i0 + (i + 1) := by omega
   rw [e] at this
   exact this
theorem steps_of {m : Nat} {V : Nat → Value → World → Prop} {a0 : Act} {W : World} (h : StepsOK P md ops Q m V a0 W 0 m ops.toList) :
 ∀ i o, i < m → ops[i]? = some o → ∀ a w, Finds md ops m V a0 W i a w → StepOK P ops Q V i o a w := by
 intro i o hi ho
 have := steps_at m 0 ops.toList h i o hi (by simpa using ho)
 simpa using this
theorem step_val {V : Nat → Value → World → Prop} {i : Nat} {o : Oper} {a : Act} {w : World} {v : Value} (hw : Region.wanted o (yielded ops a.tmps) = true)
 (h : (execOp a.eval o).run P w = .ok (.value v) w) (hv : V i v w) : StepOK P ops Q V i o a w := by
 unfold StepOK
 rw [if_pos hw]
 unfold Oper.wp
 rw [h]
 exact ⟨v, rfl, Below.refl _ _, hv⟩
theorem wanted_guard {o : Oper} {tmps : Array Value} {g t : Nat} {b v : Bool} (hg : o.guard = some (g, b)) (hs : slotOf ops g = some t) (hv : tmps.getD t undef = .bool v) : Region.wanted o (yielded ops tmps) = (v == b) := by
 have h1 : tmps[t]? = some (.bool v) := by
  rw [Array.getD_eq_getD_getElem?] at hv
  cases h : tmps[t]? with
  | none => rw [h] at hv; cases hv
  | some x => rw [h] at hv; simp at hv; rw [hv]
 unfold slotOf at hs
 simp only [Region.wanted, hg, yielded, hs, Option.bind_some, h1]
 cases v <;> cases b <;> rfl
/-- A guarded operation that is left out. -/
theorem step_out {V : Nat → Value → World → Prop} {i : Nat} {o : Oper} {a : Act} {w : World}
 (h : Region.wanted o (yielded ops a.tmps) = false) (hv : V i undef w) : StepOK P ops Q V i o a w := by
 unfold StepOK
 rw [if_neg (by rw [h]; simp)]
 exact hv
/-- It makes memory and does nothing else. -/
theorem step_new {V : Nat → Value → World → Prop} {i : Nat} {o : Oper} {a : Act} {w w' : World} {v : Value} (hw : Region.wanted o (yielded ops a.tmps) = true)
 (h : (execOp a.eval o).run P w = .ok (.value v) w') (hk : Kept w w') (hv : V i v w') : StepOK P ops Q V i o a w := by
 unfold StepOK
 rw [if_pos hw]
 unfold Oper.wp
 rw [h]
 exact ⟨v, rfl, hk, hv⟩
theorem step_call {V : Nat → Value → World → Prop} {i : Nat} {o : Oper} {a : Act} {w : World} {f : FuncId} {args : Array Value} {R : Ending → World → Prop} (hw : Region.wanted o (yielded ops a.tmps) = true)
 (h : (execOp a.eval o).run P w = .ok (.enter f args) w) (hc : Calls P f args w R)
 (hr : ∀ e w', R e w' → (∃ v, e = .returned v ∧ Kept w w' ∧ V i v w') ∨ (∃ c, e = .panicked c ∧ Q (.panic c) a w')) : StepOK P ops Q V i o a w := by
 unfold StepOK
 rw [if_pos hw]
 unfold Oper.wp
 rw [h]
 refine Calls.mono hc (fun e w' he => ?_)
 rcases hr e w' he with ⟨v, rfl, hk, hv⟩ | ⟨c, rfl, hq⟩
 ·exact ⟨v, rfl, hk, hv⟩
 ·exact hq
end
theorem cell_at {W w : World} {b : Nat} {cs : Array Value} {T : TypeId} (h : W.heap[b]? = some (.cells cs T (0, 0))) (k : Kept W w) (i : Nat) (v : Value) (hi : cs[i]? = some v) : w.cell? ⟨b, i, none⟩ = some v :=
 cell_of_block ((k.block b (Array.getElem?_eq_some_iff.1 h).1).trans h) i v hi
/-- What a contract's end gives to a step. -/
def GoodEnd (p : Value → World → Prop) (w : World) (e : Ending) (w' : World) : Prop := ∃ v, e = .returned v ∧ Kept w w' ∧ p v w'
theorem RetQ.good {v : Value} {w w' : World} {e : Ending} (h : RetQ v w e w') : GoodEnd (fun u _ => u = v) w e w' := by
 obtain ⟨he, n, rfl⟩ := h
 exact ⟨v, he, Kept.drewN (Below.refl _ _) n, rfl⟩
theorem RetK.good {v : Value} {w w' : World} {e : Ending} (h : RetK v w e w') : GoodEnd (fun u _ => u = v) w e w' := ⟨v, h.1, h.2, rfl⟩
theorem RetLim.good {xs : List Nat} {w w' : World} {e : Ending} (h : RetLim xs w e w') : GoodEnd (fun u w => Lim w u xs) w e w' := by
 obtain ⟨v, he, hl, k⟩ := h
 exact ⟨v, he, k, hl⟩
theorem RetD.good {r : Raw} {w w' : World} {e : Ending} (h : RetD r w e w') : GoodEnd (fun u w => DyR w u r) w e w' := by
 obtain ⟨k, v, he, hl⟩ := h
 exact ⟨v, he, k, hl⟩
theorem RetE.good {o : Outc Raw} {w w' : World} {e : Ending} (h : RetE o w e w') : GoodEnd (fun u w => ∃ d, u = .tuple #[d, .int .i64 o.k] ∧ DyR w d o.v) w e w' := by
 obtain ⟨k, v, he, hl⟩ := h
 exact ⟨_, he, k, v, rfl, hl⟩
theorem RetQR.good {n m : Nat} {w w' : World} {e : Ending} (h : RetQR n m w e w') : GoodEnd (fun u w => ∃ q r, u = .tuple #[q, r] ∧ Lim w q (limbs (n / m)) ∧ Lim w r (limbs (n % m))) w e w' := by
 obtain ⟨q, r, he, h1, h2, k⟩ := h
 exact ⟨_, he, k, q, r, rfl, h1, h2⟩
section
variable {P : Program} {ops : Array Oper} {Q : Exit → Act → World → Prop}
theorem step_good {V : Nat → Value → World → Prop} {i : Nat} {o : Oper} {a : Act} {w : World} {f : FuncId} {args : Array Value} {R : Ending → World → Prop} {p : Value → World → Prop} (hw : Region.wanted o (yielded ops a.tmps) = true)
 (h : (execOp a.eval o).run P w = .ok (.enter f args) w) (hc : Calls P f args w R)
 (hr : ∀ e w', R e w' → GoodEnd p w e w') (hp : ∀ v w', p v w' → V i v w') : StepOK P ops Q V i o a w :=
 step_call hw h hc fun e w' he => by
  obtain ⟨v, he, k, hv⟩ := hr e w' he
  exact .inl ⟨v, he, k, hp v w' hv⟩
theorem step_goes {V : Nat → Value → World → Prop} {i : Nat} {o : Oper} {a : Act} {w : World} {f : FuncId} {args : Array Value} {T : TypeId} {t : Outc Raw} (hw : Region.wanted o (yielded ops a.tmps) = true)
 (h : (execOp a.eval o).run P w = .ok (.enter f args) w) (hc : Calls P f args w (Goes T t w))
 (hp : ∀ v w', Kept w w' → t.k = 0 → DyR w' v t.v → V i v w') (hq : ∀ w', Kept w w' → t.k ≠ 0 → Q (.panic (failV T t.k)) a w') : StepOK P ops Q V i o a w :=
 step_call hw h hc fun e w' he => by
  obtain ⟨k, ⟨h0, v, he, hd⟩ | ⟨h0, he⟩⟩ := he
  ·exact .inl ⟨v, he, k, hp v w' k h0 hd⟩
  ·exact .inr ⟨_, he, hq w' k h0⟩
end
theorem z1 {α : Type} (xs : List α) (i : Nat) (a : α) : xs.toArray.setIfInBounds i a = (xs.set i a).toArray := List.setIfInBounds_toArray ..
theorem z2 {α : Type} (a b : α) (l : List α) : (a :: l).set 0 b = b :: l := List.set_cons_zero ..
theorem z3 {α : Type} (a b : α) (l : List α) (n : Nat) : (a :: l).set (n + 1) b = a :: l.set n b := List.set_cons_succ ..
theorem z4 {α : Type} (xs : List α) (i : Nat) : xs.toArray[i]? = xs[i]? := List.getElem?_toArray ..
theorem z5 {α : Type} (a : α) (l : List α) : (a :: l)[0]? = some a := List.getElem?_cons_zero ..
theorem z6 {α : Type} (a : α) (l : List α) (i : Nat) : (a :: l)[i + 1]? = l[i]? := List.getElem?_cons_succ ..
theorem z7 {α β : Type} (f : α → Option β) (a : α) : (some a).bind f = f a := Option.bind_some ..
/-- A value. -/
def vE (x : Value) : Value → World → Prop := fun v _ => v = x
/-- A pointer. -/
abbrev vP (b o : Nat) : Value → World → Prop := vE (.pointer (some ⟨b, o, none⟩))
theorem mE {x : Value} : Mono (vE x) := fun _ _ _ _ h => h
theorem mD {r : Raw} : Mono (fun v w => DyR w v r) := fun _ _ _ k h => h.kept k
theorem mL {r : List Nat} : Mono (fun v w => Lim w v r) := fun _ _ _ k h => h.kept k
section
variable {P : Program} {ops : Array Oper} {Q : Exit → Act → World → Prop} {md : Region.Mode} {m i : Nat} {l : List (Value → World → Prop)} {a0 a : Act} {W w : World}
theorem Finds.v (F : Finds md ops m (VL l) a0 W i a w) (j t : Nat) {x : Value} (h : l.getD j (fun _ _ => True) = vE x := by exact rfl) (h1 : waitsFor md ops i j = true := by kernel_rfl) (h2 : slotOf ops j = some t := by exact rfl) : a.tmps.getD t undef = x := by
 have h3 := F.done j t h1 h2
 unfold VL at h3
 rw [h] at h3
 exact h3
theorem Finds.p (F : Finds md ops m (VL l) a0 W i a w) (j t : Nat) {p : Value → World → Prop} (h : l.getD j (fun _ _ => True) = p := by exact rfl) (h1 : waitsFor md ops i j = true := by kernel_rfl) (h2 : slotOf ops j = some t := by exact rfl) : p (a.tmps.getD t undef) w := by
 have h3 := F.done j t h1 h2
 unfold VL at h3
 rw [h] at h3
 exact h3
theorem Finds.o {V : Nat → Value → World → Prop} (F : Finds md ops m V a0 W i a w) (t : Nat) (h : untouched md ops m i t = true := by kernel_rfl) : a.tmps.getD t undef = a0.tmps.getD t undef := F.old t h
theorem hv {u : Nat → Value} (hu : ∀ i, i < m → VL l i (u i) w) (i : Nat) {x : Value} (h : l.getD i (fun _ _ => True) = vE x := by exact rfl) (h2 : i < m := by decide) : u i = x := by
 have h3 := hu i h2
 unfold VL at h3
 rw [h] at h3
 exact h3
theorem hp {u : Nat → Value} (hu : ∀ i, i < m → VL l i (u i) w) (i : Nat) {p : Value → World → Prop} (h : l.getD i (fun _ _ => True) = p := by exact rfl) (h2 : i < m := by decide) : p (u i) w := by
 have h3 := hu i h2
 unfold VL at h3
 rw [h] at h3
 exact h3
variable {V : Nat → Value → World → Prop} {o : Oper} {v : Value} {f : FuncId} {args : Array Value}
theorem sv (hv : V i v w) (hw : Region.wanted o (yielded ops a.tmps) = true := by simp [Region.wanted]) (h : (execOp a.eval o).run P w = .ok (.value v) w := by go_simp) : StepOK P ops Q V i o a w := step_val hw h hv
theorem sw (h : (execOp a.eval o).run P w = .ok (.value v) w) (hv : V i v w) (hw : Region.wanted o (yielded ops a.tmps) = true := by simp [Region.wanted]) : StepOK P ops Q V i o a w := step_val hw h hv
theorem sQ {x : Value} (hc : Calls P f args w (RetQ x w)) (hp : ∀ v w', v = x → V i v w') (hw : Region.wanted o (yielded ops a.tmps) = true := by simp [Region.wanted]) (h : (execOp a.eval o).run P w = .ok (.enter f args) w := by go_simp) : StepOK P ops Q V i o a w :=
 step_good hw h hc (fun _ _ h => RetQ.good h) hp
theorem sK {x : Value} (hc : Calls P f args w (RetK x w)) (hp : ∀ v w', v = x → V i v w') (hw : Region.wanted o (yielded ops a.tmps) = true := by simp [Region.wanted]) (h : (execOp a.eval o).run P w = .ok (.enter f args) w := by go_simp) : StepOK P ops Q V i o a w :=
 step_good hw h hc (fun _ _ h => RetK.good h) hp
theorem sL {x : List Nat} (hc : Calls P f args w (RetLim x w)) (hp : ∀ v w', Lim w' v x → V i v w') (hw : Region.wanted o (yielded ops a.tmps) = true := by simp [Region.wanted]) (h : (execOp a.eval o).run P w = .ok (.enter f args) w := by go_simp) : StepOK P ops Q V i o a w :=
 step_good hw h hc (fun _ _ h => RetLim.good h) hp
theorem sE {x : Outc Raw} (hc : Calls P f args w (RetE x w)) (hp : ∀ v w', (∃ d, v = .tuple #[d, .int .i64 x.k] ∧ DyR w' d x.v) → V i v w') (hw : Region.wanted o (yielded ops a.tmps) = true := by simp [Region.wanted]) (h : (execOp a.eval o).run P w = .ok (.enter f args) w := by go_simp) : StepOK P ops Q V i o a w :=
 step_good hw h hc (fun _ _ h => RetE.good h) hp
theorem sG {T : TypeId} {t : Outc Raw} (hc : Calls P f args w (Goes T t w)) (hp : ∀ v w', Kept w w' → t.k = 0 → DyR w' v t.v → V i v w') (hq : ∀ w', Kept w w' → t.k ≠ 0 → Q (.panic (failV T t.k)) a w') (hw : Region.wanted o (yielded ops a.tmps) = true := by simp [Region.wanted]) (h : (execOp a.eval o).run P w = .ok (.enter f args) w := by go_simp) : StepOK P ops Q V i o a w :=
 step_goes hw h hc hp hq
theorem so (j t : Nat) {b v : Bool} (hs : slotOf ops j = some t := by exact rfl) (hv : l.getD j (fun _ _ => True) = vE (.bool v) := by exact rfl) (hl : l.getD i (fun _ _ => True) = vE undef := by exact rfl) (hg : o.guard = some (j, b) := by exact rfl) (hb : (v == b) = false := by exact rfl)
 (h1 : waitsFor md ops i j = true := by kernel_rfl) : ∀ a w, Finds md ops m (VL l) a0 W i a w → StepOK P ops Q (VL l) i o a w := fun _ _ F =>
 step_out ((wanted_guard hg hs (F.v j t hv h1 hs)).trans hb) (by unfold VL; rw [hl]; rfl)
end
/-- What stands in the three boxes of a function of two Dyads. -/
structure Box3 (W : World) (n : Nat) (x y z x' y' z' : Value) : Prop where
 b0 : Blk W n x y z
 b1 : Blk W (n + 1) x' y' z'
 b2 : Blk W (n + 1 + 1) (.bool false) (.slice none 0 0) (.int .i64 0)
theorem Box3.kept {W w : World} {n : Nat} {x y z x' y' z' : Value} (h : Box3 W n x y z x' y' z') (k : Kept W w) : Box3 w n x y z x' y' z' :=
 ⟨h.b0.kept k, h.b1.kept k, h.b2.kept k⟩
theorem limbs_len_bl (n k : Nat) (h : bl n ≤ 64 * k) : (limbs n).length ≤ k := by
 refine limbs_length_le _ _ ?_
 have h1 := lt_two_bl n
 have h2 : 2 ^ bl n ≤ 2 ^ (64 * k) := Nat.pow_le_pow_right (by decide) h
 have h3 : (18446744073709551616 : Nat) ^ k = 2 ^ (64 * k) := by rw [Nat.pow_mul]
 omega
theorem bl_of_len (n k : Nat) (h : (limbs n).length ≤ k) : bl n ≤ 64 * k := by
 refine bl_le _ _ ?_
 have h1 := lt_pow_length n
 have h2 : (18446744073709551616 : Nat) ^ (limbs n).length ≤ 18446744073709551616 ^ k := Nat.pow_le_pow_right (by decide) h
 have h3 : (18446744073709551616 : Nat) ^ k = 2 ^ (64 * k) := by rw [Nat.pow_mul]
 omega
theorem bl_add (n m k : Nat) (hn : bl n ≤ k) (hm : bl m ≤ k) : bl (n + m) ≤ k + 1 := by
 refine bl_le _ _ ?_
 have h1 := lt_two_bl n
 have h2 := lt_two_bl m
 have h3 : 2 ^ bl n ≤ 2 ^ k := Nat.pow_le_pow_right (by decide) hn
 have h4 : 2 ^ bl m ≤ 2 ^ k := Nat.pow_le_pow_right (by decide) hm
 rw [Nat.pow_succ]; omega
/-- All that the last part of sum leans on: a, the one with the greater exponent, stands in the first box, b in the second one. -/
structure SumIn (w W : World) (n : Nat) (A A2 : Option Addr) (l c l2 c2 : Nat) (a b : Dy) : Prop where
 box : Box3 W n (.bool a.neg) (.slice A l c) (.int .i64 a.e) (.bool b.neg) (.slice A2 l2 c2) (.int .i64 b.e)
 la : Lim W (.slice A l c) (limbs a.m)
 lb : Lim W (.slice A2 l2 c2) (limbs b.m)
 kept : Kept w W
 base : w.heap.size ≤ n
 tab : Tab w
 oka : a.Ok
 okb : b.Ok
 ma : a.m ≠ 0
 ge : b.e ≤ a.e
theorem SumIn.size {w W w' : World} {n : Nat} {A A2 : Option Addr} {l c l2 c2 : Nat} {a b : Dy} (h : SumIn w W n A A2 l c l2 c2 a b) (k : Kept W w') :
 Calls Tryz.prog 83 #[.slice A l c] w' (RetQ (.int .i64 (bl a.m)) w') := size_c (h.la.kept k) (by have := h.oka.len; omega)
/-- The shifted one is short enough. -/
theorem SumIn.blX {w W : World} {n : Nat} {A A2 : Option Addr} {l c l2 c2 : Nat} {a b : Dy} (h : SumIn w W n A A2 l c l2 c2 a b) {j : Nat} (hj : j ≤ 4097) : bl (a.m * 2 ^ j) ≤ 8193 := by
 rw [bl_mul_pow _ _ h.ma]
 have := bl_of_len a.m 64 h.oka.len
 omega
theorem SumIn.left {w W w' : World} {n : Nat} {A A2 : Option Addr} {l c l2 c2 : Nat} {a b : Dy} (h : SumIn w W n A A2 l c l2 c2 a b) (k : Kept W w') {j : Nat} (hj : j ≤ 4097) :
 Calls Tryz.prog 85 #[.slice A l c, .int .i64 j] w' (RetLim (limbs (a.m * 2 ^ j)) w') := left_c (h.la.kept k) j (by have := h.oka.len; omega) (by omega)
theorem SumIn.fits {w W w' : World} {n : Nat} {A A2 : Option Addr} {l c l2 c2 : Nat} {a b : Dy} (h : SumIn w W n A A2 l c l2 c2 a b) (k : Kept W w') {m : Nat} (hm : bl m ≤ 8194) {v : Value} (hv : Lim w' v (limbs m)) (s : Bool) :
 Calls Tryz.prog 49 #[.bool s, v, .int .i64 b.e] w' (Goes 131 (fitD s m b.e).raw w') := by
 have h1 := limbs_len_bl m 129 (by omega)
 have h2 := h.okb.lo
 have h3 := h.okb.hi
 exact fit_c hv (by omega) (by omega) (by omega) (h.tab.kept (h.kept.trans k))
theorem SumIn.order {w W w' : World} {n : Nat} {A A2 : Option Addr} {l c l2 c2 : Nat} {a b : Dy} (h : SumIn w W n A A2 l c l2 c2 a b) (k : Kept W w') {j : Nat} (hj : j ≤ 4097) {v : Value} (hv : Lim w' v (limbs (a.m * 2 ^ j))) :
 Calls Tryz.prog 84 #[v, .slice A2 l2 c2] w' (RetQ (.int .i64 (cmpN (a.m * 2 ^ j) b.m)) w') := by
 have h1 := limbs_len_bl _ 129 (by have := h.blX hj; omega : bl (a.m * 2 ^ j) ≤ 64 * 129)
 have h2 := h.okb.len
 exact order_c hv (h.lb.kept k) (by omega) (by omega)
/-- A Dyad's value by its parts. -/
theorem dyR_parts {w : World} {v : Value} {o : Outc Dy} (h : DyR w v o.raw.v) : ∃ A l c, v = .agg #[.bool o.raw.v.neg, .slice A l c, .int .i64 o.raw.v.e] ∧ Lim w (.slice A l c) o.raw.v.m ∧ -9223372036854775808 ≤ o.raw.v.e ∧ o.raw.v.e ≤ 9223372036854775807 := by
 obtain ⟨A, l, c, rfl, -, h1, h2, h3⟩ := h.shape
 exact ⟨A, l, c, rfl, h1, h2, h3⟩
theorem dy_len {x : Dy} (h : x.Ok) : x.raw.m.length ≤ 64 := h.len
theorem Mul_c {w : World} {va vb : Value} {x y : Dy} (ha : DyR w va x.raw) (hb : DyR w vb y.raw) (hx : x.Ok) (hy : y.Ok) (hT : Tab w) :
 Calls Tryz.prog 23 #[va, vb] w (RetE (mulD x y).raw w) := by
 have hf := fun w1 (k : Kept w w1) => two_c (K := 48) (o := (mulD x y).raw) (ha.kept k) (hb.kept k) (by have := dy_len hx; omega) (by have := dy_len hy; omega)
  (fun W k1 _ _ => mul1_c (ha.kept (k.trans k1)) (hb.kept (k.trans k1)) hx hy (hT.kept (k.trans k1)))
  (fun h => by have := mulD_ok x y; show ((mulD x y).v).raw = rz; rw [this.2 h, dz_raw]) (fun _ => rfl)
 have e : twoO x.raw y.raw (mulD x y).raw = (mulD x y).raw := by unfold twoO; rw [hx.may, hy.may]; rfl
 rw [e] at hf
 obtain ⟨A, l, c, rfl, -, -, -, -⟩ := ha.shape
 obtain ⟨A2, l2, c2, rfl, -, -, -, -⟩ := hb.shape
 have HF := Lib.hid hf
 clear hf ha hb hx hy hT e
 generalize (mulD x y).raw = o at *
 generalize x.raw.neg = n1 at *
 generalize x.raw.e = e1 at *
 generalize y.raw.neg = n2 at *
 generalize y.raw.e = e2 at *
 obtain ⟨W, hW, kW, B0, B1, B2⟩ := boxes3 w (.bool n1) (.slice A l c) (.int .i64 e1) (.bool n2) (.slice A2 l2 c2) (.int .i64 e2)
 have HW := Lib.hid hW
 have HK := Lib.hid kW
 have HB := Lib.hid B2
 clear hW kW B0 B1 B2
 go_enter Tryz.func23, Tryz.ntmps23
 go_wp2_with (go_at_call 44; rw [← HW.out]; refine (HF.out _ HK.out).mono ?_; rintro e w1 ⟨q, u, rfl, hd⟩; obtain ⟨A', l', c', rfl, -, hd, g3, g4⟩ := hd.shape; have HD := Lib.hid hd; have hb2 := HB.out.kept q; obtain ⟨_, c0, c1, c2, f0, f1, f2⟩ := hb2.facts; have HB2 := Lib.hid hb2; clear hd hb2)
 exact ret_dy2 (HB2.out.laid _ _ _) rfl rfl rfl ⟨dyW_kept (HK.out.trans q) (by omega), _, rfl, (HD.out.dyW HB2.out (noLimb_bool _) (noLimb_slice _ _ _) (noLimb_i64 _)).dyR g3 g4⟩
section
variable {P : Program} {ops : Array Oper} {Q : Exit → Act → World → Prop}
theorem step_imp {V V1 : Nat → Value → World → Prop} {i : Nat} {o : Oper} {a : Act} {w : World} (h : StepOK P ops Q V1 i o a w) (hi : ∀ v w', V1 i v w' → V i v w') : StepOK P ops Q V i o a w := by
 unfold StepOK at *
 by_cases hw : Region.wanted o (yielded ops a.tmps) = true
 ·rw [if_pos hw] at h ⊢
  exact Oper.wp_mono (fun a' w' ⟨v, h1, h2, h3⟩ => ⟨v, h1, h2, hi v w' h3⟩) h
 ·rw [if_neg hw] at h ⊢
  exact hi _ _ h
end
end Go.Proofs.YtgododcbmkpbjaaGreatDoor
