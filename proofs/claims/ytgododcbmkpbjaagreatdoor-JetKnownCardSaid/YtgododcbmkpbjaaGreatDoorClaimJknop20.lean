/- Steps of a region whose guard is not known: what they yield if they are wanted. -/
import Derived.Test.YtgododcbmkpbjaaGreatDoorClaimJknop05
import Derived.Test.YtgododcbmkpbjaaGreatDoorClaimJknop18
import Derived.Test.YtgododcbmkpbjaaGreatDoorClaimJknop19
import Derived.KernelRfl
set_option maxRecDepth 100000
set_option maxHeartbeats 16000000
namespace Go.Proofs.YtgododcbmkpbjaaGreatDoor
open Go.RowKit
section
variable {P : Program} {ops : Array Oper} {Q : Exit → Act → World → Prop} {md : Region.Mode}
/-- Words for the values, one behind the other. -/
def VL (l : List (Value → World → Prop)) : Nat → Value → World → Prop := fun i v w => (l.getD i (fun _ _ => True)) v w
def Mono (p : Value → World → Prop) : Prop := ∀ v w w', Kept w w' → p v w → p v w'
def MonoL : List (Value → World → Prop) → Prop
 | [] => True
 | p :: l => Mono p ∧ MonoL l
theorem mono_of : ∀ (l : List (Value → World → Prop)), MonoL l → ∀ i v w w', Kept w w' → VL l i v w → VL l i v w'
 | [], _, _, _, _, _, _, _ => trivial
 | _ :: _, h, 0, v, w, w', k, hv => h.1 v w w' k hv
 | _ :: l, h, i + 1, v, w, w', k, hv => mono_of l h.2 i v w w' k hv
/-- The steps of the operations of a list. -/
def StepsOK (P : Program) (md : Region.Mode) (ops : Array Oper) (Q : Exit → Act → World → Prop) (m : Nat) (V : Nat → Value → World → Prop) (a0 : Act) (W : World) : Nat → Nat → List Oper → Prop
 | _, 0, _ => True
 | _, _ + 1, [] => True
 | i, k + 1, o :: l => (∀ a w, Finds md ops m V a0 W i a w → StepOK P ops Q V i o a w) ∧ StepsOK P md ops Q m V a0 W (i + 1) k l
theorem steps_at {m : Nat} {V : Nat → Value → World → Prop} {a0 : Act} {W : World} : ∀ (k i0 : Nat) (l : List Oper), StepsOK P md ops Q m V a0 W i0 k l →
 ∀ i o, i < k → l[i]? = some o → ∀ a w, Finds md ops m V a0 W (i0 + i) a w → StepOK P ops Q V (i0 + i) o a w
 | 0, _, _, _, _, _, hi, _ => absurd hi (Nat.not_lt_zero _)
 | k + 1, _, [], _, _, _, _, ho => by simp at ho
 | k + 1, i0, x :: l, h, 0, o, _, ho => by
   simp at ho; subst ho
   exact h.1
 | k + 1, i0, x :: l, h, i + 1, o, hi, ho => by
   have := steps_at k (i0 + 1) l h.2 i o (by omega) (by simpa using ho)
   have e : i0 + 1 + i = i0 + (i + 1) := by omega
   rw [e] at this
   exact this
theorem steps_of {m : Nat} {V : Nat → Value → World → Prop} {a0 : Act} {W : World} (h : StepsOK P md ops Q m V a0 W 0 m ops.toList) :
 ∀ i o, i < m → ops[i]? = some o → ∀ a w, Finds md ops m V a0 W i a w → StepOK P ops Q V i o a w := by
 intro i o hi ho
 have := steps_at m 0 ops.toList h i o hi (by simpa using ho)
 simpa using this
theorem step_val {V : Nat → Value → World → Prop} {i : Nat} {o : Oper} {a : Act} {w : World} {v : Value} (hw : Region.wanted o (yielded ops a.tmps) = true)
 (h : (execOp a.eval o).run P w = .ok (.value v) w) (hv : V i v w) : StepOK P ops Q V i o a w := by
 unfold StepOK
 rw [if_pos hw]
 unfold Oper.wp
 rw [h]
 exact ⟨v, rfl, Below.refl _ _, hv⟩
theorem wanted_guard {o : Oper} {tmps : Array Value} {g t : Nat} {b v : Bool} (hg : o.guard = some (g, b)) (hs : slotOf ops g = some t) (hv : tmps.getD t undef = .bool v) : Region.wanted o (yielded ops tmps) = (v == b) := by
 have h1 : tmps[t]? = some (.bool v) := by
  rw [Array.getD_eq_getD_getElem?] at hv
  cases h : tmps[t]? with
  | none => rw [h] at hv; cases hv
  | some x => rw [h] at hv; simp at hv; rw [hv]
 unfold slotOf at hs
 simp only [Region.wanted, hg, yielded, hs, Option.bind_some, h1]
 cases v <;> cases b <;> rfl
/-- A guarded operation that is left out. -/
theorem step_out {V : Nat → Value → World → Prop} {i : Nat} {o : Oper} {a : Act} {w : World}
 (h : Region.wanted o (yielded ops a.tmps) = false) (hv : V i undef w) : StepOK P ops Q V i o a w := by
 unfold StepOK
 rw [if_neg (by rw [h]; simp)]
 exact hv
/-- It makes memory and does nothing else. -/
theorem step_new {V : Nat → Value → World → Prop} {i : Nat} {o : Oper} {a : Act} {w w' : World} {v : Value} (hw : Region.wanted o (yielded ops a.tmps) = true)
 (h : (execOp a.eval o).run P w = .ok (.value v) w') (hk : Kept w w') (hv : V i v w') : StepOK P ops Q V i o a w := by
 unfold StepOK
 rw [if_pos hw]
 unfold Oper.wp
 rw [h]
 exact ⟨v, rfl, hk, hv⟩
theorem step_call {V : Nat → Value → World → Prop} {i : Nat} {o : Oper} {a : Act} {w : World} {f : FuncId} {args : Array Value} {R : Ending → World → Prop} (hw : Region.wanted o (yielded ops a.tmps) = true)
 (h : (execOp a.eval o).run P w = .ok (.enter f args) w) (hc : Calls P f args w R)
 (hr : ∀ e w', R e w' → (∃ v, e = .returned v ∧ Kept w w' ∧ V i v w') ∨ (∃ c, e = .panicked c ∧ Q (.panic c) a w')) : StepOK P ops Q V i o a w := by
 unfold StepOK
 rw [if_pos hw]
 unfold Oper.wp
 rw [h]
 refine Calls.mono hc (fun e w' he => ?_)
 rcases hr e w' he with ⟨v, rfl, hk, hv⟩ | ⟨c, rfl, hq⟩
 ·exact ⟨v, rfl, hk, hv⟩
 ·exact hq
end
theorem cell_at {W w : World} {b : Nat} {cs : Array Value} {T : TypeId} (h : W.heap[b]? = some (.cells cs T (0, 0))) (k : Kept W w) (i : Nat) (v : Value) (hi : cs[i]? = some v) : w.cell? ⟨b, i, none⟩ = some v :=
 cell_of_block ((k.block b (Array.getElem?_eq_some_iff.1 h).1).trans h) i v hi
/-- What a contract's end gives to a step. -/
def GoodEnd (p : Value → World → Prop) (w : World) (e : Ending) (w' : World) : Prop := ∃ v, e = .returned v ∧ Kept w w' ∧ p v w'
theorem RetQ.good {v : Value} {w w' : World} {e : Ending} (h : RetQ v w e w') : GoodEnd (fun u _ => u = v) w e w' := by
 obtain ⟨he, n, rfl⟩ := h
 exact ⟨v, he, Kept.drewN (Below.refl _ _) n, rfl⟩
theorem RetK.good {v : Value} {w w' : World} {e : Ending} (h : RetK v w e w') : GoodEnd (fun u _ => u = v) w e w' := ⟨v, h.1, h.2, rfl⟩
theorem RetLim.good {xs : List Nat} {w w' : World} {e : Ending} (h : RetLim xs w e w') : GoodEnd (fun u w => Lim w u xs) w e w' := by
 obtain ⟨v, he, hl, k⟩ := h
 exact ⟨v, he, k, hl⟩
theorem RetD.good {r : Raw} {w w' : World} {e : Ending} (h : RetD r w e w') : GoodEnd (fun u w => DyR w u r) w e w' := by
 obtain ⟨k, v, he, hl⟩ := h
 exact ⟨v, he, k, hl⟩
theorem RetE.good {o : Outc Raw} {w w' : World} {e : Ending} (h : RetE o w e w') : GoodEnd (fun u w => ∃ d, u = .tuple #[d, .int .i64 o.k] ∧ DyR w d o.v) w e w' := by
 obtain ⟨k, v, he, hl⟩ := h
 exact ⟨_, he, k, v, rfl, hl⟩
theorem RetQR.good {n m : Nat} {w w' : World} {e : Ending} (h : RetQR n m w e w') : GoodEnd (fun u w => ∃ q r, u = .tuple #[q, r] ∧ Lim w q (limbs (n / m)) ∧ Lim w r (limbs (n % m))) w e w' := by
 obtain ⟨q, r, he, h1, h2, k⟩ := h
 exact ⟨_, he, k, q, r, rfl, h1, h2⟩
section
variable {P : Program} {ops : Array Oper} {Q : Exit → Act → World → Prop}
theorem step_good {V : Nat → Value → World → Prop} {i : Nat} {o : Oper} {a : Act} {w : World} {f : FuncId} {args : Array Value} {R : Ending → World → Prop} {p : Value → World → Prop} (hw : Region.wanted o (yielded ops a.tmps) = true)
 (h : (execOp a.eval o).run P w = .ok (.enter f args) w) (hc : Calls P f args w R)
 (hr : ∀ e w', R e w' → GoodEnd p w e w') (hp : ∀ v w', p v w' → V i v w') : StepOK P ops Q V i o a w :=
 step_call hw h hc fun e w' he => by
  obtain ⟨v, he, k, hv⟩ := hr e w' he
  exact .inl ⟨v, he, k, hp v w' hv⟩
theorem step_goes {V : Nat → Value → World → Prop} {i : Nat} {o : Oper} {a : Act} {w : World} {f : FuncId} {args : Array Value} {T : TypeId} {t : Outc Raw} (hw : Region.wanted o (yielded ops a.tmps) = true)
 (h : (execOp a.eval o).run P w = .ok (.enter f args) w) (hc : Calls P f args w (Goes T t w))
 (hp : ∀ v w', Kept w w' → t.k = 0 → DyR w' v t.v → V i v w') (hq : ∀ w', Kept w w' → t.k ≠ 0 → Q (.panic (failV T t.k)) a w') : StepOK P ops Q V i o a w :=
 step_call hw h hc fun e w' he => by
  obtain ⟨k, ⟨h0, v, he, hd⟩ | ⟨h0, he⟩⟩ := he
  ·exact .inl ⟨v, he, k, hp v w' k h0 hd⟩
  ·exact .inr ⟨_, he, hq w' k h0⟩
end
theorem z1 {α : Type} (xs : List α) (i : Nat) (a : α) : xs.toArray.setIfInBounds i a = (xs.set i a).toArray := List.setIfInBounds_toArray ..
theorem z2 {α : Type} (a b : α) (l : List α) : (a :: l).set 0 b = b :: l := List.set_cons_zero ..
theorem z3 {α : Type} (a b : α) (l : List α) (n : Nat) : (a :: l).set (n + 1) b = a :: l.set n b := List.set_cons_succ ..
theorem z4 {α : Type} (xs : List α) (i : Nat) : xs.toArray[i]? = xs[i]? := List.getElem?_toArray ..
theorem z5 {α : Type} (a : α) (l : List α) : (a :: l)[0]? = some a := List.getElem?_cons_zero ..
theorem z6 {α : Type} (a : α) (l : List α) (i : Nat) : (a :: l)[i + 1]? = l[i]? := List.getElem?_cons_succ ..
theorem z7 {α β : Type} (f : α → Option β) (a : α) : (some a).bind f = f a := Option.bind_some ..
/-- A value. -/
def vE (x : Value) : Value → World → Prop := fun v _ => v = x
/-- A pointer. -/
abbrev vP (b o : Nat) : Value → World → Prop := vE (.pointer (some ⟨b, o, none⟩))
theorem mE {x : Value} : Mono (vE x) := fun _ _ _ _ h => h
theorem mD {r : Raw} : Mono (fun v w => DyR w v r) := fun _ _ _ k h => h.kept k
theorem mL {r : List Nat} : Mono (fun v w => Lim w v r) := fun _ _ _ k h => h.kept k
section
variable {P : Program} {ops : Array Oper} {Q : Exit → Act → World → Prop} {md : Region.Mode} {m i : Nat} {l : List (Value → World → Prop)} {a0 a : Act} {W w : World}
theorem Finds.v (F : Finds md ops m (VL l) a0 W i a w) (j t : Nat) {x : Value} (h : l.getD j (fun _ _ => True) = vE x := by exact rfl) (h1 : waitsFor md ops i j = true := by kernel_rfl) (h2 : slotOf ops j = some t := by exact rfl) : a.tmps.getD t undef = x := by
 have h3 := F.done j t h1 h2
 unfold VL at h3
 rw [h] at h3
 exact h3
theorem Finds.p (F : Finds md ops m (VL l) a0 W i a w) (j t : Nat) {p : Value → World → Prop} (h : l.getD j (fun _ _ => True) = p := by exact rfl) (h1 : waitsFor md ops i j = true := by kernel_rfl) (h2 : slotOf ops j = some t := by exact rfl) : p (a.tmps.getD t undef) w := by
 have h3 := F.done j t h1 h2
 unfold VL at h3
 rw [h] at h3
 exact h3
theorem Finds.o {V : Nat → Value → World → Prop} (F : Finds md ops m V a0 W i a w) (t : Nat) (h : untouched md ops m i t = true := by kernel_rfl) : a.tmps.getD t undef = a0.tmps.getD t undef := F.old t h
theorem hv {u : Nat → Value} (hu : ∀ i, i < m → VL l i (u i) w) (i : Nat) {x : Value} (h : l.getD i (fun _ _ => True) = vE x := by exact rfl) (h2 : i < m := by decide) : u i = x := by
 have h3 := hu i h2
 unfold VL at h3
 rw [h] at h3
 exact h3
theorem hp {u : Nat → Value} (hu : ∀ i, i < m → VL l i (u i) w) (i : Nat) {p : Value → World → Prop} (h : l.getD i (fun _ _ => True) = p := by exact rfl) (h2 : i < m := by decide) : p (u i) w := by
 have h3 := hu i h2
 unfold VL at h3
 rw [h] at h3
 exact h3
variable {V : Nat → Value → World → Prop} {o : Oper} {v : Value} {f : FuncId} {args : Array Value}
theorem sv (hv : V i v w) (hw : Region.wanted o (yielded ops a.tmps) = true := by simp [Region.wanted]) (h : (execOp a.eval o).run P w = .ok (.value v) w := by go_simp) : StepOK P ops Q V i o a w := step_val hw h hv
theorem sw (h : (execOp a.eval o).run P w = .ok (.value v) w) (hv : V i v w) (hw : Region.wanted o (yielded ops a.tmps) = true := by simp [Region.wanted]) : StepOK P ops Q V i o a w := step_val hw h hv
theorem sQ {x : Value} (hc : Calls P f args w (RetQ x w)) (hp : ∀ v w', v = x → V i v w') (hw : Region.wanted o (yielded ops a.tmps) = true := by simp [Region.wanted]) (h : (execOp a.eval o).run P w = .ok (.enter f args) w := by go_simp) : StepOK P ops Q V i o a w :=
 step_good hw h hc (fun _ _ h => RetQ.good h) hp
theorem sK {x : Value} (hc : Calls P f args w (RetK x w)) (hp : ∀ v w', v = x → V i v w') (hw : Region.wanted o (yielded ops a.tmps) = true := by simp [Region.wanted]) (h : (execOp a.eval o).run P w = .ok (.enter f args) w := by go_simp) : StepOK P ops Q V i o a w :=
 step_good hw h hc (fun _ _ h => RetK.good h) hp
theorem sL {x : List Nat} (hc : Calls P f args w (RetLim x w)) (hp : ∀ v w', Lim w' v x → V i v w') (hw : Region.wanted o (yielded ops a.tmps) = true := by simp [Region.wanted]) (h : (execOp a.eval o).run P w = .ok (.enter f args) w := by go_simp) : StepOK P ops Q V i o a w :=
 step_good hw h hc (fun _ _ h => RetLim.good h) hp
theorem sD {x : Raw} (hc : Calls P f args w (RetD x w)) (hp : ∀ v w', DyR w' v x → V i v w') (hw : Region.wanted o (yielded ops a.tmps) = true := by simp [Region.wanted]) (h : (execOp a.eval o).run P w = .ok (.enter f args) w := by go_simp) : StepOK P ops Q V i o a w :=
 step_good hw h hc (fun _ _ h => RetD.good h) hp
theorem sG {T : TypeId} {t : Outc Raw} (hc : Calls P f args w (Goes T t w)) (hp : ∀ v w', Kept w w' → t.k = 0 → DyR w' v t.v → V i v w') (hq : ∀ w', Kept w w' → t.k ≠ 0 → Q (.panic (failV T t.k)) a w') (hw : Region.wanted o (yielded ops a.tmps) = true := by simp [Region.wanted]) (h : (execOp a.eval o).run P w = .ok (.enter f args) w := by go_simp) : StepOK P ops Q V i o a w :=
 step_goes hw h hc hp hq
theorem so (j t : Nat) {b v : Bool} (hs : slotOf ops j = some t := by exact rfl) (hv : l.getD j (fun _ _ => True) = vE (.bool v) := by exact rfl) (hl : l.getD i (fun _ _ => True) = vE undef := by exact rfl) (hg : o.guard = some (j, b) := by exact rfl) (hb : (v == b) = false := by exact rfl)
 (h1 : waitsFor md ops i j = true := by kernel_rfl) : ∀ a w, Finds md ops m (VL l) a0 W i a w → StepOK P ops Q (VL l) i o a w := fun _ _ F =>
 step_out ((wanted_guard hg hs (F.v j t hv h1 hs)).trans hb) (by unfold VL; rw [hl]; rfl)
end
section
variable {P : Program} {ops : Array Oper} {Q : Exit → Act → World → Prop}
theorem seq_steps {m : Nat} {V : Nat → Value → World → Prop} {a0 : Act} {W : World}
 (hsz : m ≤ ops.size) (hap : apartSlots ops m = true) (hin : slotsIn ops m a0.tmps.size = true) (hbk : backOk .any ops = true)
 (hmono : ∀ i v w w', Kept w w' → V i v w → V i v w')
 (hstep : ∀ i o, i < m → ops[i]? = some o → ∀ a w, Finds .any ops m V a0 W i a w → StepOK P ops Q V i o a w)
 (hend : ∀ u w, Kept W w → (∀ i, i < m → V i (u i) w) → wpOps P ops Q (List.range' m (ops.size - m)) (puts ops (fun _ => true) u m a0) w) :
 ∀ (k i : Nat) (u : Nat → Value) (w : World), i + k = m → Kept W w → (∀ j, j < i → V j (u j) w) → wpOps P ops Q (List.range' i (ops.size - i)) (puts ops (fun j => decide (j < i)) u m a0) w := by
 intro k
 induction k with
 | zero =>
   intro i u w hi hk hu
   obtain rfl : i = m := by omega
   have e : puts ops (fun j => decide (j < i)) u i a0 = puts ops (fun _ => true) u i a0 := puts_congr i (fun j hj => ⟨by simp [hj], rfl⟩)
   rw [e]
   exact hend u w hk hu
 | succ k ih =>
   intro i u w hi hk hu
   have him : i < m := by omega
   have his : i < ops.size := by omega
   obtain ⟨r, hr⟩ : ∃ r, ops.size - i = r + 1 := ⟨ops.size - i - 1, by omega⟩
   have hr' : ops.size - (i + 1) = r := by omega
   rw [hr, List.range'_succ]
   have hoi := Array.getElem?_eq_getElem his
   have hback : ∀ x y, waitsFor .any ops x y = true → y < x := by
    intro x y hxy
    unfold waitsFor at hxy
    by_cases hx : x < ops.size
    ·have h1 := all_range hbk x hx
     rw [Array.getElem?_eq_getElem hx] at h1 hxy
     simp only [Option.map_some, Option.getD_some, Array.all_eq_true', Array.any_eq_true'] at h1 hxy
     obtain ⟨e, he, hb⟩ := hxy
     simp only [Bool.and_eq_true, beq_iff_eq] at hb
     have := h1 e he
     rw [hb.1, hb.2] at this
     simpa using this
    ·rw [Array.getElem?_eq_none (by omega)] at hxy; simp at hxy
   have hF : Finds .any ops m V a0 W i (puts ops (fun j => decide (j < i)) u m a0) w := by
    refine ⟨hk, puts_defers m, fun j t hw hs => ?_, fun t hu0 => ?_⟩
    ·have hji := hback i j hw
     have hjm : j < m := by omega
     have htn : t < a0.tmps.size := by
      have := all_range hin j hjm
      rw [hs] at this
      simpa using this
     rw [getD_puts_some (i := j) htn (by simp [hji]) hs m hjm (fun j' hj' hne => ?_)]
     ·exact hu j hji
     ·have h1 := all_range (all_range hap j hjm) j' hj'
      rw [hs] at h1
      simp only [Bool.or_eq_true, beq_iff_eq, bne_iff_ne] at h1
      rcases h1 with (h1 | h1) | h1
      ·exact absurd h1.symm hne
      ·cases h1
      ·exact fun h => h1 h.symm
    ·refine getD_puts_none m (fun j hj hjl hs => ?_)
     have h1 := all_range hu0 j hj
     rw [hs] at h1
     simp only [bne_self_eq_false, Bool.false_or, Bool.or_eq_true, beq_iff_eq] at h1
     simp only [decide_eq_true_eq] at hjl
     rcases h1 with h1 | h1
     ·omega
     ·have := hback j i h1; omega
   have hs := hstep i ops[i] him hoi _ w hF
   unfold StepOK at hs
   have hso : (ops[i]).dst = slotOf ops i := by unfold slotOf; rw [hoi]; rfl
   have hput : ∀ v, (puts ops (fun j => decide (j < i)) u m a0).put (ops[i]).dst v = puts ops (fun j => decide (j < i + 1)) (upd u i v) m a0 := by
    intro v
    rw [hso, puts_add (S := fun j => decide (j < i)) (by simp) m him (fun j hj hne => ?_)]
    ·refine puts_congr m (fun j _ => ⟨?_, rfl⟩)
     unfold upd
     by_cases hj : j = i
     ·rw [if_pos hj]; simp; omega
     ·rw [if_neg hj]
      by_cases h2 : j < i
      ·simp [h2]; omega
      ·simp [h2]; omega
    ·have h1 := all_range (all_range hap i him) j hj
     simp only [Bool.or_eq_true, beq_iff_eq, bne_iff_ne] at h1
     rcases h1 with (h1 | h1) | h1
     ·exact absurd h1.symm hne
     ·exact .inl h1
     ·exact .inr h1
   have hnext : ∀ v w', Kept w w' → V i v w' → wpOps P ops Q (List.range' (i + 1) r) ((puts ops (fun j => decide (j < i)) u m a0).put (ops[i]).dst v) w' := by
    intro v w' hk' hv
    rw [hput]
    have := ih (i + 1) (upd u i v) w' (by omega) (hk.trans hk') (fun j hj => by
     unfold upd
     by_cases hji : j = i
     ·subst hji; rw [if_pos rfl]; exact hv
     ·rw [if_neg hji]; exact hmono j _ _ _ hk' (hu j (by omega)))
    rw [hr'] at this
    exact this
   unfold wpOps
   simp only [hoi]
   by_cases hw : Region.wanted ops[i] (yielded ops (puts ops (fun j => decide (j < i)) u m a0).tmps) = true
   ·rw [if_pos hw] at hs ⊢
    refine .inl (Oper.wp_mono (fun a' w' h => ?_) hs)
    obtain ⟨v, rfl, hk', hv⟩ := h
    exact hnext v w' hk' hv
   ·rw [if_neg hw] at hs ⊢
    exact hnext undef w (Below.refl _ _) hs
theorem seq_start {id m : Nat} {V : Nat → Value → World → Prop} {a0 : Act} {W : World}
 (hsz : m ≤ ops.size) (hap : apartSlots ops m = true) (hin : slotsIn ops m a0.tmps.size = true) (hbk : backOk .any ops = true)
 (hmono : ∀ i v w w', Kept w w' → V i v w → V i v w')
 (hstep : ∀ i o, i < m → ops[i]? = some o → ∀ a w, Finds .any ops m V a0 W i a w → StepOK P ops Q V i o a w)
 (hend : ∀ u w, Kept W w → (∀ i, i < m → V i (u i) w) → wpOps P ops Q (List.range' m (ops.size - m)) (puts ops (fun _ => true) u m a0) w) :
 (Code.region id ops false).wp P Q a0 W := by
 refine wp_region ?_
 rw [List.range_eq_range']
 have h := seq_steps hsz hap hin hbk hmono hstep hend m 0 (fun _ => undef) W (by omega) (Below.refl _ _) (fun j hj => absurd hj (Nat.not_lt_zero _))
 have e : ∀ n, puts ops (fun j => decide (j < 0)) (fun _ => undef) n a0 = a0 := by
  intro n
  induction n with
  | zero => rfl
  | succ n ih => unfold puts; rw [if_neg (by simp), ih]
 rw [e m, Nat.sub_zero] at h
 exact h
theorem region_seq {id m : Nat} {V : Nat → Value → World → Prop} {a0 : Act} {W : World}
 (hsz : m = ops.size) (hap : apartSlots ops m = true) (hin : slotsIn ops m a0.tmps.size = true) (hbk : backOk .any ops = true)
 (hmono : ∀ i v w w', Kept w w' → V i v w → V i v w')
 (hstep : ∀ i o, i < m → ops[i]? = some o → ∀ a w, Finds .any ops m V a0 W i a w → StepOK P ops Q V i o a w)
 (hend : ∀ u w, Kept W w → (∀ i, i < m → V i (u i) w) → Q .normal (puts ops (fun _ => true) u m a0) w) :
 (Code.region id ops false).wp P Q a0 W := by
 refine seq_start (by omega) hap hin hbk hmono hstep (fun u w k hu => ?_)
 have : ops.size - m = 0 := by omega
 rw [this]
 exact hend u w k hu
theorem wpOps_one {i : Nat} {o : Oper} {a : Act} {w : World} {rest : List Nat} (ho : ops[i]? = some o) (hg : o.guard = none) (h : o.wp P a w (fun a w => wpOps P ops Q rest a w) Q) : wpOps P ops Q (i :: rest) a w := by
 unfold wpOps
 simp only [ho]
 have : Region.wanted o (yielded ops a.tmps) = true := by simp [Region.wanted, hg]
 rw [if_pos this]
 exact .inl h
theorem region_seq1 {id m : Nat} {V : Nat → Value → World → Prop} {a0 : Act} {W : World} {o : Oper}
 (hsz : m + 1 = ops.size) (ho : ops[m]? = some o) (hg : o.guard = none) (hap : apartSlots ops m = true) (hin : slotsIn ops m a0.tmps.size = true) (hbk : backOk .any ops = true)
 (hmono : ∀ i v w w', Kept w w' → V i v w → V i v w')
 (hstep : ∀ i o, i < m → ops[i]? = some o → ∀ a w, Finds .any ops m V a0 W i a w → StepOK P ops Q V i o a w)
 (hend : ∀ u w, Kept W w → (∀ i, i < m → V i (u i) w) → o.wp P (puts ops (fun _ => true) u m a0) w (Q .normal) Q) :
 (Code.region id ops false).wp P Q a0 W := by
 refine seq_start (by omega) hap hin hbk hmono hstep (fun u w k hu => ?_)
 have : ops.size - m = 0 + 1 := by omega
 rw [this, List.range'_succ]
 exact wpOps_one ho hg (hend u w k hu)
theorem region_seq2 {id m : Nat} {V : Nat → Value → World → Prop} {a0 : Act} {W : World} {o o' : Oper}
 (hsz : m + 2 = ops.size) (ho : ops[m]? = some o) (hg : o.guard = none) (ho' : ops[m + 1]? = some o') (hg' : o'.guard = none) (hap : apartSlots ops m = true) (hin : slotsIn ops m a0.tmps.size = true) (hbk : backOk .any ops = true)
 (hmono : ∀ i v w w', Kept w w' → V i v w → V i v w')
 (hstep : ∀ i o, i < m → ops[i]? = some o → ∀ a w, Finds .any ops m V a0 W i a w → StepOK P ops Q V i o a w)
 (hend : ∀ u w, Kept W w → (∀ i, i < m → V i (u i) w) → o.wp P (puts ops (fun _ => true) u m a0) w (fun a w => o'.wp P a w (Q .normal) Q) Q) :
 (Code.region id ops false).wp P Q a0 W := by
 refine seq_start (by omega) hap hin hbk hmono hstep (fun u w k hu => ?_)
 have : ops.size - m = 1 + 1 := by omega
 rw [this, List.range'_succ]
 refine wpOps_one ho hg (Oper.wp_mono (fun a w h => ?_) (hend u w k hu))
 rw [List.range'_succ]
 exact wpOps_one ho' hg' h
end
section
variable {P : Program} {ops : Array Oper} {Q : Exit → Act → World → Prop}
theorem step_imp {V V1 : Nat → Value → World → Prop} {i : Nat} {o : Oper} {a : Act} {w : World} (h : StepOK P ops Q V1 i o a w) (hi : ∀ v w', V1 i v w' → V i v w') : StepOK P ops Q V i o a w := by
 unfold StepOK at *
 by_cases hw : Region.wanted o (yielded ops a.tmps) = true
 ·rw [if_pos hw] at h ⊢
  exact Oper.wp_mono (fun a' w' ⟨v, h1, h2, h3⟩ => ⟨v, h1, h2, hi v w' h3⟩) h
 ·rw [if_neg hw] at h ⊢
  exact hi _ _ h
end
end Go.Proofs.YtgododcbmkpbjaaGreatDoor
