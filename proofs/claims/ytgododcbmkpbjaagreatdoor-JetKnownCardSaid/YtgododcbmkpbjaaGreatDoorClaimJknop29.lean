/- A region that draws its order, whatever its operations do to memory: J tells what is so when some have come up; each tells what it does to J and to what the others have yielded. -/
import Derived.Test.YtgododcbmkpbjaaGreatDoorClaimJknop19
set_option maxRecDepth 100000
set_option maxHeartbeats 16000000
namespace Go.Proofs.YtgododcbmkpbjaaGreatDoor
open Go.RowKit
section
variable {P : Program} {ops : Array Oper} {Q : Exit → Act → World → Prop} {md : Region.Mode}
/-- What one operation has to do, wherever it comes up. -/
def StepG (P : Program) (ops : Array Oper) (Q : Exit → Act → World → Prop) (J : (Nat → Bool) → World → Prop) (V : Nat → Value → World → Prop) (L : Nat → Bool) (i : Nat) (o : Oper) (a : Act) (w : World) : Prop :=
 if Region.wanted o (yielded ops a.tmps) = true then o.wp P a w (fun a' w' => ∃ v, a' = a.put o.dst v ∧ (J (upd L i true) w' ∧ ∀ j, j ≠ i → ∀ u, V j u w → V j u w') ∧ V i v w') Q else J (upd L i true) w ∧ V i undef w
/-- What an operation finds. -/
structure FindsG (md : Region.Mode) (ops : Array Oper) (m : Nat) (J : (Nat → Bool) → World → Prop) (V : Nat → Value → World → Prop) (a0 : Act) (L : Nat → Bool) (i : Nat) (a : Act) (w : World) : Prop where
 frame : J L w
 yet : L i = false
 wait : ∀ j, waitsFor md ops i j = true → L j = true
 defers : a.defers = a0.defers
 done : ∀ j t, waitsFor md ops i j = true → slotOf ops j = some t → V j (a.tmps.getD t undef) w
 old : ∀ t, untouched md ops m i t = true → a.tmps.getD t undef = a0.tmps.getD t undef
/-- The state of such a region: which have come up, what they have yielded. -/
structure InvG (md : Region.Mode) (ops : Array Oper) (m : Nat) (J : (Nat → Bool) → World → Prop) (V : Nat → Value → World → Prop) (a0 : Act) (listed : Array Bool) (a : Act) (w : World) : Prop where
 frame : J (fun i => listed.getD i false) w
 size : listed.size = ops.size
 tail : ∀ i, m ≤ i → listed.getD i false = false
 closed : ∀ i j, listed.getD i false = true → waitsFor md ops i j = true → listed.getD j false = true
 vals : ∃ u, a = puts ops (fun i => listed.getD i false) u m a0 ∧ ∀ i, i < m → listed.getD i false = true → V i (u i) w
theorem region_stepsG {m : Nat} {J : (Nat → Bool) → World → Prop} {V : Nat → Value → World → Prop} {a0 : Act}
 (hsz : m ≤ ops.size) (hap : apartSlots ops m = true) (hin : slotsIn ops m a0.tmps.size = true) (htl : tailOk md ops m = true) (hbk : backOk md ops = true)
 (hstep : ∀ i o, i < m → ops[i]? = some o → ∀ L a w, FindsG md ops m J V a0 L i a w → StepG P ops Q J V L i o a w)
 (hend : ∀ u w L, (∀ i, i < m → L i = true) → J L w → (∀ i, i < m → V i (u i) w) → ∀ listed : Array Bool, listed.size = ops.size → (∀ i, listed.getD i false = decide (i < m)) → wpAny P md ops Q (ops.size - m) listed (puts ops (fun _ => true) u m a0) w) :
 ∀ (k : Nat) (listed : Array Bool) (a : Act) (w : World), ((List.range m).filter fun i => !listed.getD i false).length = k → InvG md ops m J V a0 listed a w → wpAny P md ops Q (ops.size - m + k) listed a w := by
 intro k
 induction k with
 | zero =>
   intro listed a w hk hI
   obtain ⟨u, rfl, hu⟩ := hI.vals
   have hall : ∀ i, i < m → listed.getD i false = true := by
    intro i hi
    have h1 := List.eq_nil_of_length_eq_zero hk
    have h2 : ∀ x ∈ (List.range m).filter (fun i => !listed.getD i false), False := by rw [h1]; intro x hx; cases hx
    cases hc : listed.getD i false
    ·exact (h2 i (List.mem_filter.2 ⟨List.mem_range.2 hi, by rw [hc]; rfl⟩)).elim
    ·rfl
   have e : puts ops (fun i => listed.getD i false) u m a0 = puts ops (fun _ => true) u m a0 := puts_congr m (fun j hj => ⟨hall j hj, rfl⟩)
   rw [e]
   refine hend u w _ hall hI.frame (fun i hi => hu i hi (hall i hi)) listed hI.size (fun i => ?_)
   by_cases hi : i < m
   ·rw [hall i hi]; simp [hi]
   ·rw [hI.tail i (by omega)]; simp [hi]
 | succ k ih =>
   intro listed a w hk hI
   obtain ⟨u, rfl, hu⟩ := hI.vals
   -- the first one that has not come up is ready, or some are ready
   refine ⟨fun hnone => ?_, fun i hi => ?_⟩
   ·exfalso
    have hex : ∃ x, x < m ∧ listed.getD x false = false := by
     cases hl : (List.range m).filter (fun i => !listed.getD i false) with
     | nil => rw [hl] at hk; simp at hk
     | cons x xs =>
       have hx : x ∈ (List.range m).filter (fun i => !listed.getD i false) := by rw [hl]; exact List.mem_cons_self ..
       obtain ⟨h1, h2⟩ := List.mem_filter.1 hx
       exact ⟨x, List.mem_range.1 h1, by simpa using h2⟩
    have hmin : ∀ n x, x ≤ n → x < m → listed.getD x false = false → ∃ y, y ∈ Region.ready md ops listed := by
     intro n
     induction n with
     | zero => 
       intro x hx hxm hxl
       obtain rfl : x = 0 := by omega
       refine ⟨0, mem_ready.2 ⟨?_, ops[0], Array.getElem?_eq_getElem (by omega), fun e he hb => ?_⟩⟩
       ·rw [Array.getD_eq_getD_getElem?, Array.getElem?_eq_getElem (by rw [hI.size]; omega)] at hxl ⊢; exact hxl
       ·have h1 := all_range hbk 0 (by omega)
        rw [Array.getElem?_eq_getElem (show 0 < ops.size by omega)] at h1
        simp only [Option.map_some, Option.getD_some, Array.all_eq_true'] at h1
        have := h1 e he
        rw [hb] at this
        simp at this
     | succ n ihn =>
       intro x hx hxm hxl
       by_cases hall : ∀ j, waitsFor md ops x j = true → listed.getD j false = true
       ·refine ⟨x, mem_ready.2 ⟨?_, ops[x], Array.getElem?_eq_getElem (by omega), fun e he hb => ?_⟩⟩
        ·rw [Array.getD_eq_getD_getElem?, Array.getElem?_eq_getElem (by rw [hI.size]; omega)] at hxl ⊢; exact hxl
        ·refine hall e.on ?_
         unfold waitsFor
         rw [Array.getElem?_eq_getElem (show x < ops.size by omega)]
         simp only [Option.map_some, Option.getD_some, Array.any_eq_true']
         exact ⟨e, he, by rw [hb]; simp⟩
       ·obtain ⟨j, hj⟩ := Classical.not_forall.1 hall
        obtain ⟨hj1, hj2⟩ := Classical.not_imp.1 hj
        have hjx : j < x := by
         have h1 := all_range hbk x (by omega)
         unfold waitsFor at hj1
         rw [Array.getElem?_eq_getElem (show x < ops.size by omega)] at h1 hj1
         simp only [Option.map_some, Option.getD_some, Array.all_eq_true', Array.any_eq_true'] at h1 hj1
         obtain ⟨e, he, hb⟩ := hj1
         simp only [Bool.and_eq_true, beq_iff_eq] at hb
         have := h1 e he
         rw [hb.1, hb.2] at this
         simpa using this
        exact ihn j (by omega) (by omega) (by simpa using hj2)
    obtain ⟨x, hx1, hx2⟩ := hex
    obtain ⟨y, hy⟩ := hmin x x (Nat.le_refl _) hx1 hx2
    rw [hnone] at hy
    cases hy
   ·obtain ⟨hjun, oi, hoi, hdep⟩ := mem_ready.1 hi
    have hil : i < listed.size := by
     by_cases hc : i < listed.size
     ·exact hc
     ·rw [Array.getD_eq_getD_getElem?, Array.getElem?_eq_none (by omega)] at hjun; simp at hjun
    have hfalse : listed.getD i false = false := by
     rw [Array.getD_eq_getD_getElem?, Array.getElem?_eq_getElem hil] at *; exact hjun
    have hdone : ∀ j, waitsFor md ops i j = true → listed.getD j false = true := by
     intro j hj
     unfold waitsFor at hj
     rw [hoi] at hj
     simp only [Option.map_some, Option.getD_some, Array.any_eq_true'] at hj
     obtain ⟨e, he, hb⟩ := hj
     simp only [Bool.and_eq_true, beq_iff_eq] at hb
     have := hdep e he hb.1
     rw [hb.2] at this
     exact this
    by_cases him : i < m
    ·have hF : FindsG md ops m J V a0 (fun i => listed.getD i false) i (puts ops (fun i => listed.getD i false) u m a0) w := by
      refine ⟨hI.frame, hfalse, hdone, puts_defers m, fun j t hw hs => ?_, fun t hu0 => ?_⟩
      ·have hjl := hdone j hw
       have hjm : j < m := by
        by_cases hc : j < m
        ·exact hc
        ·rw [hI.tail j (by omega)] at hjl; cases hjl
       have htn : t < a0.tmps.size := by
        have := all_range hin j hjm
        rw [hs] at this
        simpa using this
       rw [getD_puts_some (i := j) htn hjl hs m hjm (fun j' hj' hne => ?_)]
       ·exact hu j hjm hjl
       ·have h1 := all_range (all_range hap j hjm) j' hj'
        rw [hs] at h1
        simp only [Bool.or_eq_true, beq_iff_eq, bne_iff_ne] at h1
        rcases h1 with (h1 | h1) | h1
        ·exact absurd h1.symm hne
        ·cases h1
        ·exact fun h => h1 h.symm
      ·refine getD_puts_none m (fun j hj hjl hs => ?_)
       have h1 := all_range hu0 j hj
       rw [hs] at h1
       simp only [bne_self_eq_false, Bool.false_or, Bool.or_eq_true, beq_iff_eq] at h1
       rcases h1 with h1 | h1
       ·rw [← h1, hfalse] at hjl; cases hjl
       ·have := hI.closed j i hjl h1
        rw [hfalse] at this; cases this
     have hs := hstep i oi him hoi _ _ w hF
     unfold StepG at hs
     unfold wpOp
     simp only [hoi]
     have hput : ∀ v w', (J (upd (fun i => listed.getD i false) i true) w' ∧ ∀ j, j ≠ i → ∀ u, V j u w → V j u w') → V i v w' → InvG md ops m J V a0 (listed.setIfInBounds i true) ((puts ops (fun i => listed.getD i false) u m a0).put oi.dst v) w' := by
      intro v w' hk' hv
      have hso : oi.dst = slotOf ops i := by unfold slotOf; rw [hoi]; rfl
      have hset : ∀ j, (listed.setIfInBounds i true).getD j false = upd (fun i => listed.getD i false) i true j := by
       intro j
       unfold upd
       by_cases hj : j = i
       ·subst hj
        rw [if_pos rfl, Array.getD_eq_getD_getElem?]
        simp [hil]
       ·rw [if_neg hj, getD_set_ne false (fun h => hj h.symm)]
      refine ⟨by rw [show (fun j => (listed.setIfInBounds i true).getD j false) = upd (fun i => listed.getD i false) i true from funext hset]; exact hk'.1, by rw [Array.size_setIfInBounds, hI.size], fun j hj => ?_, fun j l hj hw => ?_, upd u i v, ?_, fun j hj hjl => ?_⟩
      ·rw [getD_set_ne false (by omega)]; exact hI.tail j hj
      ·rw [hset] at hj ⊢
       unfold upd at hj ⊢
       by_cases hji : j = i
       ·subst hji
        by_cases hli : l = j
        ·rw [if_pos hli]
        ·rw [if_neg hli]; exact hdone l hw
       ·rw [if_neg hji] at hj
        by_cases hli : l = i
        ·rw [if_pos hli]
        ·rw [if_neg hli]; exact hI.closed j l hj hw
      ·rw [hso, puts_add (S := fun i => listed.getD i false) hfalse m him (fun j hj hne => ?_)]
       ·exact puts_congr m (fun j _ => ⟨(hset j).symm, rfl⟩)
       ·have h1 := all_range (all_range hap i him) j hj
        simp only [Bool.or_eq_true, beq_iff_eq, bne_iff_ne] at h1
        rcases h1 with (h1 | h1) | h1
        ·exact absurd h1.symm hne
        ·exact .inl h1
        ·exact .inr h1
      ·rw [hset] at hjl
       unfold upd at hjl ⊢
       by_cases hji : j = i
       ·subst hji; rw [if_pos rfl]; exact hv
       ·rw [if_neg hji] at hjl ⊢
        exact hk'.2 j hji _ (hu j hj hjl)
     have hcount : ((List.range m).filter fun j => !(listed.setIfInBounds i true).getD j false).length = k := by
      have h1 : (List.range m).filter (fun j => !(listed.setIfInBounds i true).getD j false) = ((List.range m).filter (fun j => !listed.getD j false)).filter (fun j => j != i) := by
       rw [List.filter_filter]
       apply List.filter_congr
       intro j _
       by_cases hj : j = i
       ·subst hj
        rw [Array.getD_eq_getD_getElem?]
        simp [hil]
       ·rw [getD_set_ne false (fun h => hj h.symm)]
        simp [hj]
      rw [h1]
      have hnd : ((List.range m).filter (fun j => !listed.getD j false)).Nodup := List.Pairwise.filter _ List.nodup_range
      have hmem : i ∈ (List.range m).filter (fun j => !listed.getD j false) := List.mem_filter.2 ⟨List.mem_range.2 him, by rw [hfalse]; rfl⟩
      have h2 : ∀ (l : List Nat), l.Nodup → i ∈ l → (l.filter (fun j => j != i)).length + 1 = l.length := by
       intro l
       induction l with
       | nil => intro _ h; cases h
       | cons x xs ihx =>
         intro hn hm
         obtain ⟨hx, hn'⟩ := List.nodup_cons.1 hn
         by_cases hxi : x = i
         ·subst hxi
          have : xs.filter (fun j => j != x) = xs := by
           rw [List.filter_eq_self]
           intro y hy
           simp only [bne_iff_ne]
           rintro rfl
           exact hx hy
          rw [List.filter_cons_of_neg (by simp), this]
          rfl
         ·have hm' : i ∈ xs := by
           rcases List.mem_cons.1 hm with h | h
           ·exact absurd h.symm hxi
           ·exact h
          rw [List.filter_cons_of_pos (by simp [hxi])]
          simp only [List.length_cons]
          rw [ihx hn' hm']
      have := h2 _ hnd hmem
      omega
     by_cases hw : Region.wanted oi (yielded ops (puts ops (fun i => listed.getD i false) u m a0).tmps) = true
     ·rw [if_pos hw] at hs ⊢
      refine .inl (Oper.wp_mono (fun a' w' h => ?_) hs)
      obtain ⟨v, rfl, hk', hv⟩ := h
      exact ih _ _ _ hcount (hput v w' hk' hv)
     ·rw [if_neg hw] at hs ⊢
      exact ih _ _ _ hcount (hput undef w ⟨hs.1, fun j _ _ h => h⟩ hs.2)
    ·-- an operation behind waits for one that has not come up
     exfalso
     have hex : ∃ x, x < m ∧ listed.getD x false = false := by
      cases hl : (List.range m).filter (fun i => !listed.getD i false) with
      | nil => rw [hl] at hk; simp at hk
      | cons x xs =>
        have hx : x ∈ (List.range m).filter (fun i => !listed.getD i false) := by rw [hl]; exact List.mem_cons_self ..
        obtain ⟨h1, h2⟩ := List.mem_filter.1 hx
        exact ⟨x, List.mem_range.1 h1, by simpa using h2⟩
     obtain ⟨x, hx1, hx2⟩ := hex
     have h1 := all_range htl i (by rw [← hI.size]; exact hil)
     simp only [Bool.or_eq_true, decide_eq_true_eq] at h1
     have h2 := closL_listed (L := fun j => listed.getD j false) hI.closed ops.size i x (by rw [← hI.size]; exact hil) (all_range (h1.resolve_left him) x hx1) hdone
     rw [hx2] at h2; cases h2
/-- All of them in whatever order, if none stands behind. -/
theorem region_linG {id m : Nat} {J : (Nat → Bool) → World → Prop} {V : Nat → Value → World → Prop} {a0 : Act} {W : World} (hm : P.follows .mixedOrders = true)
 (hsz : m = ops.size) (hap : apartSlots ops m = true) (hin : slotsIn ops m a0.tmps.size = true) (hbk : backOk .any ops = true)
 (hJ : J (fun _ => false) W.drew)
 (hstep : ∀ i o, i < m → ops[i]? = some o → ∀ L a w, FindsG .any ops m J V a0 L i a w → StepG P ops Q J V L i o a w)
 (hend : ∀ u w L, (∀ i, i < m → L i = true) → J L w → (∀ i, i < m → V i (u i) w) → Q .normal (puts ops (fun _ => true) u m a0) w) :
 (Code.region id ops true).wp P Q a0 W := by
 refine wp_region_any hm ?_
 have htl : tailOk .any ops m = true := by
  unfold tailOk
  rw [List.all_eq_true]
  intro i hi
  have := List.mem_range.1 hi
  simp; left; omega
 have h := region_stepsG (md := .any) (a0 := a0) (J := J) (V := V) (Q := Q) (P := P) (by omega) hap hin htl hbk hstep (fun u w L hL hk hu listed hl hlt => ?_)
  ((List.range m).filter fun i => !(Array.replicate ops.size false).getD i false).length (Array.replicate ops.size false) a0 W.drew rfl ?_
 ·have e : ops.size - m + ((List.range m).filter fun i => !(Array.replicate ops.size false).getD i false).length = ops.size := by
   have : (List.range m).filter (fun i => !(Array.replicate ops.size false).getD i false) = List.range m := by
    rw [List.filter_eq_self]
    intro i hi
    have := List.mem_range.1 hi
    rw [rep_false]; rfl
   rw [this, List.length_range]; omega
  rw [e] at h
  exact h
 ·have : ops.size - m = 0 := by omega
  rw [this]
  refine ⟨?_, hend u w L hL hk hu⟩
  rw [List.eq_nil_iff_forall_not_mem]
  intro i hi
  obtain ⟨h1, o, ho, _⟩ := mem_ready.1 hi
  have h2 := hlt i
  have h3 : i < ops.size := (Array.getElem?_eq_some_iff.1 ho).1
  rw [Array.getD_eq_getD_getElem?, Array.getElem?_eq_getElem (by omega)] at h1 h2
  simp only [Option.getD_some] at h1 h2
  rw [h1] at h2
  simp at h2; omega
 ·refine ⟨by rw [show (fun i => (Array.replicate ops.size false).getD i false) = fun _ => false from funext fun i => rep_false _ _]; exact hJ, by simp, fun i _ => ?_, fun i j hi => ?_, fun _ => undef, ?_, fun i _ hi => ?_⟩
  ·exact rep_false _ _
  ·rw [rep_false] at hi; cases hi
  ·have : ∀ n, puts ops (fun i => (Array.replicate ops.size false).getD i false) (fun _ => undef) n a0 = a0 := by
    intro n
    induction n with
    | zero => rfl
    | succ n ih =>
      unfold puts
      rw [if_neg (by rw [rep_false]; simp), ih]
   exact (this m).symm
  ·rw [rep_false] at hi; cases hi
end
end Go.Proofs.YtgododcbmkpbjaaGreatDoor
