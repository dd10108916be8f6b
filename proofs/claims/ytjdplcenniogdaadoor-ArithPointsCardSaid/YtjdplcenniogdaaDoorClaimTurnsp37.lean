/- Appending Dyads onto a list of one's own. -/
import Derived.Test.YtjdplcenniogdaaDoorClaimTurnsp06
import Derived.Test.YtjdplcenniogdaaDoorClaimTurnsp26
import Derived.Test.YtjdplcenniogdaaDoorClaimTurnsp36
namespace Go.Proofs.YtjdplcenniogdaaDoor
open Go.RowKit

theorem Lim.grown {w w' : World} {v : Value} {xs : List Nat} {row : Option Nat} (h : Lim w v xs) (hg : w.grownBy w' row) (hN : ∀ g, row = some g → NoL w g) : Lim w' v xs := by
  obtain ⟨hs, A, c, rfl, hc, hA⟩ := h
  refine ⟨hs, A, c, rfl, hc, fun h0 => ?_⟩
  obtain ⟨b, off, rfl, hb, hd⟩ := hA h0
  refine ⟨b, off, rfl, Nat.lt_of_lt_of_le hb hg.size, fun i hi => ?_⟩
  refine hg.cell (hd i hi) ?_
  intro he
  obtain ⟨cur, e, h1, h2⟩ := hN b he.symm
  have h3 := hd i hi
  simp only [World.cell?, h1] at h3
  have h4 : cur[off + i]? = some (.int .u64 (nth xs i)) := by simpa using h3
  exact h2 _ (Array.mem_toList_iff.2 (Array.mem_of_getElem? h4)) _ rfl

theorem DyR.grown {w w' : World} {v : Value} {r : Raw} {row : Option Nat} (h : DyR w v r) (hg : w.grownBy w' row) (hN : ∀ g, row = some g → NoL w g) : DyR w' v r := by
  obtain ⟨s, rfl, hs, h1, h2⟩ := h
  exact ⟨s, rfl, hs.grown hg hN, h1, h2⟩

theorem dinfo : (Tryd.prog.info? 24).map (fun i => (i.zero, i.size, i.bytes)) = some (some (.agg #[.bool false, .slice none 0 0, .int .i64 0]), 3, 40) := by kernel_rfl

/-- A list of Dyads of one's own. -/
structure OwnS (w : World) (base : Nat) (v : Value) (l : List Dy) (xs : List Value) : Prop where
  row : w.ownsRow base 24 3 v l.length xs
  nl : ∀ u ∈ xs, NoLimb u
  one : ∀ u ∈ xs, u.oneCell' = true
  blk : ∀ g, v.ownBlock = some g → NoL w g
  dys : ∀ i d, l[i]? = some d → ∃ s, xs[i * 3]? = some (.bool d.neg) ∧ xs[i * 3 + 1]? = some s ∧ xs[i * 3 + 2]? = some (.int .i64 d.e) ∧ DyR w (.agg #[.bool d.neg, s, .int .i64 d.e]) d.raw

theorem OwnS.nil (w : World) (base : Nat) : OwnS w base (.slice none 0 0) [] [] :=
  ⟨World.ownsRow_nil _ _ _ _, by simp, by simp, (by intro g h; simp [Value.ownBlock] at h), by simp⟩

theorem OwnS.kept {w w' : World} {base : Nat} {v : Value} {l : List Dy} {xs : List Value} (h : OwnS w base v l xs) (k : Kept w w') : OwnS w' base v l xs := by
  obtain ⟨h1, h2, h2', h3, h4⟩ := h
  refine ⟨⟨h1.1, ?_⟩, h2, h2', ?_, ?_⟩
  · rcases h1.2 with hn | ⟨g, cap, cur, rfl, hb, hg, rest⟩
    · exact .inl hn
    · exact .inr ⟨g, cap, cur, rfl, hb, (k.block g (Array.getElem?_eq_some_iff.1 hg).1).trans hg, rest⟩
  · intro g hg
    have := h3 g hg
    obtain ⟨cur, e, q1, q2⟩ := this
    exact ⟨cur, e, (k.block g (Array.getElem?_eq_some_iff.1 q1).1).trans q1, q2⟩
  · intro i d hi
    obtain ⟨s, a, b, c, hd⟩ := h4 i d hi
    exact ⟨s, a, b, c, hd.kept k⟩

theorem OwnS.dyS {w : World} {base : Nat} {v : Value} {l : List Dy} {xs : List Value} (h : OwnS w base v l xs) : DyS w v l := by
  obtain ⟨h1, h2, h2', h3, h4⟩ := h
  have hc := h1.2
  rcases hc with ⟨rfl, h0⟩ | ⟨g, cap, cur, rfl, hb, hg, hn, -⟩
  · obtain rfl : l = [] := List.eq_nil_of_length_eq_zero h0
    exact ⟨none, 0, rfl, Nat.le_refl _, fun h => absurd h (by simp)⟩
  · refine ⟨_, cap, rfl, hn, fun _ => ⟨g, 0, rfl, fun i d hi => ?_⟩⟩
    obtain ⟨s, a, b, c, hd⟩ := h4 i d hi
    have cl := h1.cells (g := g) rfl
    have ad : ∀ j, (⟨g, 0, none⟩ : Addr).add j = ⟨g, j, none⟩ := by intro j; unfold Addr.add; split <;> simp_all
    refine ⟨s, ?_, ?_, ?_, hd⟩
    · have := cl _ _ a; rw [ad] at this; simpa using this
    · have := cl _ _ b; rw [ad] at this; simpa using this
    · have := cl _ _ c; rw [ad] at this; simpa using this

theorem OwnS.snoc {w w' : World} {base : Nat} {v v' : Value} {l : List Dy} {xs : List Value} {d : Dy} {A : Option Addr} {n c g' : Nat} (h : OwnS w base v l xs)
    (hd : DyR w (.agg #[.bool d.neg, .slice A n c, .int .i64 d.e]) d.raw)
    (hr : w'.ownsRow base 24 3 v' (l.length + 1) (xs ++ [.bool d.neg, .slice A n c, .int .i64 d.e])) (hg : w.grownBy w' v.ownBlock) (hv' : v'.ownBlock = some g') (hN : NoL w' g') :
    OwnS w' base v' (l ++ [d]) (xs ++ [.bool d.neg, .slice A n c, .int .i64 d.e]) := by
  obtain ⟨h1, h2, h2', h3, h4⟩ := h
  refine ⟨by simpa using hr, ?_, ?_, ?_, ?_⟩
  · intro u hu
    rcases List.mem_append.1 hu with hu | hu
    · exact h2 u hu
    · simp at hu
      rcases hu with rfl | rfl | rfl
      · exact noLimb_bool _
      · exact noLimb_slice _ _ _
      · exact noLimb_i64 _
  · intro u hu
    rcases List.mem_append.1 hu with hu | hu
    · exact h2' u hu
    · simp at hu
      rcases hu with rfl | rfl | rfl <;> rfl
  · intro g hg
    rw [hv'] at hg
    cases hg
    exact hN
  · intro i e hi
    have hxl := h1.1
    by_cases hlt : i < l.length
    · rw [List.getElem?_append_left hlt] at hi
      obtain ⟨s, a, b, c, hd'⟩ := h4 i e hi
      have hh := (List.getElem?_eq_some_iff.1 c).1
      refine ⟨s, ?_, ?_, ?_, hd'.grown hg h3⟩
      · rw [List.getElem?_append_left (by omega)]; exact a
      · rw [List.getElem?_append_left (by omega)]; exact b
      · rw [List.getElem?_append_left (by omega)]; exact c
    · rw [List.getElem?_append_right (by omega)] at hi
      obtain ⟨hz, he⟩ := List.getElem?_eq_some_iff.1 hi
      simp at hz
      have hi' : i = l.length := by omega
      subst hi'
      simp at he
      subst he
      refine ⟨.slice A n c, ?_, ?_, ?_, hd.grown hg h3⟩
      · rw [List.getElem?_append_right (by omega), hxl, show l.length * 3 - l.length * 3 = 0 by omega]; rfl
      · rw [List.getElem?_append_right (by omega), hxl, show l.length * 3 + 1 - l.length * 3 = 1 by omega]; rfl
      · rw [List.getElem?_append_right (by omega), hxl, show l.length * 3 + 2 - l.length * 3 = 2 by omega]; rfl

theorem wpList_append_dy {w : World} {ops : Array Oper} {rest : List Oper} {o : Oper} {a : Act} {Q : Exit → Act → World → Prop} (hgd : o.guard = none) (s x : Operand)
    (ho : o.op = .call { callee := .builtin .append, args := #[s, x], argTypes := #[66, 66] })
    {base : Nat} {v : Value} {l : List Dy} {xs : List Value} (hs : a.eval s = v) (hown : OwnS w base v l xs) {d : Dy} {A : Option Addr} {n c b : Nat}
    (hd : DyR w (.agg #[.bool d.neg, .slice A n c, .int .i64 d.e]) d.raw) (hb : Blk w b (.bool d.neg) (.slice A n c) (.int .i64 d.e)) (hx : a.eval x = .slice (some ⟨b, 0, none⟩) 1 1)
    (hl : l.length ≤ 1000) (hbase : base ≤ w.heap.size)
    (h : ∀ v' w', OwnS w' base v' (l ++ [d]) (xs ++ [.bool d.neg, .slice A n c, .int .i64 d.e]) → w.grownBy w' v.ownBlock → wpList Tryd.prog ops Q rest (a.put o.dst v') w') : wpList Tryd.prog ops Q (o :: rest) a w := by
  obtain ⟨i0, hi, hz0, hz1, hz2⟩ := info_parts dinfo
  obtain ⟨-, c0, c1, c2, -⟩ := hb.facts
  have ad : ∀ j, (⟨b, 0, none⟩ : Addr).add j = ⟨b, j, none⟩ := by intro j; unfold Addr.add; split <;> simp_all
  refine wpList_append_nol hgd s x _ ho base 24 i0 (.agg #[.bool false, .slice none 0 0, .int .i64 0]) 3 40 Tryd.underlying66 hi hz0 hz1 hz2 rfl (by decide) v l.length xs hs hown.row _ 1 1 [.bool d.neg, .slice A n c, .int .i64 d.e] hx rfl ?_ ?_ (by unfold maxLen; omega) (by omega) hbase (by decide) hown.nl ?_ ?_ hown.blk ?_
  · intro j u hu
    rw [ad]
    rcases j with _ | _ | _ | j
    · cases hu; exact c0
    · cases hu; exact c1
    · cases hu; exact c2
    · simp at hu
  · intro u hu
    simp at hu
    rcases hu with rfl | rfl | rfl <;> rfl
  · intro u hu
    simp at hu
    rcases hu with rfl | rfl | rfl
    · exact noLimb_bool _
    · exact noLimb_slice _ _ _
    · exact noLimb_i64 _
  · intro u hu
    simp [Value.cells] at hu
    rcases hu with rfl | rfl | rfl
    · exact noLimb_bool _
    · exact noLimb_slice _ _ _
    · exact noLimb_i64 _
  · intro v' w' g' q1 q2 q3 q4
    exact h v' w' (hown.snoc hd q1 q2 q3 q4) q2

theorem wp_append_dy {w : World} {o : Oper} {a : Act} {K : Act → World → Prop} {Q : Exit → Act → World → Prop} (s x : Operand)
    (ho : o.op = .call { callee := .builtin .append, args := #[s, x], argTypes := #[66, 66] })
    {base : Nat} {v : Value} {l : List Dy} {xs : List Value} (hs : a.eval s = v) (hown : OwnS w base v l xs) {d : Dy} {A : Option Addr} {n c b : Nat}
    (hd : DyR w (.agg #[.bool d.neg, .slice A n c, .int .i64 d.e]) d.raw) (hb : Blk w b (.bool d.neg) (.slice A n c) (.int .i64 d.e)) (hx : a.eval x = .slice (some ⟨b, 0, none⟩) 1 1)
    (hl : l.length ≤ 1000) (hbase : base ≤ w.heap.size)
    (h : ∀ v' w', OwnS w' base v' (l ++ [d]) (xs ++ [.bool d.neg, .slice A n c, .int .i64 d.e]) → w.grownBy w' v.ownBlock → K (a.put o.dst v') w') : o.wp Tryd.prog a w K Q := by
  obtain ⟨i0, hi, hz0, hz1, hz2⟩ := info_parts dinfo
  obtain ⟨-, c0, c1, c2, -⟩ := hb.facts
  have ad : ∀ j, (⟨b, 0, none⟩ : Addr).add j = ⟨b, j, none⟩ := by intro j; unfold Addr.add; split <;> simp_all
  refine wp_append_nol s x _ ho base 24 i0 (.agg #[.bool false, .slice none 0 0, .int .i64 0]) 3 40 Tryd.underlying66 hi hz0 hz1 hz2 rfl (by decide) v l.length xs hs hown.row _ 1 1 [.bool d.neg, .slice A n c, .int .i64 d.e] hx rfl ?_ ?_ (by unfold maxLen; omega) (by omega) hbase (by decide) hown.nl ?_ ?_ hown.blk ?_
  · intro j u hu
    rw [ad]
    rcases j with _ | _ | _ | j
    · cases hu; exact c0
    · cases hu; exact c1
    · cases hu; exact c2
    · simp at hu
  · intro u hu
    simp at hu
    rcases hu with rfl | rfl | rfl <;> rfl
  · intro u hu
    simp at hu
    rcases hu with rfl | rfl | rfl
    · exact noLimb_bool _
    · exact noLimb_slice _ _ _
    · exact noLimb_i64 _
  · intro u hu
    simp [Value.cells] at hu
    rcases hu with rfl | rfl | rfl
    · exact noLimb_bool _
    · exact noLimb_slice _ _ _
    · exact noLimb_i64 _
  · intro v' w' g' q1 q2 q3 q4
    exact h v' w' (hown.snoc hd q1 q2 q3 q4) q2

end Go.Proofs.YtjdplcenniogdaaDoor
