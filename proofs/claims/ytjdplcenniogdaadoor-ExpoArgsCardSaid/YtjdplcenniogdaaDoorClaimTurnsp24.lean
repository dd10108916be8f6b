/- Contracts of package round, second part: may; words for slices of Dyads. -/
import Derived.Test.YtjdplcenniogdaaDoorClaimTurnsp23
/- Contracts of package round, first part: must, face. -/
namespace Go.Proofs.YtjdplcenniogdaaDoor
open Go.RowKit

theorem must_okR (k : Int) (w : World) : Calls Tryd.prog 89 #[.bool true, .int .i64 k] w fun e w' => e = .returned (.tuple #[]) ∧ w = w' := by
  go_enter Tryd.func89, Tryd.ntmps89
  go_wp2
  go_end0
  exact ⟨rfl, rfl⟩

theorem must_badR (k : Int) (w : World) : Calls Tryd.prog 89 #[.bool false, .int .i64 k] w fun e w' => e = .panicked (failV 104 k) ∧ w = w' := by
  go_enter Tryd.func89, Tryd.ntmps89
  go_wp2
  exact ⟨rfl, rfl, rfl⟩

theorem must_cR (b : Bool) (k : Int) (w : World) : Calls Tryd.prog 89 #[.bool b, .int .i64 k] w fun e w' => e = mustE 104 b k ∧ w = w' := by
  cases b
  · exact must_badR k w
  · exact must_okR k w

theorem run_assert_failR (k : Int) (w : World) : (Instr.typeAssert (.iface 104 (.agg #[.int .i64 k])) 20 104 true).run Tryd.prog w = .ok (.tuple #[.agg #[.int .i64 k], .bool true]) w := by
  kernel_rfl

theorem run_assert_nilR (w : World) : (Instr.typeAssert .nilIface 20 104 true).run Tryd.prog w = .ok (.tuple #[.agg #[.int .i64 0], .bool false]) w := by
  kernel_rfl

set_option maxRecDepth 100000 in
theorem catch_failR (b2 b3 : Nat) (w : World) (k : Int) (x y z q : Value)
    (h0 : w.heap[b2]? = some (.cells #[x, y, z] 24 (0, 0))) (h1 : w.heap[b3]? = some (.cells #[q] 3 (0, 0))) (hne : ¬ b2 = b3) :
    CallsD Tryd.prog 114 #[.pointer (some ⟨b2, 0, none⟩), .pointer (some ⟨b3, 0, none⟩)] (.panicking (failV 104 k)) w fun e u' w' =>
      e = .returned (.tuple #[]) ∧ u' = .panicking [{ v := .iface 104 (.agg #[.int .i64 k]), recovered := true }] ∧ w' = (caughtW w b2 b3 104 k).drew := by
  have ha := run_assert_failR k
  have l2 : b2 < w.heap.size := (Array.getElem?_eq_some_iff.1 h0).1
  have l3 : b3 < w.heap.size := (Array.getElem?_eq_some_iff.1 h1).1
  have n2 : ¬ b2 = w.heap.size := by omega
  have n3 : ¬ b3 = w.heap.size := by omega
  have n2' : ¬ w.heap.size = b2 := by omega
  have n3' : ¬ w.heap.size = b3 := by omega
  have hne' : ¬ b3 = b2 := fun h => hne h.symm
  have c20 := cell_of_block h0 0 x rfl
  have c21 := cell_of_block h0 1 y rfl
  have c22 := cell_of_block h0 2 z rfl
  have c30 := cell_of_block h1 0 q rfl
  have f20 := free_of_block h0 0
  have f21 := free_of_block h0 1
  have f22 := free_of_block h0 2
  have f30 := free_of_block h1 0
  refine callsD_of_wpS Tryd.func114 rfl fun c₀ cs hu => ?_
  simp only [Tryd.ntmps114, List.size_toArray, List.length_cons, List.length_nil, Nat.reduceAdd, Nat.reduceSub, Array.replicate_succ,
     Array.replicate_zero, List.push_toArray, List.append_toArray, List.nil_append, List.cons_append]
  refine wpS_recovers (v := .iface 104 (.agg #[.int .i64 k])) (cs' := { c₀ with mode := .panicking [{ v := .iface 104 (.agg #[.int .i64 k]), recovered := true }] } :: cs) (w' := w) rfl ?_ ?_ ?_
  · simp [go_sem]
  · rw [recoverD, hu]; exact ⟨rfl, rfl⟩
  go_wp2_with fail
  go_region
  exact ⟨rfl, _, rfl, _, results_none rfl _ _ _, rfl, rfl, rfl⟩

set_option maxRecDepth 100000 in
theorem catch_idleR (b2 b3 : Nat) (w : World) :
    CallsD Tryd.prog 114 #[.pointer (some ⟨b2, 0, none⟩), .pointer (some ⟨b3, 0, none⟩)] .returning w fun e u' w' =>
      e = .returned (.tuple #[]) ∧ u' = .returning ∧ w' = w.alloc (.cells #[.int .i64 0] 104) := by
  have ha := run_assert_nilR
  refine callsD_of_wpS Tryd.func114 rfl fun c₀ cs hu => ?_
  simp only [Tryd.ntmps114, List.size_toArray, List.length_cons, List.length_nil, Nat.reduceAdd, Nat.reduceSub, Array.replicate_succ,
     Array.replicate_zero, List.push_toArray, List.append_toArray, List.nil_append, List.cons_append]
  refine wpS_recovers (v := .nilIface) (cs' := c₀ :: cs) (w' := w) rfl ?_ ?_ ?_
  · simp [go_sem]
  · rw [recoverD, hu]; exact ⟨rfl, rfl⟩
  go_wp2_with fail
  exact ⟨rfl, .returning, by rw [← hu], _, results_none rfl _ _ _, rfl, rfl, rfl⟩

set_option maxRecDepth 100000 in
theorem face_cR {w : World} {K : Nat} {cap : Array Value} {o : Outc Raw} (h : ∀ w1, Kept w w1 → Calls Tryd.prog K cap w1 (Goes 104 o w1)) (hz : o.k ≠ 0 → o.v = rz)
    (hk : ∀ w, (callFunc K cap).run Tryd.prog w = .ok (.enter K cap) w) :
    Calls Tryd.prog 86 #[.func (.func K) #[] cap] w (RetE o w) := by
  have hmf : ∀ (fn : Fn) (first cap : Array Value) (w : World), (Instr.makeFunc fn first cap).run Tryd.prog w = .ok (.func fn first cap) w := fun _ _ _ _ => rfl
  have HH := Lib.hid h
  clear h
  go_enter_defers Tryd.func86, Tryd.ntmps86
  go_wp2_with fail
  have k1 : Kept w ((w.alloc (.cells #[.bool false, .slice none 0 0, .int .i64 0] 24)).alloc (.cells #[.int .i64 0] 3)) := ((Below.refl _ _).alloc (Nat.le_refl _) _).alloc (by simp) _
  refine (HH.out _ k1).mono ?_
  have b0 : ((w.alloc (.cells #[.bool false, .slice none 0 0, .int .i64 0] 24)).alloc (.cells #[.int .i64 0] 3)).heap[w.heap.size]? = some (.cells #[.bool false, .slice none 0 0, .int .i64 0] 24 (0, 0)) := by
    rw [Below.heap_alloc _ _ _ (by simp)]; exact heap_alloc_new _ _
  have b1 : ((w.alloc (.cells #[.bool false, .slice none 0 0, .int .i64 0] 24)).alloc (.cells #[.int .i64 0] 3)).heap[w.heap.size + 1]? = some (.cells #[.int .i64 0] 3 (0, 0)) := by
    have := heap_alloc_new (w.alloc (.cells #[.bool false, .slice none 0 0, .int .i64 0] 24)) (.cells #[.int .i64 0] 3)
    simpa using this
  rintro e w1 ⟨q, hq⟩
  have c0 := (q.block w.heap.size (by simp; omega)).trans b0
  have c1 := (q.block (w.heap.size + 1) (by simp)).trans b1
  have k2 := k1.trans q
  clear q b0 b1 k1 HH
  have hs1 : w.heap.size + 1 < w1.heap.size := (Array.getElem?_eq_some_iff.1 c1).1
  have hs0 : w.heap.size < w1.heap.size := by omega
  have n1 : ¬ w.heap.size = w1.heap.size := by omega
  have n2 : ¬ w.heap.size + 1 = w1.heap.size := by omega
  have n3 : ¬ w.heap.size = w.heap.size + 1 := by omega
  have n4 : ¬ w.heap.size + 1 = w.heap.size := by omega
  have c20 : w1.cell? ⟨w.heap.size, 0, none⟩ = some (.bool false) := cell_of_block c0 0 _ rfl
  have c21 : w1.cell? ⟨w.heap.size, 1, none⟩ = some (.slice none 0 0) := cell_of_block c0 1 _ rfl
  have c22 : w1.cell? ⟨w.heap.size, 2, none⟩ = some (.int .i64 0) := cell_of_block c0 2 _ rfl
  have c30 : w1.cell? ⟨w.heap.size + 1, 0, none⟩ = some (.int .i64 0) := cell_of_block c1 0 _ rfl
  have f20 := free_of_block c0 0
  have f21 := free_of_block c0 1
  have f22 := free_of_block c0 2
  have f30 := free_of_block c1 0
  have KK := Lib.hid k2
  have HQ := Lib.hid hq
  clear k2 hq
  rcases HQ.out with ⟨h0, v, rfl, hv⟩ | ⟨h0, rfl⟩
  · obtain ⟨s, rfl, hs, e1, e2⟩ := hv
    have HS := Lib.hid hs
    obtain ⟨_, A, c, rfl, _⟩ := hs
    clear HQ
    simp only []
    go_wp2_with fail
    refine leaves_cons (f := 114) (args := #[.pointer (some ⟨w.heap.size, 0, none⟩), .pointer (some ⟨w.heap.size + 1, 0, none⟩)]) (by simp) (by simp [go_sem]) ?_
    refine (catch_idleR _ _ _).mono ?_
    rintro e u' w2 ⟨rfl, rfl, rfl⟩
    obtain ⟨d0, d1, d2, d3⟩ := laid_cells (x' := .bool o.v.neg) (y' := .slice A o.v.m.length c) (z' := .int .i64 o.v.e) (q' := .int .i64 0) (o := .cells #[.int .i64 0] 104) c0 c1 n3
    refine ⟨.tuple #[.agg #[.bool o.v.neg, .slice A o.v.m.length c, .int .i64 o.v.e], .int .i64 0], ?_, ?_⟩
    · change (results Tryd.f86 _).run Tryd.prog (laidW w1 w.heap.size (w.heap.size + 1) (.bool o.v.neg) (.slice A o.v.m.length c) (.int .i64 o.v.e) (.int .i64 0) (.cells #[.int .i64 0] 104)) = .ok _ (laidW w1 w.heap.size (w.heap.size + 1) (.bool o.v.neg) (.slice A o.v.m.length c) (.int .i64 o.v.e) (.int .i64 0) (.cells #[.int .i64 0] 104))
      generalize laidW w1 w.heap.size (w.heap.size + 1) (.bool o.v.neg) (.slice A o.v.m.length c) (.int .i64 o.v.e) (.int .i64 0) (.cells #[.int .i64 0] 104) = W at *
      simp [results, Tryd.results86, go_sem, d0, d1, d2, d3]
    · refine ⟨laid_kept KK.out (Nat.le_refl _) (Nat.le_succ _), _, by rw [h0], ?_⟩
      exact ⟨_, rfl, HS.out.laid c0 c1 (by simp) (by simp) (by simp) (by simp), e1, e2⟩
  · clear HQ
    simp only []
    refine leaves_cons (f := 114) (args := #[.pointer (some ⟨w.heap.size, 0, none⟩), .pointer (some ⟨w.heap.size + 1, 0, none⟩)]) (by simp) (by simp [go_sem]) ?_
    refine (catch_failR _ _ _ _ _ _ _ _ c0 c1 n3).mono ?_
    rintro e u' w2 ⟨rfl, rfl, rfl⟩
    obtain ⟨d0, d1, d2, d3⟩ := laid_cells (x' := .bool false) (y' := .slice none 0 0) (z' := .int .i64 0) (q' := .int .i64 o.k) (o := .cells #[.int .i64 o.k] 104) c0 c1 n3
    refine ⟨.tuple #[.agg #[.bool false, .slice none 0 0, .int .i64 0], .int .i64 o.k], ?_, ?_⟩
    · change (results Tryd.f86 _).run Tryd.prog (laidW w1 w.heap.size (w.heap.size + 1) (.bool false) (.slice none 0 0) (.int .i64 0) (.int .i64 o.k) (.cells #[.int .i64 o.k] 104)).drew = .ok _ (laidW w1 w.heap.size (w.heap.size + 1) (.bool false) (.slice none 0 0) (.int .i64 0) (.int .i64 o.k) (.cells #[.int .i64 o.k] 104)).drew
      generalize laidW w1 w.heap.size (w.heap.size + 1) (.bool false) (.slice none 0 0) (.int .i64 0) (.int .i64 o.k) (.cells #[.int .i64 o.k] 104) = W at *
      simp [results, Tryd.results86, go_sem, d0, d1, d2, d3]
    · refine ⟨(laid_kept KK.out (Nat.le_refl _) (Nat.le_succ _)).drew, _, rfl, ?_⟩
      rw [hz h0]
      exact ⟨_, rfl, ⟨(by intro i hi; cases hi), none, 0, rfl, Nat.le_refl _, fun h => absurd h (Nat.lt_irrefl 0)⟩, by decide, by decide⟩

theorem must_trueR (k : Int) (w : World) : Calls Tryd.prog 89 #[.bool true, .int .i64 k] w (RetK (.tuple #[]) w) := (must_cR true k w).mono fun _ _ ⟨he, hw⟩ => ⟨he, hw ▸ Below.refl _ _⟩

theorem must_ifR (b : Bool) (k : Int) (w : World) : Calls Tryd.prog 89 #[.bool b, .int .i64 k] w fun e w' => (∃ v, e = .returned v ∧ Kept w w' ∧ (b = true ∧ v = .tuple #[])) ∨ (∃ c, e = .panicked c ∧ (b = false ∧ c = failV 104 k ∧ w = w')) :=
  (must_cR b k w).mono fun e w' ⟨he, hw⟩ => by
    subst hw
    cases b
    · exact .inr ⟨_, he, rfl, rfl, rfl⟩
    · exact .inl ⟨_, he, Below.refl _ _, rfl, rfl⟩

end Go.Proofs.YtjdplcenniogdaaDoor
namespace Go.Proofs.YtjdplcenniogdaaDoor
open Go.RowKit

/-- The cells from an address on are a Dyad. -/
def DyAt (w : World) (b o : Nat) (d : Dy) : Prop := ∃ s, w.cell? ⟨b, o, none⟩ = some (.bool d.neg) ∧ w.cell? ⟨b, o + 1, none⟩ = some s ∧ w.cell? ⟨b, o + 2, none⟩ = some (.int .i64 d.e) ∧ DyR w (.agg #[.bool d.neg, s, .int .i64 d.e]) d.raw

theorem DyAt.kept {w w' : World} {b o : Nat} {d : Dy} (h : DyAt w b o d) (k : Kept w w') : DyAt w' b o d := by
  obtain ⟨s, h0, h1, h2, hd⟩ := h
  have hb := lt_of_cell h0
  exact ⟨s, (k.cell (p := ⟨b, o, none⟩) hb).trans h0, (k.cell (p := ⟨b, o + 1, none⟩) hb).trans h1, (k.cell (p := ⟨b, o + 2, none⟩) hb).trans h2, hd.kept k⟩

/-- The slice value v reads in w as the clean Dyads l. -/
def DyS (w : World) (v : Value) (l : List Dy) : Prop := ∃ A c, v = .slice A l.length c ∧ l.length ≤ c ∧ (0 < l.length → ∃ b off, A = some ⟨b, off, none⟩ ∧ ∀ i d, l[i]? = some d → DyAt w b (off + i * 3) d)

theorem DyS.kept {w w' : World} {v : Value} {l : List Dy} (h : DyS w v l) (k : Kept w w') : DyS w' v l := by
  obtain ⟨A, c, rfl, hc, hA⟩ := h
  refine ⟨A, c, rfl, hc, fun h0 => ?_⟩
  obtain ⟨b, off, rfl, hd⟩ := hA h0
  exact ⟨b, off, rfl, fun i d hi => (hd i d hi).kept k⟩

def okL (l : List Dy) : Prop := ∀ d ∈ l, Dy.Ok d

set_option maxHeartbeats 2000000 in
set_option maxRecDepth 100000 in
theorem rmay_c {w : World} {v : Value} {p : Int} {l : List Dy} (hv : DyS w v l) (hl : okL l) (hn : l.length ≤ 1000) (p1 : 1 ≤ p) (p2 : p ≤ 2000) :
    Calls Tryd.prog 88 #[.int .i64 p, v] w (RetK (.tuple #[]) w) := by
  obtain ⟨A, c, rfl, hc, hA⟩ := hv
  have d1 : decide (1 ≤ p) = true := by simp [p1]
  have d2 : decide (p ≤ 2000) = true := by simp [p2]
  have HA := Lib.hid hA
  have HL := Lib.hid hl
  clear hA hl
  have hbase : Kept w w := Below.refl _ _
  obtain ⟨n, hn'⟩ : ∃ n, n = l.length := ⟨_, rfl⟩
  rw [← hn'] at hc hn HA ⊢
  have HN := Lib.hid hn'
  clear hn'
  go_enter Tryd.func88, Tryd.ntmps88
  go_wp2_with (go_at_call 89; refine (must_trueR 1 _).mono ?_; rintro e w1 ⟨rfl, q⟩; have K1 := Lib.hid q; clear q)
  go_loopw [15] (fun t wr => ∃ k : Nat, k ≤ n ∧ t = .int .i64 k ∧ Kept w wr) (fun t _ => (n - intOf t).toNat)
  case atStart => exact ⟨0, Nat.zero_le _, rfl, K1.out⟩
  case round =>
    obtain ⟨k, hk, rfl, hK⟩ := hrel
    have HK := Lib.hid hK
    clear hK
    by_cases hlt : k < n
    · obtain ⟨b, off, rfl, hd⟩ := HA.out (by omega)
      obtain ⟨d, hdk⟩ : ∃ d, l[k]? = some d := ⟨_, List.getElem?_eq_getElem (by have := HN.out; omega)⟩
      obtain ⟨s, h0, h1, h2, hR⟩ := (hd k d hdk).kept HK.out
      have hok := HL.out d (List.mem_of_getElem? hdk)
      have hm := fun w1 (q : Kept wr w1) => may_c (hR.kept q) (by have := dy_len hok; omega)
      rw [hok.may] at hm
      have HM := Lib.hid hm
      obtain ⟨A1, l1, c1, es, -, -, -, -⟩ := hR.shape
      injection es with es
      injection es with es
      simp only [List.cons.injEq, and_true] at es
      obtain rfl := es.2.1
      clear es
      clear hm hd hdk hok hR
      generalize d.neg = ng at *
      generalize d.e = eg at *
      go_wp2_with (first
        | (go_at_call 29; refine (HM.out _ (kept_alloc _ _)).mono ?_; rintro e w2 ⟨rfl, q⟩; have Q := Lib.hid ((kept_alloc _ _).trans q); clear q)
        | (go_at_call 89; refine (must_trueR 1 _).mono ?_; rintro e w3 ⟨rfl, q⟩; have Q3 := Lib.hid q; clear q))
      go_roundw
      case rel => exact ⟨k + 1, by omega, by go_num, (HK.out.trans Q.out).trans Q3.out⟩
      case measure => simp [intOf]; omega
    · obtain rfl : k = n := by omega
      go_wp2
      go_end0
      exact ⟨rfl, HK.out⟩

end Go.Proofs.YtjdplcenniogdaaDoor
