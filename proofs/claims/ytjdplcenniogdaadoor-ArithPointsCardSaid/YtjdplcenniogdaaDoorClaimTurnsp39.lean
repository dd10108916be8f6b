/- Plain mathematics, no program: of points with bits enough operations are exact. -/
import Derived.Test.YtjdplcenniogdaaDoorClaimTurnsp11
import Derived.Test.YtjdplcenniogdaaDoorClaimTurnsp14
/- Plain mathematics, no program: the laws of layer 6 (order of operands, inclusion, undoing). -/
namespace Go.Proofs.YtjdplcenniogdaaDoor

def OkI (o : Outc Iv) : Prop := o.v.Ok ∧ (o.k ≠ 0 → o.v = iz)
theorem iz_ok : iz.Ok := ⟨dz_ok, dz_ok, Rat.le_refl⟩
theorem badI_ok (k : Int) : OkI ⟨iz, k⟩ := ⟨iz_ok, fun _ => rfl⟩

theorem ends_okI {lo hi : Outc Dy} (h1 : lo.Ok) (h2 : hi.Ok) (h : lo.k = 0 → hi.k = 0 → lo.v.q ≤ hi.v.q) : OkI (ends lo hi) := by
  unfold ends Outc.bind
  by_cases k1 : lo.k = 0
  · simp only [if_pos k1]
    by_cases k2 : hi.k = 0
    · simp only [if_pos k2]; exact ⟨⟨h1.1, h2.1, h k1 k2⟩, fun h => absurd rfl h⟩
    · simp only [if_neg k2]; exact badI_ok _
  · simp only [if_neg k1]; exact badI_ok _
theorem rndD_ok (o : Outc Dy) (p : Nat) (up : Bool) : (rndD o p up).Ok := by
  unfold rndD Outc.bind
  by_cases k1 : o.k = 0
  · simp only [if_pos k1]; exact dirD_ok _ _ _
  · simp only [if_neg k1]; exact bad_ok _
theorem four_okI {a b c d : Outc Dy} {f : Dy → Dy → Dy → Dy → Outc Iv} (h : a.k = 0 → b.k = 0 → c.k = 0 → d.k = 0 → OkI (f a.v b.v c.v d.v)) : OkI (four a b c d f) := by
  unfold four Outc.bind
  by_cases k1 : a.k = 0
  · simp only [if_pos k1]
    by_cases k2 : b.k = 0
    · simp only [if_pos k2]
      by_cases k3 : c.k = 0
      · simp only [if_pos k3]
        by_cases k4 : d.k = 0
        · simp only [if_pos k4]; exact h k1 k2 k3 k4
        · simp only [if_neg k4]; exact badI_ok _
      · simp only [if_neg k3]; exact badI_ok _
    · simp only [if_neg k2]; exact badI_ok _
  · simp only [if_neg k1]; exact badI_ok _

theorem addI_ok {a b : Iv} (ha : a.Ok) (hb : b.Ok) {p : Nat} (hp : 1 ≤ p) : OkI (addI a b p) := by
  unfold addI
  refine ends_okI (rndD_ok _ _ _) (rndD_ok _ _ _) fun k1 k2 => ?_
  obtain ⟨h4, h5⟩ := rndD_ok' k1
  obtain ⟨h6, h7⟩ := rndD_ok' k2
  rw [h5] at k1 ⊢
  rw [h7] at k2 ⊢
  have d1 := (dirD_down hp k1).le
  have d2 := (dirD_up hp k2).le
  rw [sumD_q h4] at d1
  rw [sumD_q h6] at d2
  have := ha.le; have := hb.le
  grind
theorem neg_ok {b : Iv} (hb : b.Ok) : (Iv.mk (negD b.hi) (negD b.lo)).Ok :=
  ⟨negD_ok hb.hi, negD_ok hb.lo, by simp only [negD_q]; have := hb.le; grind⟩
theorem subI_add (a b : Iv) (p : Nat) : subI a b p = addI a ⟨negD b.hi, negD b.lo⟩ p := rfl
theorem subI_ok {a b : Iv} (ha : a.Ok) (hb : b.Ok) {p : Nat} (hp : 1 ≤ p) : OkI (subI a b p) := by
  rw [subI_add]; exact addI_ok ha (neg_ok hb) hp
theorem negI_ok {a : Iv} (ha : a.Ok) {p : Nat} (hp : 1 ≤ p) : OkI (negI a p) := by
  unfold negI
  refine ends_okI (dirD_ok _ _ _) (dirD_ok _ _ _) fun k1 k2 => ?_
  have d1 := (dirD_down hp k1).le
  have d2 := (dirD_up hp k2).le
  have := (neg_ok ha).le
  simp only at this
  grind
theorem mulI_ok {a b : Iv} {p : Nat} (hp : 1 ≤ p) : OkI (mulI a b p) := by
  unfold mulI
  refine four_okI fun h1 h2 h3 h4 => ends_okI (dirD_ok _ _ _) (dirD_ok _ _ _) fun k1 k2 => ?_
  have d1 := (dirD_down hp k1).le
  have d2 := (dirD_up hp k2).le
  have l := (least4 (x := (mulD a.lo b.lo).v) (y := (mulD a.lo b.hi).v) (z := (mulD a.hi b.lo).v) (u := (mulD a.hi b.hi).v)).1
  have g := (greatest4 (x := (mulD a.lo b.lo).v) (y := (mulD a.lo b.hi).v) (z := (mulD a.hi b.lo).v) (u := (mulD a.hi b.hi).v)).1
  grind
theorem hasZero_nz {b : Iv} (hb : b.Ok) (h : ¬ hasZero b = true) : ¬ b.lo.m = 0 ∧ ¬ b.hi.m = 0 := by
  have hz := fun x => h ((hasZero_iff b).2 x)
  have := hb.le
  constructor
  · intro h0
    have := zero_q h0
    exact hz ⟨by grind, by grind⟩
  · intro h0
    have := zero_q h0
    exact hz ⟨by grind, by grind⟩
theorem quotD_down {a b : Dy} {p : Nat} (hp : 1 ≤ p) (hb : ¬ b.m = 0) (hk : (quotD a b p false).k = 0) : IsDown p (a.q / b.q) (quotD a b p false).v.q := quotD_dir hp hb hk
theorem quotD_up {a b : Dy} {p : Nat} (hp : 1 ≤ p) (hb : ¬ b.m = 0) (hk : (quotD a b p true).k = 0) : IsUp p (a.q / b.q) (quotD a b p true).v.q := quotD_dir hp hb hk
theorem divI_ok {a b : Iv} (hb : b.Ok) {p : Nat} (hp : 1 ≤ p) : OkI (divI a b p) := by
  unfold divI
  by_cases hz : hasZero b = true
  · rw [if_pos hz]; exact badI_ok _
  · rw [if_neg hz]
    obtain ⟨n1, n2⟩ := hasZero_nz hb hz
    refine four_okI fun h1 h2 h3 h4 => four_okI fun k1 k2 k3 k4 => ⟨⟨?_, ?_, ?_⟩, fun h => absurd rfl h⟩
    · refine leastD_ok (quotD_ok _ _ _ _).1 fun x hx => ?_
      simp only [List.mem_cons, List.not_mem_nil, or_false] at hx
      rcases hx with rfl | rfl | rfl | rfl <;> exact (quotD_ok _ _ _ _).1
    · refine greatestD_ok (quotD_ok _ _ _ _).1 fun x hx => ?_
      simp only [List.mem_cons, List.not_mem_nil, or_false] at hx
      rcases hx with rfl | rfl | rfl | rfl <;> exact (quotD_ok _ _ _ _).1
    · have d1 := (quotD_down hp n1 h1).le
      have d2 := (quotD_up hp n1 k1).le
      have l := (least4 (x := (quotD a.lo b.lo p false).v) (y := (quotD a.lo b.hi p false).v) (z := (quotD a.hi b.lo p false).v) (u := (quotD a.hi b.hi p false).v)).1
      have g := (greatest4 (x := (quotD a.lo b.lo p true).v) (y := (quotD a.lo b.hi p true).v) (z := (quotD a.hi b.lo p true).v) (u := (quotD a.hi b.hi p true).v)).1
      show (leastD _ _).q ≤ (greatestD _ _).q
      grind
theorem sqrI_ok {a : Iv} {p : Nat} (hp : 1 ≤ p) : OkI (sqrI a p) := by
  have sqn : ∀ x : Rat, 0 ≤ x * x := fun x => by
    by_cases h : 0 ≤ x
    · exact Rat.mul_nonneg h h
    · have := Rat.mul_nonneg (show 0 ≤ -x by grind) (show 0 ≤ -x by grind); grind
  unfold sqrI Outc.bind
  by_cases h1 : (mulD a.lo a.lo).k = 0
  · simp only [if_pos h1]
    by_cases h2 : (mulD a.hi a.hi).k = 0
    · simp only [if_pos h2]
      refine ends_okI (dirD_ok _ _ _) (dirD_ok _ _ _) fun k1 k2 => ?_
      have d1 := (dirD_down hp k1).le
      have d2 := (dirD_up hp k2).le
      have l := (least2 (x := (mulD a.lo a.lo).v) (y := (mulD a.hi a.hi).v)).1
      have g := (greatest2 (x := (mulD a.lo a.lo).v) (y := (mulD a.hi a.hi).v)).1
      have q1 := mulD_q h1
      have := sqn a.lo.q
      have hl : (if hasZero a = true then dz else leastD (mulD a.lo a.lo).v [(mulD a.lo a.lo).v, (mulD a.hi a.hi).v]).q ≤ (mulD a.lo a.lo).v.q := by
        split
        · rw [dz_q]; grind
        · exact l
      grind
    · simp only [if_neg h2]; exact badI_ok _
  · simp only [if_neg h1]; exact badI_ok _
theorem root_le {x y d e : Rat} (hd : d * d ≤ x) (hxy : x ≤ y) (he : 0 ≤ e) (hy : y ≤ e * e) : d ≤ e := by
  by_cases h : d ≤ e
  · exact h
  · have := lt_sq he (show e < d by grind)
    grind
theorem sqrtI_neg {a : Iv} (ha : a.Ok) (h : ¬ sg a.lo < 0) : a.lo.neg = false ∧ a.hi.neg = false := by
  rw [sg_q] at h
  have h0 : 0 ≤ a.lo.q := by
    have := @cmpQ_lt a.lo.q 0
    grind
  have h1 : 0 ≤ a.hi.q := by have := ha.le; grind
  have key : ∀ d : Dy, d.Ok → 0 ≤ d.q → d.neg = false := by
    intro d hd hq
    by_cases hm : d.m = 0
    · exact (hd.zero hm).1
    · cases hn : d.neg
      · rfl
      · have : sg d = -1 := by unfold sg; rw [if_neg hm, hn]; rfl
        have := (sg_neg this).1
        grind
  exact ⟨key _ ha.lo h0, key _ ha.hi h1⟩
theorem rootD_down {d : Dy} {p : Nat} (hp : 1 ≤ p) (hn : d.neg = false) (hk : (rootD d p false).k = 0) : IsRootDown p d.q (rootD d p false).v.q := rootD_dir hp hn hk
theorem rootD_up {d : Dy} {p : Nat} (hp : 1 ≤ p) (hn : d.neg = false) (hk : (rootD d p true).k = 0) : IsRootUp p d.q (rootD d p true).v.q := rootD_dir hp hn hk
theorem sqrtI_ok {a : Iv} (ha : a.Ok) {p : Nat} (hp : 1 ≤ p) : OkI (sqrtI a p) := by
  unfold sqrtI
  by_cases hs : sg a.lo < 0
  · rw [if_pos hs]; exact badI_ok _
  · rw [if_neg hs]
    obtain ⟨n1, n2⟩ := sqrtI_neg ha hs
    refine ends_okI (rootD_ok _ _ _) (rootD_ok _ _ _) fun k1 k2 => ?_
    have d1 := rootD_down hp n1 k1
    have d2 := rootD_up hp n2 k2
    exact root_le d1.le ha.le d2.nonneg d2.le

/- Turns. -/
theorem addI_comm {a b : Iv} (ha : a.Ok) (hb : b.Ok) (p : Nat) : addI a b p = addI b a p := by
  unfold addI; rw [sumD_comm ha.lo hb.lo, sumD_comm ha.hi hb.hi]

theorem four_all {a b c d : Outc Dy} {f : Dy → Dy → Dy → Dy → Outc Iv} (h1 : a.k = 0) (h2 : b.k = 0) (h3 : c.k = 0) (h4 : d.k = 0) : four a b c d f = f a.v b.v c.v d.v := by
  unfold four; rw [Outc.bind_of _ _ h1, Outc.bind_of _ _ h2, Outc.bind_of _ _ h3, Outc.bind_of _ _ h4]
theorem least_perm {x y z u : Dy} (hx : x.Ok) (hy : y.Ok) (hz : z.Ok) (hu : u.Ok) : leastD x [x, y, z, u] = leastD x [x, z, y, u] := by
  have l1 := least4 (x := x) (y := y) (z := z) (u := u)
  have l2 := least4 (x := x) (y := z) (z := y) (u := u)
  have m1 := least4_mem (x := x) (y := y) (z := z) (u := u)
  have m2 := least4_mem (x := x) (y := z) (z := y) (u := u)
  have o1 : (leastD x [x, y, z, u]).Ok := leastD_ok hx fun t ht => by simp at ht; rcases ht with rfl | rfl | rfl | rfl <;> assumption
  have o2 : (leastD x [x, z, y, u]).Ok := leastD_ok hx fun t ht => by simp at ht; rcases ht with rfl | rfl | rfl | rfl <;> assumption
  refine q_inj o1 o2 ?_
  generalize leastD x [x, y, z, u] = A at *
  generalize leastD x [x, z, y, u] = B at *
  have h1 : A.q ≤ B.q := by rcases m2 with rfl | rfl | rfl | rfl <;> grind
  have h2 : B.q ≤ A.q := by rcases m1 with rfl | rfl | rfl | rfl <;> grind
  grind
theorem greatest_perm {x y z u : Dy} (hx : x.Ok) (hy : y.Ok) (hz : z.Ok) (hu : u.Ok) : greatestD x [x, y, z, u] = greatestD x [x, z, y, u] := by
  have l1 := greatest4 (x := x) (y := y) (z := z) (u := u)
  have l2 := greatest4 (x := x) (y := z) (z := y) (u := u)
  have m1 := greatest4_mem (x := x) (y := y) (z := z) (u := u)
  have m2 := greatest4_mem (x := x) (y := z) (z := y) (u := u)
  have o1 : (greatestD x [x, y, z, u]).Ok := greatestD_ok hx fun t ht => by simp at ht; rcases ht with rfl | rfl | rfl | rfl <;> assumption
  have o2 : (greatestD x [x, z, y, u]).Ok := greatestD_ok hx fun t ht => by simp at ht; rcases ht with rfl | rfl | rfl | rfl <;> assumption
  refine q_inj o1 o2 ?_
  generalize greatestD x [x, y, z, u] = A at *
  generalize greatestD x [x, z, y, u] = B at *
  have h1 : B.q ≤ A.q := by rcases m2 with rfl | rfl | rfl | rfl <;> grind
  have h2 : A.q ≤ B.q := by rcases m1 with rfl | rfl | rfl | rfl <;> grind
  grind
theorem mulI_comm (a b : Iv) {p : Nat} (hp : 1 ≤ p) : ((mulI a b p).k = 0 ↔ (mulI b a p).k = 0) ∧ (mulI a b p).v = (mulI b a p).v := by
  have key : ∀ a b : Iv, (mulI a b p).k = 0 → mulI b a p = mulI a b p := by
    intro a b h
    obtain ⟨k1, k2, k3, k4, e⟩ := four_ok (show (four _ _ _ _ _).k = 0 from h)
    unfold mulI
    rw [mulD_comm b.lo a.lo, mulD_comm b.lo a.hi, mulD_comm b.hi a.lo, mulD_comm b.hi a.hi, four_all k1 k2 k3 k4, four_all k1 k3 k2 k4,
      least_perm (mulD_ok _ _).1 (mulD_ok _ _).1 (mulD_ok _ _).1 (mulD_ok _ _).1, greatest_perm (mulD_ok _ _).1 (mulD_ok _ _).1 (mulD_ok _ _).1 (mulD_ok _ _).1]
  refine ⟨⟨fun h => by rw [key a b h]; exact h, fun h => by rw [key b a h]; exact h⟩, ?_⟩
  by_cases h : (mulI a b p).k = 0
  · rw [key a b h]
  · by_cases h' : (mulI b a p).k = 0
    · rw [key b a h']
    · rw [(mulI_ok hp).2 h, (mulI_ok hp).2 h']

theorem IsDown.sign {p : Nat} {x d : Rat} (h : IsDown p x d) (hx : 0 ≤ x) : 0 ≤ d := h.best 0 (Fits.zero p) hx
theorem sqr_in_mul {a : Iv} {p : Nat} (hp : 1 ≤ p) (h1 : (sqrI a p).k = 0) (h2 : (mulI a a p).k = 0) :
    (mulI a a p).v.lo.q ≤ (sqrI a p).v.lo.q ∧ (sqrI a p).v.hi.q ≤ (mulI a a p).v.hi.q ∧ 0 ≤ (sqrI a p).v.lo.q := by
  obtain ⟨L, H, d1, d2, s1, s2, s3, s4, s5, s6, s7⟩ := sqrI_spec hp h1
  obtain ⟨L', H', e1, e2, ⟨t1, t2, t3, t4⟩, ⟨u1, u2, u3, u4⟩, -, -⟩ := mulI_spec hp h2
  refine ⟨e1.mono d1 (Nat.le_refl p) ?_, e2.mono d2 (Nat.le_refl p) ?_, d1.sign s5⟩
  · rcases s7 with ⟨rfl, z1, z2⟩ | ⟨-, rfl | rfl⟩
    · have := Rat.mul_nonneg (show 0 ≤ -a.lo.q by grind) z2
      grind
    · exact t1
    · exact t4
  · rcases s6 with rfl | rfl
    · exact u1
    · exact u4

/- Grows. -/
theorem grow_add {a b x y : Iv} {n m : Nat} (hm : 1 ≤ m) (hn : m ≤ n) (x1 : x.lo.q ≤ a.lo.q) (x2 : a.hi.q ≤ x.hi.q) (y1 : y.lo.q ≤ b.lo.q) (y2 : b.hi.q ≤ y.hi.q)
    (h1 : (addI a b n).k = 0) (h2 : (addI x y m).k = 0) : (addI x y m).v.lo.q ≤ (addI a b n).v.lo.q ∧ (addI a b n).v.hi.q ≤ (addI x y m).v.hi.q := by
  obtain ⟨d1, d2⟩ := addI_spec (Nat.le_trans hm hn) h1
  obtain ⟨e1, e2⟩ := addI_spec hm h2
  exact ⟨e1.mono d1 hn (by grind), e2.mono d2 hn (by grind)⟩
theorem grow_sub {a b x y : Iv} {n m : Nat} (hm : 1 ≤ m) (hn : m ≤ n) (x1 : x.lo.q ≤ a.lo.q) (x2 : a.hi.q ≤ x.hi.q) (y1 : y.lo.q ≤ b.lo.q) (y2 : b.hi.q ≤ y.hi.q)
    (h1 : (subI a b n).k = 0) (h2 : (subI x y m).k = 0) : (subI x y m).v.lo.q ≤ (subI a b n).v.lo.q ∧ (subI a b n).v.hi.q ≤ (subI x y m).v.hi.q := by
  have i1 : (Iv.mk (negD y.hi) (negD y.lo)).lo.q ≤ (Iv.mk (negD b.hi) (negD b.lo)).lo.q := by simp only [negD_q]; grind
  have i2 : (Iv.mk (negD b.hi) (negD b.lo)).hi.q ≤ (Iv.mk (negD y.hi) (negD y.lo)).hi.q := by simp only [negD_q]; grind
  rw [subI_add] at h1 h2
  rw [subI_add, subI_add]
  exact grow_add (a := a) (b := ⟨negD b.hi, negD b.lo⟩) (x := x) (y := ⟨negD y.hi, negD y.lo⟩) hm hn x1 x2 i1 i2 h1 h2
theorem grow_mul {a b x y : Iv} (ha : a.lo.q ≤ a.hi.q) (hb : b.lo.q ≤ b.hi.q) {n m : Nat} (hm : 1 ≤ m) (hn : m ≤ n) (x1 : x.lo.q ≤ a.lo.q) (x2 : a.hi.q ≤ x.hi.q) (y1 : y.lo.q ≤ b.lo.q) (y2 : b.hi.q ≤ y.hi.q)
    (h1 : (mulI a b n).k = 0) (h2 : (mulI x y m).k = 0) : (mulI x y m).v.lo.q ≤ (mulI a b n).v.lo.q ∧ (mulI a b n).v.hi.q ≤ (mulI x y m).v.hi.q := by
  obtain ⟨L, H, d1, d2, -, -, l, g⟩ := mulI_spec (Nat.le_trans hm hn) h1
  obtain ⟨L', H', e1, e2, ⟨t1, t2, t3, t4⟩, ⟨u1, u2, u3, u4⟩, -, -⟩ := mulI_spec hm h2
  have lo : ∀ u v, x.lo.q ≤ u → u ≤ x.hi.q → y.lo.q ≤ v → v ≤ y.hi.q → L' ≤ u * v := fun u v a b c d => bilin a b c d t1 t2 t3 t4
  have hi : ∀ u v, x.lo.q ≤ u → u ≤ x.hi.q → y.lo.q ≤ v → v ≤ y.hi.q → u * v ≤ H' := fun u v a b c d => bilin' a b c d u1 u2 u3 u4
  refine ⟨e1.mono d1 hn ?_, e2.mono d2 hn ?_⟩
  · rcases l with rfl | rfl | rfl | rfl <;> exact lo _ _ (by grind) (by grind) (by grind) (by grind)
  · rcases g with rfl | rfl | rfl | rfl <;> exact hi _ _ (by grind) (by grind) (by grind) (by grind)
theorem grow_sqr {a x : Iv} (_ha : a.lo.q ≤ a.hi.q) {n m : Nat} (hm : 1 ≤ m) (hn : m ≤ n) (x1 : x.lo.q ≤ a.lo.q) (x2 : a.hi.q ≤ x.hi.q)
    (h1 : (sqrI a n).k = 0) (h2 : (sqrI x m).k = 0) : (sqrI x m).v.lo.q ≤ (sqrI a n).v.lo.q ∧ (sqrI a n).v.hi.q ≤ (sqrI x m).v.hi.q := by
  obtain ⟨L, H, d1, d2, s1, s2, s3, s4, s5, s6, s7⟩ := sqrI_spec (Nat.le_trans hm hn) h1
  obtain ⟨L', H', e1, e2, t1, t2, t3, t4, t5, t6, t7⟩ := sqrI_spec hm h2
  have B : ∀ u, x.lo.q ≤ u → u ≤ x.hi.q → L' ≤ u * u ∧ u * u ≤ H' := fun u a b => sqr_bounds a b t1 t2 t3 t4 t7
  refine ⟨e1.mono d1 hn ?_, e2.mono d2 hn ?_⟩
  · rcases s7 with ⟨rfl, z1, z2⟩ | ⟨-, rfl | rfl⟩
    · rcases t7 with ⟨rfl, -, -⟩ | ⟨h, -⟩
      · exact Rat.le_refl
      · exact absurd ⟨by grind, by grind⟩ h
    · exact (B _ (by grind) (by grind)).1
    · exact (B _ (by grind) (by grind)).1
  · rcases s6 with rfl | rfl
    · exact (B _ (by grind) (by grind)).2
    · exact (B _ (by grind) (by grind)).2

/- Undo. -/
theorem undo_div {a b : Iv} (_ha : a.Ok) (hb : b.Ok) {p : Nat} (hp : 1 ≤ p) (h1 : (divI a b p).k = 0) (h2 : (mulI (divI a b p).v b p).k = 0) :
    (mulI (divI a b p).v b p).v.lo.q ≤ a.lo.q ∧ a.hi.q ≤ (mulI (divI a b p).v b p).v.hi.q := by
  obtain ⟨L, H, d1, d2, ⟨t1, t2, t3, t4⟩, ⟨u1, u2, u3, u4⟩, -, -⟩ := mulI_spec hp h2
  have hq : ∀ x : Dy, (x = a.lo ∨ x = a.hi) → (divI a b p).v.lo.q ≤ x.q / b.lo.q ∧ x.q / b.lo.q ≤ (divI a b p).v.hi.q ∧ ¬ b.lo.m = 0 := by
    unfold divI at h1 ⊢
    by_cases hz : hasZero b = true
    · rw [if_pos hz] at h1; exact absurd h1 (by decide)
    · rw [if_neg hz] at h1 ⊢
      obtain ⟨n1, n2⟩ := hasZero_nz hb hz
      obtain ⟨k1, k2, k3, k4, e⟩ := four_ok h1
      rw [e] at h1 ⊢
      obtain ⟨k5, k6, k7, k8, e⟩ := four_ok h1
      rw [e]
      simp only
      obtain ⟨l1, l2, l3, l4⟩ := least4 (x := (quotD a.lo b.lo p false).v) (y := (quotD a.lo b.hi p false).v) (z := (quotD a.hi b.lo p false).v) (u := (quotD a.hi b.hi p false).v)
      obtain ⟨g1, g2, g3, g4⟩ := greatest4 (x := (quotD a.lo b.lo p true).v) (y := (quotD a.lo b.hi p true).v) (z := (quotD a.hi b.lo p true).v) (u := (quotD a.hi b.hi p true).v)
      intro x hx
      rcases hx with rfl | rfl
      · have := (quotD_down hp n1 k1).le
        have := (quotD_up hp n1 k5).le
        exact ⟨by grind, by grind, n1⟩
      · have := (quotD_down hp n1 k3).le
        have := (quotD_up hp n1 k7).le
        exact ⟨by grind, by grind, n1⟩
  have hx : ∀ x : Dy, (x = a.lo ∨ x = a.hi) → L ≤ x.q ∧ x.q ≤ H := by
    intro x hx
    obtain ⟨q1, q2, n1⟩ := hq x hx
    have hne : b.lo.q ≠ 0 := fun h => n1 (by rw [(q_eq_zero hb.lo).1 h]; rfl)
    have e : x.q = x.q / b.lo.q * b.lo.q := (Rat.div_mul_cancel hne).symm
    have r1 := bilin q1 q2 (Rat.le_refl (a := b.lo.q)) hb.le t1 t2 t3 t4
    have r2 := bilin' q1 q2 (Rat.le_refl (a := b.lo.q)) hb.le u1 u2 u3 u4
    rw [← e] at r1 r2
    exact ⟨r1, r2⟩
  have := d1.le
  have := d2.le
  have := hx _ (.inl rfl)
  have := hx _ (.inr rfl)
  exact ⟨by grind, by grind⟩
theorem undo_sqrt {a : Iv} (ha : a.Ok) {p : Nat} (hp : 1 ≤ p) (h1 : (sqrtI a p).k = 0) (h2 : (sqrI (sqrtI a p).v p).k = 0) :
    (sqrI (sqrtI a p).v p).v.lo.q ≤ a.lo.q ∧ a.hi.q ≤ (sqrI (sqrtI a p).v p).v.hi.q := by
  obtain ⟨L, H, d1, d2, s1, s2, s3, s4, -⟩ := sqrI_spec hp h2
  have hq : (sqrtI a p).v.lo.q * (sqrtI a p).v.lo.q ≤ a.lo.q ∧ a.hi.q ≤ (sqrtI a p).v.hi.q * (sqrtI a p).v.hi.q := by
    unfold sqrtI at h1 ⊢
    by_cases hs : sg a.lo < 0
    · rw [if_pos hs] at h1; exact absurd h1 (by decide)
    · rw [if_neg hs] at h1 ⊢
      obtain ⟨n1, n2⟩ := sqrtI_neg ha hs
      obtain ⟨k1, k2, e⟩ := ends_ok h1
      rw [e]
      exact ⟨(rootD_down hp n1 k1).le, (rootD_up hp n2 k2).le⟩
  have := d1.le
  have := d2.le
  exact ⟨by grind, by grind⟩

theorem limbs_len {n k : Nat} (h : bl n ≤ 64 * k) : (limbs n).length ≤ k := by
  apply limbs_length_le
  have h1 := lt_two_bl n
  have h2 : 2 ^ bl n ≤ 2 ^ (64 * k) := Nat.pow_le_pow_right (by decide) h
  rw [Nat.pow_mul 2 64 k] at h2
  exact Nat.lt_of_lt_of_le h1 h2
/-- Rounded to some bits a number is never of too many limbs. -/
theorem fitD_kind {neg : Bool} {n : Nat} {e : Int} (h : bl n ≤ 4096) : (fitD neg n e).k = 0 ∨ (fitD neg n e).k = 3 := by
  have hb : bl (n / 2 ^ tz n) ≤ 4096 := Nat.le_trans (bl_mono (Nat.div_le_self _ _)) h
  have hl : (limbs (n / 2 ^ tz n)).length ≤ 64 := limbs_len (k := 64) hb
  unfold fitD
  by_cases h0 : n = 0
  · simp only [if_pos h0]; exact .inl rfl
  · rw [if_neg h0, if_neg (by omega)]
    split
    · exact .inr rfl
    · split
      · exact .inr rfl
      · exact .inl rfl
theorem cutD_kind {neg : Bool} {m : Nat} {e : Int} {rest : Bool} {p : Nat} {up : Bool} (hp : p ≤ 2000) : (cutD neg m e rest p up).k = 0 ∨ (cutD neg m e rest p up).k = 3 := by
  unfold cutD
  apply fitD_kind
  have h1 : bl (m / 2 ^ (bl m - p)) ≤ p := by rw [bl_div]; omega
  have h2 : cutM m rest p (up != neg) ≤ m / 2 ^ (bl m - p) + 1 := by
    unfold cutM cutN
    simp only
    split <;> omega
  have h3 := lt_two_bl (m / 2 ^ (bl m - p))
  have h4 : 2 ^ bl (m / 2 ^ (bl m - p)) ≤ 2 ^ p := Nat.pow_le_pow_right (by decide) h1
  have h5 : 2 ^ p < 2 ^ (p + 1) := Nat.pow_lt_pow_right (by decide) (Nat.lt_succ_self p)
  have h6 := bl_le (cutM m rest p (up != neg)) (p + 1) (by omega)
  omega
theorem four_kind {a b c d : Outc Dy} {f : Dy → Dy → Dy → Dy → Outc Iv} (h1 : a.k = 0 ∨ a.k = 3) (h2 : b.k = 0 ∨ b.k = 3) (h3 : c.k = 0 ∨ c.k = 3) (h4 : d.k = 0 ∨ d.k = 3)
    (h : ∀ x y z u, (f x y z u).k = 0 ∨ (f x y z u).k = 3) : (four a b c d f).k = 0 ∨ (four a b c d f).k = 3 := by
  unfold four Outc.bind
  by_cases k1 : a.k = 0
  · simp only [if_pos k1]
    by_cases k2 : b.k = 0
    · simp only [if_pos k2]
      by_cases k3 : c.k = 0
      · simp only [if_pos k3]
        by_cases k4 : d.k = 0
        · simp only [if_pos k4]; exact h _ _ _ _
        · simp only [if_neg k4]; exact h4
      · simp only [if_neg k3]; exact h3
    · simp only [if_neg k2]; exact h2
  · simp only [if_neg k1]; exact h1
theorem divI_kind (a b : Iv) {p : Nat} (hp : p ≤ 2000) : (divI a b p).k = 0 ∨ (divI a b p).k = 3 ∨ ((divI a b p).k = 4 ∧ hasZero b = true) := by
  unfold divI
  by_cases hz : hasZero b = true
  · rw [if_pos hz]; exact .inr (.inr ⟨rfl, hz⟩)
  · rw [if_neg hz]
    have := four_kind (a := quotD a.lo b.lo p false) (b := quotD a.lo b.hi p false) (c := quotD a.hi b.lo p false) (d := quotD a.hi b.hi p false)
      (f := fun x y z u => four (quotD a.lo b.lo p true) (quotD a.lo b.hi p true) (quotD a.hi b.lo p true) (quotD a.hi b.hi p true) fun x' y' z' u' =>
        ⟨⟨leastD x [x, y, z, u], greatestD x' [x', y', z', u']⟩, 0⟩) (cutD_kind hp) (cutD_kind hp) (cutD_kind hp) (cutD_kind hp)
      (fun _ _ _ _ => four_kind (cutD_kind hp) (cutD_kind hp) (cutD_kind hp) (cutD_kind hp) fun _ _ _ _ => .inl rfl)
    rcases this with h | h
    · exact .inl h
    · exact .inr (.inl h)
theorem sqrtI_kind (a : Iv) {p : Nat} (hp : p ≤ 2000) : (sqrtI a p).k = 0 ∨ (sqrtI a p).k = 3 ∨ ((sqrtI a p).k = 4 ∧ sg a.lo < 0) := by
  unfold sqrtI
  by_cases hs : sg a.lo < 0
  · rw [if_pos hs]; exact .inr (.inr ⟨rfl, hs⟩)
  · rw [if_neg hs]
    have h1 : (rootD a.lo p false).k = 0 ∨ (rootD a.lo p false).k = 3 := cutD_kind hp
    have h2 : (rootD a.hi p true).k = 0 ∨ (rootD a.hi p true).k = 3 := cutD_kind hp
    unfold ends Outc.bind
    by_cases k1 : (rootD a.lo p false).k = 0
    · simp only [if_pos k1]
      by_cases k2 : (rootD a.hi p true).k = 0
      · simp only [if_pos k2, true_or]
      · simp only [if_neg k2]; rcases h2 with h | h
        · exact absurd h k2
        · exact .inr (.inl h)
    · simp only [if_neg k1]; rcases h1 with h | h
      · exact absurd h k1
      · exact .inr (.inl h)

end Go.Proofs.YtjdplcenniogdaaDoor
namespace Go.Proofs.YtjdplcenniogdaaDoor

theorem tz_oddN {n : Nat} (h : n % 2 = 1) : tz n = 0 := tz_unique n 0 n h (by simp)
theorem fitD_self {d : Dy} (h : d.Ok) : fitD d.neg d.m d.e = ⟨d, 0⟩ := by
  unfold fitD
  by_cases h0 : d.m = 0
  · rw [if_pos h0]
    obtain ⟨a, b⟩ := h.zero h0
    cases d with | mk n m e =>
      simp only at a b h0
      subst a b h0
      rfl
  · rw [if_neg h0, tz_oddN (h.odd h0)]
    have hl := h.len
    have h1 := h.lo
    have h2 := h.hi
    rw [if_neg (by simpa using hl), if_neg (by simp; omega), if_neg (by simp; omega)]
    simp [good]
theorem dirD_exact {d : Dy} (h : d.Ok) {p : Nat} (hp : bl d.m ≤ p) (up : Bool) : dirD d p up = ⟨d, 0⟩ := by
  unfold dirD cutD cutM cutN
  have e0 : bl d.m - p = 0 := by omega
  simp only [e0, Nat.lt_irrefl, decide_false, Bool.false_and, Bool.or_false, Bool.false_eq_true, if_false, Nat.pow_zero, Nat.div_one, Int.ofNat_zero, Int.add_zero]
  exact fitD_self h

/-- Few bits, small exponents. -/
structure Few (d : Dy) (b : Nat) (e : Int) : Prop where
  ok : d.Ok
  bl : bl d.m ≤ b
  lo : -e ≤ d.e
  hi : d.e ≤ e

theorem fitD_small {neg : Bool} {n : Nat} {e : Int} (h : bl n ≤ 1000) (e1 : -1000 ≤ e) (e2 : e ≤ 1000) : (fitD neg n e).k = 0 ∧ bl (fitD neg n e).v.m ≤ bl n := by
  have hb : bl (n / 2 ^ tz n) ≤ bl n := bl_mono (Nat.div_le_self _ _)
  have hl : (limbs (n / 2 ^ tz n)).length ≤ 64 := limbs_len (k := 64) (by omega)
  by_cases h0 : n = 0
  · subst h0
    refine ⟨rfl, ?_⟩
    show bl dz.m ≤ _
    simp [dz]
  · have ht : tz n < bl n := tz_lt n (bl n) h0 (lt_two_bl n)
    unfold fitD
    rw [if_neg h0, if_neg (by omega), if_neg (by omega), if_neg (by omega)]
    exact ⟨rfl, hb⟩

theorem mul_lt_bl {m n a b : Nat} (hm : bl m ≤ a) (hn : bl n ≤ b) : bl (m * n) ≤ a + b := by
  apply bl_le
  rw [Nat.pow_add]
  have h1 := lt_two_bl m
  have h2 := lt_two_bl n
  have h3 : 2 ^ bl m ≤ 2 ^ a := Nat.pow_le_pow_right (by decide) hm
  have h4 : 2 ^ bl n ≤ 2 ^ b := Nat.pow_le_pow_right (by decide) hn
  exact Nat.mul_lt_mul'' (by omega) (by omega)
theorem mulD_few {x y : Dy} (hx : Few x 128 100) (hy : Few y 128 100) : (mulD x y).k = 0 ∧ (mulD x y).v.Ok ∧ bl (mulD x y).v.m ≤ 600 := by
  have hb := mul_lt_bl hx.bl hy.bl
  have := hx.lo; have := hx.hi; have := hy.lo; have := hy.hi
  obtain ⟨h1, h2⟩ := fitD_small (neg := (x.neg != y.neg)) (n := x.m * y.m) (e := x.e + y.e) (by omega) (by omega) (by omega)
  exact ⟨h1, (mulD_ok x y).1, by unfold mulD; omega⟩
theorem add_bl {m n a : Nat} (hm : bl m ≤ a) (hn : bl n ≤ a) : bl (m + n) ≤ a + 1 := by
  apply bl_le
  have h1 := lt_two_bl m
  have h2 := lt_two_bl n
  have h3 : 2 ^ bl m ≤ 2 ^ a := Nat.pow_le_pow_right (by decide) hm
  have h4 : 2 ^ bl n ≤ 2 ^ a := Nat.pow_le_pow_right (by decide) hn
  have h5 : (2 : Nat) ^ (a + 1) = 2 ^ a + 2 ^ a := Nat.two_pow_succ a
  omega
theorem sumC_few {a b : Dy} (ha : Few a 128 100) (hb : Few b 128 100) (_h : b.e ≤ a.e) : (sumC a b).k = 0 ∧ bl (sumC a b).v.m ≤ 600 := by
  have := ha.lo; have := ha.hi; have := hb.lo; have := hb.hi
  have hp : bl (2 ^ (a.e - b.e).toNat) ≤ 201 := by
    apply bl_le
    exact Nat.pow_lt_pow_right (by decide) (by omega)
  have hm := mul_lt_bl ha.bl hp
  have hs : bl (a.m * 2 ^ (a.e - b.e).toNat + b.m) ≤ 330 := add_bl (a := 329) hm (by have := hb.bl; omega)
  have hd : bl (a.m * 2 ^ (a.e - b.e).toNat - b.m) ≤ 330 := Nat.le_trans (bl_mono (Nat.le_trans (Nat.sub_le _ _) (Nat.le_add_right _ b.m))) hs
  have hd' : bl (b.m - a.m * 2 ^ (a.e - b.e).toNat) ≤ 330 := Nat.le_trans (bl_mono (Nat.le_trans (Nat.sub_le _ _) (Nat.le_add_left b.m (a.m * 2 ^ (a.e - b.e).toNat)))) hs
  have hbl := ha.bl
  unfold sumC
  rw [if_neg (by omega)]
  split
  · have := fitD_small (neg := a.neg) (n := a.m * 2 ^ (a.e - b.e).toNat + b.m) (e := b.e) (by omega) (by omega) (by omega)
    exact ⟨this.1, by omega⟩
  · split
    · have := fitD_small (neg := a.neg) (n := a.m * 2 ^ (a.e - b.e).toNat - b.m) (e := b.e) (by omega) (by omega) (by omega)
      exact ⟨this.1, by omega⟩
    · have := fitD_small (neg := b.neg) (n := b.m - a.m * 2 ^ (a.e - b.e).toNat) (e := b.e) (by omega) (by omega) (by omega)
      exact ⟨this.1, by omega⟩
theorem sumD_few {x y : Dy} (hx : Few x 128 100) (hy : Few y 128 100) : (sumD x y).k = 0 ∧ (sumD x y).v.Ok ∧ bl (sumD x y).v.m ≤ 600 := by
  have ok := (sumD_ok hx.ok hy.ok).1
  have b1 := hx.bl
  have b2 := hy.bl
  unfold sumD at *
  by_cases h1 : x.m = 0
  · rw [if_pos h1] at ok ⊢; exact ⟨rfl, ok, by show bl y.m ≤ 600; omega⟩
  · rw [if_neg h1] at ok ⊢
    by_cases h2 : y.m = 0
    · rw [if_pos h2] at ok ⊢; exact ⟨rfl, ok, by show bl x.m ≤ 600; omega⟩
    · rw [if_neg h2] at ok ⊢
      by_cases h3 : x.e < y.e
      · rw [if_pos h3] at ok ⊢
        have := sumC_few hy hx (by omega)
        exact ⟨this.1, ok, this.2⟩
      · rw [if_neg h3] at ok ⊢
        have := sumC_few hx hy (by omega)
        exact ⟨this.1, ok, this.2⟩
theorem negD_few {d : Dy} {b : Nat} {e : Int} (h : Few d b e) : Few (negD d) b e := by
  refine ⟨negD_ok h.ok, ?_, ?_, ?_⟩ <;> unfold negD <;> split <;> first | exact h.bl | exact h.lo | exact h.hi

def pt (d : Dy) : Iv := ⟨d, d⟩
theorem pt_ok {d : Dy} (h : d.Ok) : (pt d).Ok := ⟨h, h, Rat.le_refl⟩
theorem ends_good (x y : Dy) : ends ⟨x, 0⟩ ⟨y, 0⟩ = ⟨⟨x, y⟩, 0⟩ := rfl
theorem rndD_exact {o : Outc Dy} (h0 : o.k = 0) (h : o.v.Ok) {p : Nat} (hp : bl o.v.m ≤ p) (up : Bool) : rndD o p up = ⟨o.v, 0⟩ := by
  unfold rndD; rw [Outc.bind_of _ _ h0, dirD_exact h hp]
theorem point_add {a b : Dy} (ha : Few a 128 100) (hb : Few b 128 100) : addI (pt a) (pt b) 600 = ⟨pt (sumD a b).v, 0⟩ := by
  obtain ⟨h1, h2, h3⟩ := sumD_few ha hb
  unfold addI pt
  simp only
  rw [rndD_exact h1 h2 h3, rndD_exact h1 h2 h3]; rfl
theorem point_sub {a b : Dy} (ha : Few a 128 100) (hb : Few b 128 100) : subI (pt a) (pt b) 600 = ⟨pt (sumD a (negD b)).v, 0⟩ := point_add ha (negD_few hb)
theorem leastD_same (x : Dy) (l : List Dy) (h : ∀ y ∈ l, y = x) : leastD x l = x := by
  rcases leastD_mem l x with e | e
  · exact e
  · exact h _ e
theorem greatestD_same (x : Dy) (l : List Dy) (h : ∀ y ∈ l, y = x) : greatestD x l = x := by
  rcases greatestD_mem l x with e | e
  · exact e
  · exact h _ e
theorem point_mul {a b : Dy} (ha : Few a 128 100) (hb : Few b 128 100) : mulI (pt a) (pt b) 600 = ⟨pt (mulD a b).v, 0⟩ := by
  obtain ⟨h1, h2, h3⟩ := mulD_few ha hb
  unfold mulI pt
  simp only
  rw [four_all h1 h1 h1 h1, leastD_same _ _ (by simp), greatestD_same _ _ (by simp), dirD_exact h2 h3, dirD_exact h2 h3]; rfl
theorem point_sqr {a : Dy} (ha : Few a 128 100) : sqrI (pt a) 600 = ⟨pt (mulD a a).v, 0⟩ := by
  obtain ⟨h1, h2, h3⟩ := mulD_few ha ha
  unfold sqrI pt
  simp only
  rw [Outc.bind_of _ _ h1, Outc.bind_of _ _ h1, leastD_same _ _ (by simp), greatestD_same _ _ (by simp), dirD_exact h2 h3]
  have hl : (if hasZero ⟨a, a⟩ = true then dz else (mulD a a).v) = (mulD a a).v := by
    by_cases hz : hasZero ⟨a, a⟩ = true
    · rw [if_pos hz]
      have hq := (hasZero_iff _).1 hz
      simp only at hq
      have : a.q = 0 := by grind
      have := (q_eq_zero ha.ok).1 this
      subst this
      rfl
    · rw [if_neg hz]
  rw [hl, dirD_exact h2 h3]; rfl
theorem point_neg {a : Dy} (ha : Few a 128 100) : negI (pt a) 600 = ⟨pt (negD a), 0⟩ := by
  have h := negD_few ha
  unfold negI pt
  simp only
  rw [dirD_exact h.ok (by have := h.bl; omega), dirD_exact h.ok (by have := h.bl; omega)]; rfl

end Go.Proofs.YtjdplcenniogdaaDoor
