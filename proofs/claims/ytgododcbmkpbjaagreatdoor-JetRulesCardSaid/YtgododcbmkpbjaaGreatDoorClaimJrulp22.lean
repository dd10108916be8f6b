/- Contracts: ival.Meet, the document's Same, where they say yes. -/
import Derived.Test.YtgododcbmkpbjaaGreatDoorClaimJrulp18
import Derived.Test.YtgododcbmkpbjaaGreatDoorClaimJrulp21
set_option maxRecDepth 100000
set_option maxHeartbeats 16000000
namespace Go.Proofs.YtgododcbmkpbjaaGreatDoor
open Go.Lib (hid)
open Go.RowKit
def IvR (w : World) (v : Value) (a : RawI) : Prop := ∃ x y z x' y' z',v = .agg #[x,y,z,x',y',z'] ∧ DyR w (.agg #[x,y,z]) a.lo ∧ DyR w (.agg #[x',y',z']) a.hi
theorem IvR.kept {w w' : World} {v : Value} {a : RawI} (h : IvR w v a) (k : Kept w w') : IvR w' v a := by
 obtain ⟨x,y,z,x',y',z',rfl,h1,h2⟩ := h
 exact ⟨x,y,z,x',y',z',rfl,h1.kept k,h2.kept k⟩
theorem rawR_split {w : World} {v : Value} {r : Raw} (h : DyR w v r) : ∃ A l c,v = .agg #[.bool r.neg,.slice A l c,.int .i64 r.e] ∧ DyR w (.agg #[.bool r.neg,.slice A l c,.int .i64 r.e]) r := by
 obtain ⟨A,l,c,rfl,-,-,-,-⟩ := h.shape
 exact ⟨A,l,c,rfl,h⟩
theorem ivR_split {w : World} {v : Value} {a : RawI} (h : IvR w v a) : ∃ A l c A' l' c',v = .agg #[.bool a.lo.neg,.slice A l c,.int .i64 a.lo.e,.bool a.hi.neg,.slice A' l' c',.int .i64 a.hi.e] ∧
 DyR w (.agg #[.bool a.lo.neg,.slice A l c,.int .i64 a.lo.e]) a.lo ∧ DyR w (.agg #[.bool a.hi.neg,.slice A' l' c',.int .i64 a.hi.e]) a.hi := by
 obtain ⟨x,y,z,x',y',z',rfl,h1,h2⟩ := h
 obtain ⟨A,l,c,e1,h1⟩ := rawR_split h1
 obtain ⟨A',l',c',e2,h2⟩ := rawR_split h2
 injection e1 with e1;injection e1 with e1
 injection e2 with e2;injection e2 with e2
 simp only [List.cons.injEq,and_true] at e1 e2
 obtain ⟨rfl,rfl,rfl⟩ := e1
 obtain ⟨rfl,rfl,rfl⟩ := e2
 exact ⟨A,l,c,A',l',c',rfl,h1,h2⟩
def BlkI (w : World) (b : Nat) (x y z x' y' z' : Value) : Prop := w.heap[b]? = some (.cells #[x,y,z,x',y',z'] 32 (0,0))
theorem BlkI.facts {w : World} {b : Nat} {x y z x' y' z' : Value} (h : BlkI w b x y z x' y' z') : b < w.heap.size ∧ w.cell? ⟨b,0,none⟩ = some x ∧ w.cell? ⟨b,1,none⟩ = some y ∧ w.cell? ⟨b,2,none⟩ = some z ∧
 w.cell? ⟨b,3,none⟩ = some x' ∧ w.cell? ⟨b,4,none⟩ = some y' ∧ w.cell? ⟨b,5,none⟩ = some z' :=
 ⟨(Array.getElem?_eq_some_iff.1 h).1,cell_of_block h 0 _ rfl,cell_of_block h 1 _ rfl,cell_of_block h 2 _ rfl,cell_of_block h 3 _ rfl,cell_of_block h 4 _ rfl,cell_of_block h 5 _ rfl⟩
theorem BlkI.kept {w w1 : World} {b : Nat} {x y z x' y' z' : Value} (h : BlkI w b x y z x' y' z') (k : Kept w w1) : BlkI w1 b x y z x' y' z' :=
 (k.block b (Array.getElem?_eq_some_iff.1 h).1).trans h
theorem blkI_new (w : World) (x y z x' y' z' : Value) : BlkI (w.alloc (.cells #[x,y,z,x',y',z'] 32)) w.heap.size x y z x' y' z' := heap_alloc_new _ _
def RawI.lens (a : RawI) (k : Nat) : Prop := a.lo.m.length ≤ k ∧ a.hi.m.length ≤ k
theorem box1i (w : World) (x y z x' y' z' : Value) : ∃ W,W = w.alloc (.cells #[x,y,z,x',y',z'] 32) ∧ Kept w W ∧ BlkI W w.heap.size x y z x' y' z' :=
 ⟨_,rfl,kept_alloc _ _,blkI_new _ _ _ _ _ _ _⟩
theorem raw_small {w : World} {v : Value} {r : Raw} (h : DyR w v r) : Small r.m := by
 obtain ⟨s,-,hs,-,-⟩ := h;exact hs.1
theorem imay_c {w : World} {v : Value} {a : RawI} (hv : IvR w v a) (hl : a.lens 17592186044416) :
 Calls Tryz.prog 64 #[v] w (RetK (.bool (mayI a)) w) := by
 obtain ⟨A,l,c,A',l',c',rfl,h1,h2⟩ := ivR_split hv
 have m1 := fun w1 (k : Kept w w1) => may_c (h1.kept k) hl.1
 have m2 := fun w1 (k : Kept w w1) => may_c (h2.kept k) hl.2
 have hc : mayD a.lo = true → mayD a.hi = true → ∀ w1,Kept w w1 → Calls Tryz.prog 21 #[.agg #[.bool a.lo.neg,.slice A l c,.int .i64 a.lo.e],.agg #[.bool a.hi.neg,.slice A' l' c',.int .i64 a.hi.e]] w1 (RetK (.int .i64 (cmpQ a.lo.dy.q a.hi.dy.q)) w1) := by
  intro d1 d2 w1 k
  obtain ⟨e1,o1⟩ := mayD_clean (raw_small h1) d1
  obtain ⟨e2,o2⟩ := mayD_clean (raw_small h2) d2
  have g1 := h1.kept k
  have g2 := h2.kept k
  exact dcmp_c (x := a.lo.dy) (y := a.hi.dy) (by rw [e1];exact g1) (by rw [e2];exact g2) o1 o2
 unfold mayI
 have M1 := hid m1
 have M2 := hid m2
 have HC := hid hc
 clear m1 m2 hc h1 h2 hv hl
 generalize a.lo.neg = n1 at *
 generalize a.lo.e = e1 at *
 generalize a.hi.neg = n2 at *
 generalize a.hi.e = e2 at *
 generalize cmpQ a.lo.dy.q a.hi.dy.q = cc at *
 generalize mayD a.lo = b1 at *
 generalize mayD a.hi = b2 at *
 obtain ⟨W,hW,kW,BI⟩ := box1i w (.bool n1) (.slice A l c) (.int .i64 e1) (.bool n2) (.slice A' l' c') (.int .i64 e2)
 have HW := hid hW
 have HK := hid kW
 have HB := hid BI
 clear hW kW BI
 cases b1
 ·rw [Bool.false_and, Bool.false_and]
  go_enter Tryz.func64,Tryz.ntmps64
  go_wp2_with (go_at_call 42;rw [← HW.out];refine (M1.out _ HK.out).mono ?_;rintro e w1 ⟨rfl,q⟩)
  go_ret
  exact ⟨rfl,HK.out.trans q⟩
 ·cases b2
  ·rw [Bool.and_false, Bool.false_and]
   go_enter Tryz.func64,Tryz.ntmps64
   go_wp2_with fail
   rw [← HW.out]
   refine (M1.out _ HK.out).mono ?_
   rintro e w1 ⟨rfl,q⟩
   have K := hid (HK.out.trans q)
   obtain ⟨-,c0,c1,c2,c3,c4,c5⟩ := (HB.out.kept q).facts
   have HB2 := hid (HB.out.kept q)
   clear q
   simp only []
   go_wp2_with fail
   refine (M2.out _ K.out).mono ?_
   rintro e w2 ⟨rfl,q⟩
   replace K := hid (K.out.trans q)
   clear c0 c1 c2 c3 c4 c5
   obtain ⟨-,c0,c1,c2,c3,c4,c5⟩ := (HB2.out.kept q).facts
   clear q
   simp only []
   go_wp2_with fail
   go_ret
   exact ⟨rfl,K.out⟩
  ·rw [Bool.and_true, Bool.true_and]
   have hc := HC.out rfl rfl
   clear HC
   have HC := hid hc
   clear hc
   obtain ⟨rb,hrb⟩ : ∃ rb,decide (cc ≤ 0) = rb := ⟨_,rfl⟩
   rw [hrb]
   go_enter Tryz.func64,Tryz.ntmps64
   go_wp2_with fail
   rw [← HW.out]
   refine (M1.out _ HK.out).mono ?_
   rintro e w1 ⟨rfl,q⟩
   have K := hid (HK.out.trans q)
   obtain ⟨-,c0,c1,c2,c3,c4,c5⟩ := (HB.out.kept q).facts
   have HB2 := hid (HB.out.kept q)
   clear q
   simp only []
   go_wp2_with fail
   refine (M2.out _ K.out).mono ?_
   rintro e w2 ⟨rfl,q⟩
   replace K := hid (K.out.trans q)
   clear c0 c1 c2 c3 c4 c5
   obtain ⟨-,c0,c1,c2,c3,c4,c5⟩ := (HB2.out.kept q).facts
   clear q
   simp only []
   go_wp2_with fail
   refine (HC.out _ K.out).mono ?_
   rintro e w3 ⟨rfl,q⟩
   replace K := hid (K.out.trans q)
   clear q
   simp only []
   go_wp2_with fail
   go_ret
   exact ⟨rfl,K.out⟩
def IvC (w : World) (v : Value) (a : Iv) : Prop := IvR w v a.raw
theorem IvC.kept {w w' : World} {v : Value} {a : Iv} (h : IvC w v a) (k : Kept w w') : IvC w' v a := IvR.kept h k
theorem ivC_split {w : World} {v : Value} {a : Iv} (h : IvC w v a) : ∃ A l c A' l' c',v = .agg #[.bool a.lo.neg,.slice A l c,.int .i64 a.lo.e,.bool a.hi.neg,.slice A' l' c',.int .i64 a.hi.e] ∧
 DyR w (.agg #[.bool a.lo.neg,.slice A l c,.int .i64 a.lo.e]) a.lo.raw ∧ DyR w (.agg #[.bool a.hi.neg,.slice A' l' c',.int .i64 a.hi.e]) a.hi.raw := ivR_split h
theorem iv_lens {a : Iv} (h : a.Ok) : a.raw.lens 17592186044416 := ⟨by have := dy_len h.lo;show a.lo.raw.m.length ≤ _;omega,by have := dy_len h.hi;show a.hi.raw.m.length ≤ _;omega⟩
theorem imayT_c {w : World} {v : Value} {a : Iv} (hv : IvC w v a) (h : a.Ok) : Calls Tryz.prog 64 #[v] w (RetK (.bool true) w) := by
 have := imay_c hv (iv_lens h)
 rwa [mayI_raw h] at this
theorem mayT_c {w : World} {v : Value} {d : Dy} (hv : DyR w v d.raw) (h : d.Ok) : Calls Tryz.prog 42 #[v] w (RetK (.bool true) w) := by
 have := may_c hv (by have := dy_len h;omega)
 rwa [h.may] at this
def hasI (a : Iv) (d : Dy) : Bool := decide (cmpQ a.lo.q d.q ≤ 0) && decide (cmpQ d.q a.hi.q ≤ 0)
theorem box2id (w : World) (x y z x' y' z' p q r : Value) : ∃ W,W = (w.alloc (.cells #[x,y,z,x',y',z'] 32)).alloc (.cells #[p,q,r] 30) ∧ Kept w W ∧ BlkI W w.heap.size x y z x' y' z' ∧ Blk W (w.heap.size + 1) p q r :=
 ⟨_,rfl,(kept_alloc _ _).trans (kept_alloc _ _),(blkI_new _ _ _ _ _ _ _).kept (kept_alloc _ _),blk_new1 _ _ _ _ _⟩
theorem has_c {w : World} {v u : Value} {a : Iv} {d : Dy} (hv : IvC w v a) (hu : DyR w u d.raw) (ha : a.Ok) (hd : d.Ok) :
 Calls Tryz.prog 25 #[v,u] w (RetK (.bool (hasI a d)) w) := by
 have m1 := fun w1 (k : Kept w w1) => imayT_c (hv.kept k) ha
 have m2 := fun w1 (k : Kept w w1) => mayT_c (hu.kept k) hd
 obtain ⟨A,l,c,A',l',c',rfl,h1,h2⟩ := ivC_split hv
 obtain ⟨A3,l3,c3,rfl,hu⟩ := dyR_split hu
 have q1 := fun w1 (k : Kept w w1) => dcmp_c (h1.kept k) (hu.kept k) ha.lo hd
 have q2 := fun w1 (k : Kept w w1) => dcmp_c (hu.kept k) (h2.kept k) hd ha.hi
 unfold hasI
 have M1 := hid m1
 have M2 := hid m2
 have Q1 := hid q1
 have Q2 := hid q2
 clear m1 m2 q1 q2 h1 h2 hv hu ha hd
 generalize cmpQ a.lo.q d.q = r1 at *
 generalize cmpQ d.q a.hi.q = r2 at *
 generalize a.lo.neg = n1 at *
 generalize a.lo.e = e1 at *
 generalize a.hi.neg = n2 at *
 generalize a.hi.e = e2 at *
 generalize d.neg = n3 at *
 generalize d.e = e3 at *
 obtain ⟨W,hW,kW,BI,BD⟩ := box2id w (.bool n1) (.slice A l c) (.int .i64 e1) (.bool n2) (.slice A' l' c') (.int .i64 e2) (.bool n3) (.slice A3 l3 c3) (.int .i64 e3)
 have HW := hid hW
 have K := hid kW
 have HB := hid BI
 have HD := hid BD
 clear hW kW BI BD
 have hr1 : decide (r1 ≤ 0) = true ∨ decide (r1 ≤ 0) = false := bools _
 rcases hr1 with hr1 | hr1
 ·rw [hr1, Bool.true_and]
  obtain ⟨rb,hrb⟩ : ∃ rb,decide (r2 ≤ 0) = rb := ⟨_,rfl⟩
  rw [hrb]
  go_enter Tryz.func25,Tryz.ntmps25
  go_wp2_with fail
  rw [← HW.out]
  refine (M1.out _ K.out).mono ?_
  rintro e w1 ⟨rfl,q⟩
  replace K := hid (K.out.trans q)
  replace HB := hid (HB.out.kept q)
  replace HD := hid (HD.out.kept q)
  clear q
  obtain ⟨-,c0,c1,c2,c3,c4,c5⟩ := HB.out.facts
  obtain ⟨-,d0,d1,d2,-⟩ := HD.out.facts
  simp only []
  go_wp2_with fail
  refine (M2.out _ K.out).mono ?_
  clear c0 c1 c2 c3 c4 c5 d0 d1 d2
  rintro e w1 ⟨rfl,q⟩
  replace K := hid (K.out.trans q)
  replace HB := hid (HB.out.kept q)
  replace HD := hid (HD.out.kept q)
  clear q
  obtain ⟨-,c0,c1,c2,c3,c4,c5⟩ := HB.out.facts
  obtain ⟨-,d0,d1,d2,-⟩ := HD.out.facts
  simp only []
  go_wp2_with fail
  refine (Q1.out _ K.out).mono ?_
  clear c0 c1 c2 c3 c4 c5 d0 d1 d2
  rintro e w1 ⟨rfl,q⟩
  replace K := hid (K.out.trans q)
  replace HB := hid (HB.out.kept q)
  replace HD := hid (HD.out.kept q)
  clear q
  obtain ⟨-,c0,c1,c2,c3,c4,c5⟩ := HB.out.facts
  obtain ⟨-,d0,d1,d2,-⟩ := HD.out.facts
  simp only []
  go_wp2_with fail
  refine (Q2.out _ K.out).mono ?_
  rintro e w4 ⟨rfl,q⟩
  replace K := hid (K.out.trans q)
  clear q
  simp only []
  go_wp2_with fail
  go_ret
  exact ⟨rfl,K.out⟩
 ·rw [hr1, Bool.false_and]
  go_enter Tryz.func25,Tryz.ntmps25
  go_wp2_with fail
  rw [← HW.out]
  refine (M1.out _ K.out).mono ?_
  rintro e w1 ⟨rfl,q⟩
  replace K := hid (K.out.trans q)
  replace HB := hid (HB.out.kept q)
  replace HD := hid (HD.out.kept q)
  clear q
  obtain ⟨-,c0,c1,c2,c3,c4,c5⟩ := HB.out.facts
  obtain ⟨-,d0,d1,d2,-⟩ := HD.out.facts
  simp only []
  go_wp2_with fail
  refine (M2.out _ K.out).mono ?_
  clear c0 c1 c2 c3 c4 c5 d0 d1 d2
  rintro e w1 ⟨rfl,q⟩
  replace K := hid (K.out.trans q)
  replace HB := hid (HB.out.kept q)
  replace HD := hid (HD.out.kept q)
  clear q
  obtain ⟨-,c0,c1,c2,c3,c4,c5⟩ := HB.out.facts
  obtain ⟨-,d0,d1,d2,-⟩ := HD.out.facts
  simp only []
  go_wp2_with fail
  refine (Q1.out _ K.out).mono ?_
  clear c0 c1 c2 c3 c4 c5 d0 d1 d2
  rintro e w1 ⟨rfl,q⟩
  replace K := hid (K.out.trans q)
  replace HB := hid (HB.out.kept q)
  replace HD := hid (HD.out.kept q)
  clear q
  obtain ⟨-,c0,c1,c2,c3,c4,c5⟩ := HB.out.facts
  obtain ⟨-,d0,d1,d2,-⟩ := HD.out.facts
  simp only []
  go_wp2_with fail
  go_ret
  exact ⟨rfl,K.out⟩
theorem box2ii (w : World) (x y z x' y' z' p q r p' q' r' : Value) : ∃ W,W = (w.alloc (.cells #[x,y,z,x',y',z'] 32)).alloc (.cells #[p,q,r,p',q',r'] 32) ∧ Kept w W ∧ BlkI W w.heap.size x y z x' y' z' ∧ BlkI W (w.heap.size + 1) p q r p' q' r' := by
 refine ⟨_,rfl,(kept_alloc _ _).trans (kept_alloc _ _),(blkI_new _ _ _ _ _ _ _).kept (kept_alloc _ _),?_⟩
 have := blkI_new (w.alloc (.cells #[x,y,z,x',y',z'] 32)) p q r p' q' r'
 simpa using this
def leastI (a b : Dy) : Dy := if cmpQ a.q b.q ≤ 0 then a else b
def greatestI (a b : Dy) : Dy := if 0 ≤ cmpQ a.q b.q then a else b
theorem ileast_c {w : World} {v u : Value} {x y : Dy} (ha : DyR w v x.raw) (hb : DyR w u y.raw) (hx : x.Ok) (hy : y.Ok) :
 Calls Tryz.prog 67 #[v,u] w (RetD (leastI x y).raw w) := by
 have hc := fun w1 (k : Kept w w1) => dcmp_c (ha.kept k) (hb.kept k) hx hy
 unfold leastI
 obtain ⟨A,l,c,rfl,-,la,xa,xb⟩ := ha.shape
 obtain ⟨A2,l2,c2,rfl,-,lb,ya,yb⟩ := hb.shape
 obtain ⟨W,hW,kW,B0,B1,B2⟩ := boxes3 w (.bool x.neg) (.slice A l c) (.int .i64 x.e) (.bool y.neg) (.slice A2 l2 c2) (.int .i64 y.e)
 have HC := hid hc
 have HW := hid hW
 have K := hid kW
 have HB0 := hid B0
 have HB1 := hid B1
 have HB2 := hid B2
 have LA := hid la
 have LB := hid lb
 have BX := hid (And.intro xa xb)
 have BY := hid (And.intro ya yb)
 clear hc hW kW B0 B1 B2 la lb xa xb ya yb ha hb hx hy
 simp only [Dy.raw] at *
 generalize cmpQ x.q y.q = cc at *
 by_cases hcc : cc ≤ 0
 ·rw [if_pos hcc]
  have hd : decide (cc ≤ 0) = true := by simp [hcc]
  clear hcc
  go_enter Tryz.func67,Tryz.ntmps67
  go_wp2_with fail
  rw [← HW.out]
  refine (HC.out _ K.out).mono ?_
  rintro e w1 ⟨rfl,q⟩
  replace K := hid (K.out.trans q)
  replace HB0 := hid (HB0.out.kept q)
  replace HB1 := hid (HB1.out.kept q)
  replace HB2 := hid (HB2.out.kept q)
  clear q
  obtain ⟨-,a0,a1,a2,-⟩ := HB0.out.facts
  obtain ⟨-,b0,b1,b2,-⟩ := HB1.out.facts
  obtain ⟨_,c0,c1,c2,f0,f1,f2⟩ := HB2.out.facts
  simp only []
  go_wp2_with fail
  exact ret_dy (HB2.out.laid _ _ _) rfl rfl rfl ⟨dyW_kept K.out (by omega),_,rfl,((LA.out.kept K.out).dyW HB2.out (noLimb_bool _) (noLimb_slice _ _ _) (noLimb_i64 _)).dyR (r := ⟨x.neg,limbs x.m,x.e⟩) BX.out.1 BX.out.2⟩
 ·rw [if_neg hcc]
  have hd : decide (cc ≤ 0) = false := by simp [hcc]
  clear hcc
  go_enter Tryz.func67,Tryz.ntmps67
  go_wp2_with fail
  rw [← HW.out]
  refine (HC.out _ K.out).mono ?_
  rintro e w1 ⟨rfl,q⟩
  replace K := hid (K.out.trans q)
  replace HB0 := hid (HB0.out.kept q)
  replace HB1 := hid (HB1.out.kept q)
  replace HB2 := hid (HB2.out.kept q)
  clear q
  obtain ⟨-,a0,a1,a2,-⟩ := HB0.out.facts
  obtain ⟨-,b0,b1,b2,-⟩ := HB1.out.facts
  obtain ⟨_,c0,c1,c2,f0,f1,f2⟩ := HB2.out.facts
  simp only []
  go_wp2_with fail
  exact ret_dy (HB2.out.laid _ _ _) rfl rfl rfl ⟨dyW_kept K.out (by omega),_,rfl,((LB.out.kept K.out).dyW HB2.out (noLimb_bool _) (noLimb_slice _ _ _) (noLimb_i64 _)).dyR (r := ⟨y.neg,limbs y.m,y.e⟩) BY.out.1 BY.out.2⟩
theorem igreatest_c {w : World} {v u : Value} {x y : Dy} (ha : DyR w v x.raw) (hb : DyR w u y.raw) (hx : x.Ok) (hy : y.Ok) :
 Calls Tryz.prog 66 #[v,u] w (RetD (greatestI x y).raw w) := by
 have hc := fun w1 (k : Kept w w1) => dcmp_c (ha.kept k) (hb.kept k) hx hy
 unfold greatestI
 obtain ⟨A,l,c,rfl,-,la,xa,xb⟩ := ha.shape
 obtain ⟨A2,l2,c2,rfl,-,lb,ya,yb⟩ := hb.shape
 obtain ⟨W,hW,kW,B0,B1,B2⟩ := boxes3 w (.bool x.neg) (.slice A l c) (.int .i64 x.e) (.bool y.neg) (.slice A2 l2 c2) (.int .i64 y.e)
 have HC := hid hc
 have HW := hid hW
 have K := hid kW
 have HB0 := hid B0
 have HB1 := hid B1
 have HB2 := hid B2
 have LA := hid la
 have LB := hid lb
 have BX := hid (And.intro xa xb)
 have BY := hid (And.intro ya yb)
 clear hc hW kW B0 B1 B2 la lb xa xb ya yb ha hb hx hy
 simp only [Dy.raw] at *
 generalize cmpQ x.q y.q = cc at *
 by_cases hcc : 0 ≤ cc
 ·rw [if_pos hcc]
  have hd : decide (0 ≤ cc) = true := by simp [hcc]
  clear hcc
  go_enter Tryz.func66,Tryz.ntmps66
  go_wp2_with fail
  rw [← HW.out]
  refine (HC.out _ K.out).mono ?_
  rintro e w1 ⟨rfl,q⟩
  replace K := hid (K.out.trans q)
  replace HB0 := hid (HB0.out.kept q)
  replace HB1 := hid (HB1.out.kept q)
  replace HB2 := hid (HB2.out.kept q)
  clear q
  obtain ⟨-,a0,a1,a2,-⟩ := HB0.out.facts
  obtain ⟨-,b0,b1,b2,-⟩ := HB1.out.facts
  obtain ⟨_,c0,c1,c2,f0,f1,f2⟩ := HB2.out.facts
  simp only []
  go_wp2_with fail
  exact ret_dy (HB2.out.laid _ _ _) rfl rfl rfl ⟨dyW_kept K.out (by omega),_,rfl,((LA.out.kept K.out).dyW HB2.out (noLimb_bool _) (noLimb_slice _ _ _) (noLimb_i64 _)).dyR (r := ⟨x.neg,limbs x.m,x.e⟩) BX.out.1 BX.out.2⟩
 ·rw [if_neg hcc]
  have hd : decide (0 ≤ cc) = false := by simp [hcc]
  clear hcc
  go_enter Tryz.func66,Tryz.ntmps66
  go_wp2_with fail
  rw [← HW.out]
  refine (HC.out _ K.out).mono ?_
  rintro e w1 ⟨rfl,q⟩
  replace K := hid (K.out.trans q)
  replace HB0 := hid (HB0.out.kept q)
  replace HB1 := hid (HB1.out.kept q)
  replace HB2 := hid (HB2.out.kept q)
  clear q
  obtain ⟨-,a0,a1,a2,-⟩ := HB0.out.facts
  obtain ⟨-,b0,b1,b2,-⟩ := HB1.out.facts
  obtain ⟨_,c0,c1,c2,f0,f1,f2⟩ := HB2.out.facts
  simp only []
  go_wp2_with fail
  exact ret_dy (HB2.out.laid _ _ _) rfl rfl rfl ⟨dyW_kept K.out (by omega),_,rfl,((LB.out.kept K.out).dyW HB2.out (noLimb_bool _) (noLimb_slice _ _ _) (noLimb_i64 _)).dyR (r := ⟨y.neg,limbs y.m,y.e⟩) BY.out.1 BY.out.2⟩
theorem cell_of_block' {w : World} {b : Nat} {cs : Array Value} {t : TypeId} (h : w.heap[b]? = some (.cells cs t (0,0))) (i : Nat) : w.cell? ⟨b,i,none⟩ = cs[i]? := by
 simp [World.cell?,h]
theorem Lim.setBlock {w w' : World} {s : Value} {xs : List Nat} {b : Nat} {cs : Array Value} {t : TypeId} (h : Lim w s xs) (hb : w.heap[b]? = some (.cells cs t (0,0))) (hn : ∀ (i : Nat) (v : Value),cs[i]? = some v → NoLimb v)
 (hs : w.heap.size ≤ w'.heap.size) (ho : ∀ k,k < w.heap.size → k ≠ b → w'.heap[k]? = w.heap[k]?) : Lim w' s xs := by
 obtain ⟨hsm,A,c,rfl,hc,hA⟩ := h
 refine ⟨hsm,A,c,rfl,hc,fun hp => ?_⟩
 obtain ⟨b1,off,rfl,hb1,hcell⟩ := hA hp
 have hne : b1 ≠ b := by
  rintro rfl
  have h5 := hcell 0 hp
  rw [cell_of_block' hb] at h5
  exact hn _ _ h5 _ rfl
 refine ⟨b1,off,rfl,Nat.lt_of_lt_of_le hb1 hs,fun i hi => ?_⟩
 rw [← hcell i hi]
 exact World.cell?_of_block (ho b1 hb1 hne)
def ivW (w : World) (b : Nat) (x y z x' y' z' : Value) : World :=
 (((((w.setCell ⟨b,0,none⟩ x).setCell ⟨b,1,none⟩ y).setCell ⟨b,2,none⟩ z).setCell ⟨b,3,none⟩ x').setCell ⟨b,4,none⟩ y').setCell ⟨b,5,none⟩ z'
theorem BlkI.laid {w : World} {b : Nat} {p q r p' q' r' : Value} (h : BlkI w b p q r p' q' r') (x y z x' y' z' : Value) : BlkI (ivW w b x y z x' y' z') b x y z x' y' z' :=
 block_setCell (block_setCell (block_setCell (block_setCell (block_setCell (block_setCell h _) _) _) _) _) _
theorem ivW_kept {w0 w : World} {b : Nat} {x y z x' y' z' : Value} (h : Kept w0 w) (h2 : w0.heap.size ≤ b) : Kept w0 (ivW w b x y z x' y' z') :=
 (((((h.setCell (p := ⟨b,0,none⟩) h2 x).setCell (p := ⟨b,1,none⟩) h2 y).setCell (p := ⟨b,2,none⟩) h2 z).setCell (p := ⟨b,3,none⟩) h2 x').setCell (p := ⟨b,4,none⟩) h2 y').setCell (p := ⟨b,5,none⟩) h2 z'
theorem ivW_other (w : World) (b k : Nat) (x y z x' y' z' : Value) (h : k ≠ b) : (ivW w b x y z x' y' z').heap[k]? = w.heap[k]? := by
 unfold ivW
 rw [Below.heap_setCell _ _ _ _ h,Below.heap_setCell _ _ _ _ h,Below.heap_setCell _ _ _ _ h,Below.heap_setCell _ _ _ _ h,Below.heap_setCell _ _ _ _ h,Below.heap_setCell _ _ _ _ h]
theorem BlkI.noLimb {w : World} {b : Nat} {n n' : Bool} {A A' : Option Addr} {l c l' c' : Nat} {e e' : Int} (_h : BlkI w b (.bool n) (.slice A l c) (.int .i64 e) (.bool n') (.slice A' l' c') (.int .i64 e')) :
 ∀ (i : Nat) (v : Value),(#[Value.bool n,.slice A l c,.int .i64 e,.bool n',.slice A' l' c',.int .i64 e'] : Array Value)[i]? = some v → NoLimb v := by
 intro i v hv
 rcases i with _ | _ | _ | _ | _ | _ | i
 ·simp at hv;subst hv;exact noLimb_bool _
 ·simp at hv;subst hv;exact noLimb_slice _ _ _
 ·simp at hv;subst hv;exact noLimb_i64 _
 ·simp at hv;subst hv;exact noLimb_bool _
 ·simp at hv;subst hv;exact noLimb_slice _ _ _
 ·simp at hv;subst hv;exact noLimb_i64 _
 ·simp at hv
theorem Lim.ivW {w : World} {s : Value} {xs : List Nat} {b : Nat} {n n' : Bool} {A A' : Option Addr} {l c l' c' : Nat} {e e' : Int} (h : Lim w s xs) (hb : BlkI w b (.bool n) (.slice A l c) (.int .i64 e) (.bool n') (.slice A' l' c') (.int .i64 e')) (x y z x' y' z' : Value) :
 Lim (Go.Proofs.YtgododcbmkpbjaaGreatDoor.ivW w b x y z x' y' z') s xs :=
 h.setBlock hb hb.noLimb (by simp [Go.Proofs.YtgododcbmkpbjaaGreatDoor.ivW,World.setCell]) (fun k _ hne => ivW_other _ _ _ _ _ _ _ _ _ hne)
theorem DyR.ivW {w : World} {v : Value} {r : Raw} {b : Nat} {n n' : Bool} {A A' : Option Addr} {l c l' c' : Nat} {e e' : Int} (h : DyR w v r) (hb : BlkI w b (.bool n) (.slice A l c) (.int .i64 e) (.bool n') (.slice A' l' c') (.int .i64 e')) (x y z x' y' z' : Value) :
 DyR (Go.Proofs.YtgododcbmkpbjaaGreatDoor.ivW w b x y z x' y' z') v r := by
 obtain ⟨s,rfl,hs,h1,h2⟩ := h
 exact ⟨s,rfl,hs.ivW hb _ _ _ _ _ _,h1,h2⟩
theorem BlkI.free {w : World} {b : Nat} {x y z x' y' z' : Value} (h : BlkI w b x y z x' y' z') : w.frozen? ⟨b,0,none⟩ = false ∧ w.frozen? ⟨b,1,none⟩ = false ∧ w.frozen? ⟨b,2,none⟩ = false ∧ w.frozen? ⟨b,3,none⟩ = false ∧ w.frozen? ⟨b,4,none⟩ = false ∧ w.frozen? ⟨b,5,none⟩ = false :=
 ⟨free_of_block h 0,free_of_block h 1,free_of_block h 2,free_of_block h 3,free_of_block h 4,free_of_block h 5⟩
theorem ret_iv {fn : Func} {R : Ending → World → Prop} {a : Act} {w : World} {b t : Nat} {x y z x' y' z' : Value} (h : BlkI w b x y z x' y' z')
 (hres : fn.results = #[.cell t 32]) (ht : a.tmps.getD t undef = .pointer (some ⟨b,0,none⟩)) (hd : a.defers = []) (hR : R (.returned (.agg #[x,y,z,x',y',z'])) w) :
 bodyPost Tryz.prog fn R .ret a w := by
 obtain ⟨_,c0,c1,c2,c3,c4,c5⟩ := h.facts
 refine bodyPost_ret (v := .agg #[x,y,z,x',y',z']) ?_ hd hR
 have ht2 : a.tmps[t]?.getD undef = .pointer (some ⟨b,0,none⟩) := by simpa using ht
 simp [results,hres,ht2,go_sem,c0,c1,c2,c3,c4,c5]
theorem ret_iv2 {fn : Func} {R : Ending → World → Prop} {a : Act} {w : World} {b t u : Nat} {x y z x' y' z' : Value} (h : BlkI w b x y z x' y' z')
 (hres : fn.results = #[.cell t 32,.tmp u]) (ht : a.tmps.getD t undef = .pointer (some ⟨b,0,none⟩)) (hd : a.defers = [])
 (hR : R (.returned (.tuple #[.agg #[x,y,z,x',y',z'],a.tmps.getD u undef])) w) : bodyPost Tryz.prog fn R .ret a w := by
 obtain ⟨_,c0,c1,c2,c3,c4,c5⟩ := h.facts
 refine bodyPost_ret (v := .tuple #[.agg #[x,y,z,x',y',z'],a.tmps.getD u undef]) ?_ hd hR
 have ht2 : a.tmps[t]?.getD undef = .pointer (some ⟨b,0,none⟩) := by simpa using ht
 simp [results,hres,ht2,go_sem,c0,c1,c2,c3,c4,c5]
def RetI (a : RawI) (w : World) (e : Ending) (w' : World) : Prop := Kept w w' ∧ ∃ v,e = .returned v ∧ IvR w' v a
def RetIE (o : Outc RawI) (w : World) (e : Ending) (w' : World) : Prop := Kept w w' ∧ ∃ v,e = .returned (.tuple #[v,.int .i64 o.k]) ∧ IvR w' v o.v
theorem blkI_zero (w : World) : BlkI (w.alloc (.cells #[.bool false,.slice none 0 0,.int .i64 0,.bool false,.slice none 0 0,.int .i64 0] 32)) w.heap.size (.bool false) (.slice none 0 0) (.int .i64 0) (.bool false) (.slice none 0 0) (.int .i64 0) := heap_alloc_new _ _
theorem iof_c {w : World} {v : Value} {r : Raw} (hv : DyR w v r) : Calls Tryz.prog 14 #[v] w (RetI ⟨r,r⟩ w) := by
 have hv' := hv
 obtain ⟨A,l,c,rfl,hv⟩ := rawR_split hv
 have HV := hid hv
 clear hv hv'
 have hb1 := blkI_new (w.alloc (.cells #[.bool r.neg,.slice A l c,.int .i64 r.e] 30)) (.bool r.neg) (.slice A l c) (.int .i64 r.e) (.bool r.neg) (.slice A l c) (.int .i64 r.e)
 simp only [World.size_alloc] at hb1
 have HB := hid hb1
 clear hb1
 go_enter Tryz.func14,Tryz.ntmps14
 go_wp2_with fail
 exact ret_iv HB.out rfl rfl rfl ⟨(kept_alloc _ _).trans (kept_alloc _ _),_,rfl,_,_,_,_,_,_,rfl,HV.out.kept ((kept_alloc _ _).trans (kept_alloc _ _)),HV.out.kept ((kept_alloc _ _).trans (kept_alloc _ _))⟩
theorem beq_take {xs ys : List Nat} (hl : xs.length = ys.length) (h : ∀ i,i < xs.length → nth xs i = nth ys i) : xs = ys := by
 apply List.ext_getElem hl
 intro i h1 h2
 have := h i h1
 unfold nth at this
 rw [List.getD_eq_getElem?_getD,List.getD_eq_getElem?_getD,List.getElem?_eq_getElem h1,List.getElem?_eq_getElem h2] at this
 exact this
theorem equal_c {w : World} {v u : Value} {xs ys : List Nat} (hv : Lim w v xs) (hu : Lim w u ys) (hl : xs.length ≤ 17592186044416) :
 Calls Tryz.prog 76 #[v,u] w (RetK (.bool (xs == ys)) w) := by
 obtain ⟨hs,A,c,rfl,hc,hA⟩ := hv
 obtain ⟨hs',A',c',rfl,hc',hA'⟩ := hu
 by_cases hne : xs.length = ys.length
 ·have hlb : ((xs.length : Int) == (ys.length : Int)) = true := by rw [beq_iff_eq]; omega
  have HE := hid hne
  obtain ⟨n,hn⟩ : ∃ n,n = xs.length := ⟨_,rfl⟩
  have hn2 : n = ys.length := by omega
  rw [← hn] at hl hc hA ⊢
  rw [← hn2] at hc' hA' ⊢
  rw [← hn,← hn2] at hlb
  have HA := hid hA
  have HA' := hid hA'
  have HS := hid hs
  have HS' := hid hs'
  have HN := hid hn
  clear hA hA' hs hs' hn hn2 hne hlb
  have hlb : ((n : Int) == (n : Int)) = true := by rw [beq_iff_eq]
  go_enter Tryz.func76,Tryz.ntmps76
  go_wp2_with fail
  go_loopw [13] (fun t wr => ∃ k : Nat,k ≤ n ∧ t = .int .i64 k ∧ (∀ i,i < k → nth xs i = nth ys i) ∧ Kept w wr) (fun t _ => (n - intOf t).toNat)
  case atStart => exact ⟨0,Nat.zero_le _,rfl,fun i hi => absurd hi (Nat.not_lt_zero _),Below.refl _ _⟩
  case round =>
   obtain ⟨k,hk,rfl,heq,hK⟩ := hrel
   have K := hid hK
   clear hK
   have HQ := hid heq
   clear heq
   by_cases hlt : k < n
   ·obtain ⟨b, off, rfl, hb, hcell⟩ := HA.out (by omega)
    obtain ⟨b',off',rfl,hb',hcell'⟩ := HA'.out (by omega)
    have h1 := fun w1 (q : Kept wr w1) => ((K.out.trans q).cell (p := ⟨b,off + k,none⟩) hb).trans (hcell k hlt)
    have h2 := fun w1 (q : Kept wr w1) => ((K.out.trans q).cell (p := ⟨b',off' + k,none⟩) hb').trans (hcell' k hlt)
    have H1 := hid h1
    have H2 := hid h2
    have hx0 : (0 : Int) ≤ (k : Int) := by omega
    have hx1 : (k : Int) < (n : Int) := by omega
    clear hcell hcell' h1 h2
    by_cases hxy : nth xs k = nth ys k
    ·have hb1 : (((nth xs k : Nat) : Int) != ((nth ys k : Nat) : Int)) = false := by simp [hxy]
     have HXY := hid hxy
     clear hxy
     generalize hgx : nth xs k = x at *
     generalize hgy : nth ys k = y at *
     have GX := hid hgx
     have GY := hid hgy
     clear hgx hgy
     go_wp2_with fail
     refine region_lin (m := 9) (V := VL [(vE (.slice (some ⟨b,off,none⟩) n c)),(vE (.int .i64 k)),(vE (.pointer (some ⟨b,off + k,none⟩))),(vE (.int .u64 x)),(vE (.slice (some ⟨b',off',none⟩) n c')),(vE (.int .i64 k)),(vE (.pointer (some ⟨b',off' + k,none⟩))),(vE (.int .u64 y)),(vE (.bool false))])
      (by kernel_rfl) rfl (by kernel_rfl) (by kernel_rfl) (by kernel_rfl) (mono_of _ ⟨mE,mE,mE,mE,mE,mE,mE,mE,mE,trivial⟩) (steps_of ⟨
        (fun aF wF F => by have s0 : aF.tmps.getD 0 undef = (.slice (some ⟨b,off,none⟩) n c) := F.o 0;exact sv rfl),(fun aF wF F => by have s5 : aF.tmps.getD 5 undef = (.int .i64 k) := F.o 5;exact sv rfl),(fun aF wF F => by have s16 := F.v 0 16;have s17 := F.v 1 17;exact sv rfl),(fun aF wF F => by have s18 := F.v 2 18;exact sw (by have h := H1.out _ F.kept;go_simp) rfl),(fun aF wF F => by have s1 : aF.tmps.getD 1 undef = (.slice (some ⟨b',off',none⟩) n c') := F.o 1;exact sv rfl),(fun aF wF F => by have s5 : aF.tmps.getD 5 undef = (.int .i64 k) := F.o 5;exact sv rfl),(fun aF wF F => by have s20 := F.v 4 20;have s21 := F.v 5 21;exact sv rfl),(fun aF wF F => by have s22 := F.v 6 22;exact sw (by have h := H2.out _ F.kept;go_simp) rfl),(fun aF wF F => by have s19 := F.v 3 19;have s23 := F.v 7 23;exact sv rfl),
        trivial⟩) ?_
     intro u w1 k1 hu
     simp only [puts,slotOf,if_true,Act.put,z1,z2,z3,z4,z5,z6,z7,hv hu 0,hv hu 1,hv hu 2,hv hu 3,hv hu 4,hv hu 5,hv hu 6,hv hu 7,hv hu 8]
     clear hu
     go_wp2_with fail
     go_roundw
     case rel =>
      refine ⟨k + 1,by omega,by go_num,fun i hi => ?_,K.out.trans k1⟩
      by_cases hik : i = k
      ·rw [hik,GX.out,GY.out];exact HXY.out
      ·exact HQ.out i (by omega)
     case measure => simp [intOf];omega
    ·have hb1 : (((nth xs k : Nat) : Int) != ((nth ys k : Nat) : Int)) = true := by simp; omega
     have hres : (xs == ys) = false := by
      rw [beq_eq_false_iff_ne]
      intro h
      exact hxy (by rw [h])
     rw [hres]
     clear hres
     have HXY := hid hxy
     clear hxy
     generalize hgx : nth xs k = x at *
     generalize hgy : nth ys k = y at *
     have GX := hid hgx
     have GY := hid hgy
     clear hgx hgy
     go_wp2_with fail
     refine region_lin (m := 9) (V := VL [(vE (.slice (some ⟨b,off,none⟩) n c)),(vE (.int .i64 k)),(vE (.pointer (some ⟨b,off + k,none⟩))),(vE (.int .u64 x)),(vE (.slice (some ⟨b',off',none⟩) n c')),(vE (.int .i64 k)),(vE (.pointer (some ⟨b',off' + k,none⟩))),(vE (.int .u64 y)),(vE (.bool true))])
      (by kernel_rfl) rfl (by kernel_rfl) (by kernel_rfl) (by kernel_rfl) (mono_of _ ⟨mE,mE,mE,mE,mE,mE,mE,mE,mE,trivial⟩) (steps_of ⟨
        (fun aF wF F => by have s0 : aF.tmps.getD 0 undef = (.slice (some ⟨b,off,none⟩) n c) := F.o 0;exact sv rfl),(fun aF wF F => by have s5 : aF.tmps.getD 5 undef = (.int .i64 k) := F.o 5;exact sv rfl),(fun aF wF F => by have s16 := F.v 0 16;have s17 := F.v 1 17;exact sv rfl),(fun aF wF F => by have s18 := F.v 2 18;exact sw (by have h := H1.out _ F.kept;go_simp) rfl),(fun aF wF F => by have s1 : aF.tmps.getD 1 undef = (.slice (some ⟨b',off',none⟩) n c') := F.o 1;exact sv rfl),(fun aF wF F => by have s5 : aF.tmps.getD 5 undef = (.int .i64 k) := F.o 5;exact sv rfl),(fun aF wF F => by have s20 := F.v 4 20;have s21 := F.v 5 21;exact sv rfl),(fun aF wF F => by have s22 := F.v 6 22;exact sw (by have h := H2.out _ F.kept;go_simp) rfl),(fun aF wF F => by have s19 := F.v 3 19;have s23 := F.v 7 23;exact sv rfl),
        trivial⟩) ?_
     intro u w1 k1 hu
     simp only [puts,slotOf,if_true,Act.put,z1,z2,z3,z4,z5,z6,z7,hv hu 0,hv hu 1,hv hu 2,hv hu 3,hv hu 4,hv hu 5,hv hu 6,hv hu 7,hv hu 8]
     clear hu
     go_wp2_with fail
     go_ret
     exact ⟨rfl,K.out.trans k1⟩
   ·obtain rfl : k = n := by omega
    have hres : (xs == ys) = true := by
     rw [beq_iff_eq]
     exact beq_take HE.out (fun i hi => HQ.out i (by have := HN.out;omega))
    go_wp2_with fail
    go_ret
    exact ⟨by rw [hres];rfl,K.out⟩
 ·have hres : (xs == ys) = false := by
   rw [beq_eq_false_iff_ne]
   intro h
   exact hne (by rw [h])
  rw [hres]
  have hlb : ((xs.length : Int) == (ys.length : Int)) = false := by rw [beq_eq_false_iff_ne];omega
  clear hA hA' hs hs' hne hres
  generalize xs.length = n at *
  generalize ys.length = n' at *
  go_enter Tryz.func76,Tryz.ntmps76
  go_wp2_with fail
  go_ret
  exact ⟨rfl,Below.refl _ _⟩
def sameR (a b : Raw) : Bool := (a.neg == b.neg) && (a.e == b.e) && (a.m == b.m)
theorem dsame_c {w : World} {v u : Value} {a b : Raw} (ha : DyR w v a) (hb : DyR w u b) (hl : a.m.length ≤ 17592186044416) :
 Calls Tryz.prog 36 #[v,u] w (RetK (.bool (sameR a b)) w) := by
 obtain ⟨A,l,c,rfl,-,la,-,-⟩ := ha.shape
 obtain ⟨A2,l2,c2,rfl,-,lb,-,-⟩ := hb.shape
 have he := fun w1 (k : Kept w w1) => equal_c (la.kept k) (lb.kept k) hl
 unfold sameR
 have HE := hid he
 clear he la lb ha hb hl
 generalize (a.m == b.m) = r3 at *
 generalize a.neg = n1 at *
 generalize a.e = e1 at *
 generalize b.neg = n2 at *
 generalize b.e = e2 at *
 obtain ⟨W,hW,kW,B0,B1⟩ := boxes2 w (.bool n1) (.slice A l c) (.int .i64 e1) (.bool n2) (.slice A2 l2 c2) (.int .i64 e2)
 have HW := hid hW
 have K := hid kW
 clear hW kW B0 B1
 have hr1 : (n1 == n2) = true ∨ (n1 == n2) = false := bools _
 have hr2 : (e1 == e2) = true ∨ (e1 == e2) = false := bools _
 rcases hr1 with hr1 | hr1
 ·rw [hr1, Bool.true_and]
  rcases hr2 with hr2 | hr2
  ·rw [hr2, Bool.true_and]
   go_enter Tryz.func36,Tryz.ntmps36
   go_wp2_with fail
   rw [← HW.out]
   refine (HE.out _ K.out).mono ?_
   rintro e w1 ⟨rfl,q⟩
   simp only []
   go_wp2_with fail
   go_ret
   exact ⟨rfl,K.out.trans q⟩
  ·rw [hr2, Bool.false_and]
   go_enter Tryz.func36,Tryz.ntmps36
   go_wp2_with fail
   go_ret
   exact ⟨rfl,by have := K.out;rwa [HW.out] at this⟩
 ·rw [hr1, Bool.false_and, Bool.false_and]
  clear hr2
  go_enter Tryz.func36,Tryz.ntmps36
  go_wp2_with fail
  go_ret
  exact ⟨rfl,by have := K.out;rwa [HW.out] at this⟩
theorem isame_c {w : World} {v u : Value} {a b : RawI} (hv : IvR w v a) (hu : IvR w u b) (hl : a.lens 17592186044416) :
 Calls Tryz.prog 16 #[v,u] w (RetK (.bool (sameR a.lo b.lo && sameR a.hi b.hi)) w) := by
 obtain ⟨A,l,c,A',l',c',rfl,h1,h2⟩ := ivR_split hv
 obtain ⟨B,j,e,B',j',e',rfl,g1,g2⟩ := ivR_split hu
 have q1 := fun w1 (k : Kept w w1) => dsame_c (h1.kept k) (g1.kept k) hl.1
 have q2 := fun w1 (k : Kept w w1) => dsame_c (h2.kept k) (g2.kept k) hl.2
 have Q1 := hid q1
 have Q2 := hid q2
 clear q1 q2 h1 h2 g1 g2 hv hu hl
 generalize sameR a.lo b.lo = r1 at *
 generalize sameR a.hi b.hi = r2 at *
 generalize a.lo.neg = n1 at *
 generalize a.lo.e = e1 at *
 generalize a.hi.neg = n2 at *
 generalize a.hi.e = e2 at *
 generalize b.lo.neg = n3 at *
 generalize b.lo.e = e3 at *
 generalize b.hi.neg = n4 at *
 generalize b.hi.e = e4 at *
 obtain ⟨W,hW,kW,BI,BJ⟩ := box2ii w (.bool n1) (.slice A l c) (.int .i64 e1) (.bool n2) (.slice A' l' c') (.int .i64 e2) (.bool n3) (.slice B j e) (.int .i64 e3) (.bool n4) (.slice B' j' e') (.int .i64 e4)
 have HW := hid hW
 have K := hid kW
 have HB := hid BI
 have HD := hid BJ
 clear hW kW BI BJ
 cases r1
 ·rw [Bool.false_and]
  go_enter Tryz.func16,Tryz.ntmps16
  go_wp2_with fail
  rw [← HW.out]
  refine (Q1.out _ K.out).mono ?_
  rintro e w1 ⟨rfl,q⟩
  replace K := hid (K.out.trans q)
  replace HB := hid (HB.out.kept q)
  replace HD := hid (HD.out.kept q)
  clear q
  obtain ⟨-,c0,c1,c2,c3,c4,c5⟩ := HB.out.facts
  obtain ⟨-,d0,d1,d2,d3,d4,d5⟩ := HD.out.facts
  simp only []
  go_wp2_with fail
  go_ret
  exact ⟨rfl,K.out⟩
 ·rw [Bool.true_and]
  go_enter Tryz.func16,Tryz.ntmps16
  go_wp2_with fail
  rw [← HW.out]
  refine (Q1.out _ K.out).mono ?_
  rintro e w1 ⟨rfl,q⟩
  replace K := hid (K.out.trans q)
  replace HB := hid (HB.out.kept q)
  replace HD := hid (HD.out.kept q)
  clear q
  obtain ⟨-,c0,c1,c2,c3,c4,c5⟩ := HB.out.facts
  obtain ⟨-,d0,d1,d2,d3,d4,d5⟩ := HD.out.facts
  simp only []
  go_wp2_with fail
  refine (Q2.out _ K.out).mono ?_
  clear c0 c1 c2 c3 c4 c5 d0 d1 d2 d3 d4 d5
  rintro e w1 ⟨rfl,q⟩
  replace K := hid (K.out.trans q)
  replace HB := hid (HB.out.kept q)
  replace HD := hid (HD.out.kept q)
  clear q
  obtain ⟨-,c0,c1,c2,c3,c4,c5⟩ := HB.out.facts
  obtain ⟨-,d0,d1,d2,d3,d4,d5⟩ := HD.out.facts
  simp only []
  go_wp2_with fail
  go_ret
  exact ⟨rfl,K.out⟩
theorem must_okA (k : Int) (w : World) : Calls Tryz.prog 131 #[.bool true,.int .i64 k] w fun e w' => e = .returned (.tuple #[]) ∧ w = w' := by
 go_enter Tryz.func131,Tryz.ntmps131
 go_wp2
 go_end0
 exact ⟨rfl,rfl⟩
theorem must_badA (k : Int) (w : World) : Calls Tryz.prog 131 #[.bool false,.int .i64 k] w fun e w' => e = .panicked (failV 162 k) ∧ w = w' := by
 go_enter Tryz.func131,Tryz.ntmps131
 go_wp2
 exact ⟨rfl,rfl,rfl⟩
theorem must_cA (b : Bool) (k : Int) (w : World) : Calls Tryz.prog 131 #[.bool b,.int .i64 k] w fun e w' => e = mustE 162 b k ∧ w = w' := by
 cases b
 ·exact must_badA k w
 ·exact must_okA k w
theorem must_trueA (k : Int) (w : World) : Calls Tryz.prog 131 #[.bool true,.int .i64 k] w (RetK (.tuple #[]) w) := (must_cA true k w).mono fun _ _ ⟨he,hw⟩ => ⟨he,hw ▸ Below.refl _ _⟩
theorem run_assert_failA (k : Int) (w : World) : (Instr.typeAssert (.iface 162 (.agg #[.int .i64 k])) 20 162 true).run Tryz.prog w = .ok (.tuple #[.agg #[.int .i64 k],.bool true]) w := by
 kernel_rfl
theorem run_assert_nilA (w : World) : (Instr.typeAssert .nilIface 20 162 true).run Tryz.prog w = .ok (.tuple #[.agg #[.int .i64 0],.bool false]) w := by
 kernel_rfl
theorem RetIE.good {o : Outc RawI} {w w' : World} {e : Ending} (h : RetIE o w e w') : GoodEnd (fun u w => ∃ d,u = .tuple #[d,.int .i64 o.k] ∧ IvR w d o.v) w e w' := by
 obtain ⟨k,v,he,hl⟩ := h
 exact ⟨_,he,k,v,rfl,hl⟩
theorem RetI.good {a : RawI} {w w' : World} {e : Ending} (h : RetI a w e w') : GoodEnd (fun u w => IvR w u a) w e w' := by
 obtain ⟨k,v,he,hl⟩ := h
 exact ⟨v,he,k,hl⟩
section
variable {P : Program} {ops : Array Oper} {Q : Exit → Act → World → Prop} {i : Nat} {a : Act} {w : World} {V : Nat → Value → World → Prop} {o : Oper} {f : FuncId} {args : Array Value}
theorem sI {x : RawI} (hc : Calls P f args w (RetI x w)) (hp : ∀ v w',IvR w' v x → V i v w') (hw : Region.wanted o (yielded ops a.tmps) = true := by simp [Region.wanted]) (h : (execOp a.eval o).run P w = .ok (.enter f args) w := by go_simp) : StepOK P ops Q V i o a w :=
 step_good hw h hc (fun _ _ h => RetI.good h) hp
theorem sP {x : Outc RawI} (hc : Calls P f args w (RetIE x w)) (hp : ∀ v w',(∃ d,v = .tuple #[d,.int .i64 x.k] ∧ IvR w' d x.v) → V i v w') (hw : Region.wanted o (yielded ops a.tmps) = true := by simp [Region.wanted]) (h : (execOp a.eval o).run P w = .ok (.enter f args) w := by go_simp) : StepOK P ops Q V i o a w :=
 step_good hw h hc (fun _ _ h => RetIE.good h) hp
end
theorem box3iiiM (w : World) (x y z x' y' z' p q r p' q' r' : Value) : ∃ W,W = ((w.alloc (.cells #[x,y,z,x',y',z'] 32)).alloc (.cells #[p,q,r,p',q',r'] 32)).alloc (.cells #[.bool false,.slice none 0 0,.int .i64 0,.bool false,.slice none 0 0,.int .i64 0] 32) ∧
 Kept w W ∧ BlkI W w.heap.size x y z x' y' z' ∧ BlkI W (w.heap.size + 1) p q r p' q' r' ∧ BlkI W (w.heap.size + 1 + 1) (.bool false) (.slice none 0 0) (.int .i64 0) (.bool false) (.slice none 0 0) (.int .i64 0) := by
 obtain ⟨W,hW,k,b1,b2⟩ := box2ii w x y z x' y' z' p q r p' q' r'
 refine ⟨_,rfl,?_,?_,?_,?_⟩
 ·rw [← hW];exact k.trans (kept_alloc _ _)
 ·rw [← hW];exact b1.kept (kept_alloc _ _)
 ·rw [← hW];exact b2.kept (kept_alloc _ _)
 ·have := blkI_zero ((w.alloc (.cells #[x, y, z, x', y', z'] 32)).alloc (.cells #[p, q, r, p', q', r'] 32))
  simp only [World.size_alloc] at this
  exact this
def meetI (a b : Iv) : Iv := ⟨greatestI a.lo b.lo,leastI a.hi b.hi⟩
theorem meet_c {w : World} {v u : Value} {a b : Iv} (hv : IvC w v a) (hu : IvC w u b) (ha : a.Ok) (hb : b.Ok) (hm : (meetI a b).Ok) :
 Calls Tryz.prog 28 #[v,u] w (RetIE ⟨(meetI a b).raw,0⟩ w) := by
 have m1 := fun w1 (k : Kept w w1) => imayT_c (hv.kept k) ha
 have m2 := fun w1 (k : Kept w w1) => imayT_c (hu.kept k) hb
 obtain ⟨A,l,c,A',l',c',rfl,h1,h2⟩ := ivC_split hv
 obtain ⟨B,j,e,B',j',e',rfl,g1,g2⟩ := ivC_split hu
 have q1 := fun w1 (k : Kept w w1) => igreatest_c (h1.kept k) (g1.kept k) ha.lo hb.lo
 have q2 := fun w1 (k : Kept w w1) => ileast_c (h2.kept k) (g2.kept k) ha.hi hb.hi
 have hdef : (meetI a b).raw = ⟨(greatestI a.lo b.lo).raw,(leastI a.hi b.hi).raw⟩ := rfl
 have M3 := hid (fun w1 v (h : IvR w1 v (meetI a b).raw) => imayT_c (w := w1) (a := meetI a b) h hm)
 rw [hdef] at M3 ⊢
 have M1 := hid m1
 have M2 := hid m2
 have Q1 := hid q1
 have Q2 := hid q2
 clear m1 m2 q1 q2 h1 h2 g1 g2 hv hu ha hb hdef hm
 generalize (greatestI a.lo b.lo).raw = r1 at *
 generalize (leastI a.hi b.hi).raw = r2 at *
 generalize a.lo.neg = n1 at *
 generalize a.lo.e = e1 at *
 generalize a.hi.neg = n2 at *
 generalize a.hi.e = e2 at *
 generalize b.lo.neg = n3 at *
 generalize b.lo.e = e3 at *
 generalize b.hi.neg = n4 at *
 generalize b.hi.e = e4 at *
 obtain ⟨W,hW,kW,BI,BJ,BR⟩ := box3iiiM w (.bool n1) (.slice A l c) (.int .i64 e1) (.bool n2) (.slice A' l' c') (.int .i64 e2) (.bool n3) (.slice B j e) (.int .i64 e3) (.bool n4) (.slice B' j' e') (.int .i64 e4)
 have HW := hid hW
 have K := hid kW
 have HB := hid BI
 have HD := hid BJ
 have HR := hid BR
 clear hW kW BI BJ BR
 go_enter Tryz.func28,Tryz.ntmps28
 go_upto_region 1 with fail
 rw [← HW.out]
 refine region_seq (m := 8) (V := VL [(vE (.agg #[.bool n1,.slice A l c,.int .i64 e1,.bool n2,.slice A' l' c',.int .i64 e2])),(vE (.bool true)),(vE (.bool false)),(vE (.bool false)),(vE (.agg #[.bool n3,.slice B j e,.int .i64 e3,.bool n4,.slice B' j' e',.int .i64 e4])),(vE (.bool true)),(vE (.bool false)),(vE (.bool false))])
  rfl (by kernel_rfl) (by kernel_rfl) (by kernel_rfl) (mono_of _ ⟨mE,mE,mE,mE,mE,mE,mE,mE,trivial⟩) (steps_of ⟨
   (fun aF wF F => by have s2 : aF.tmps.getD 2 undef = (.pointer (some ⟨w.heap.size,0,none⟩)) := F.o 2;have c0 := cell_at HB.out F.kept 0 _ rfl;have c1 := cell_at HB.out F.kept 1 _ rfl;have c2 := cell_at HB.out F.kept 2 _ rfl;have c3 := cell_at HB.out F.kept 3 _ rfl;have c4 := cell_at HB.out F.kept 4 _ rfl;have c5 := cell_at HB.out F.kept 5 _ rfl;exact sv rfl),(fun aF wF F => by have s7 := F.v 0 7;exact sK (M1.out _ (K.out.trans F.kept)) fun _ _ h => h),(fun aF wF F => by have s8 := F.v 1 8;exact sv rfl),(fun aF wF F => by have s9 := F.v 2 9;exact sv rfl),(fun aF wF F => by have s3 : aF.tmps.getD 3 undef = (.pointer (some ⟨w.heap.size + 1,0,none⟩)) := F.o 3;have c0 := cell_at HD.out F.kept 0 _ rfl;have c1 := cell_at HD.out F.kept 1 _ rfl;have c2 := cell_at HD.out F.kept 2 _ rfl;have c3 := cell_at HD.out F.kept 3 _ rfl;have c4 := cell_at HD.out F.kept 4 _ rfl;have c5 := cell_at HD.out F.kept 5 _ rfl;have sg := F.v 3 10;exact step_val ((wanted_guard rfl rfl sg).trans rfl) (by go_simp) rfl),(fun aF wF F => by have s11 := F.v 4 11;have sg := F.v 3 10;exact step_good ((wanted_guard rfl rfl sg).trans rfl) (by go_simp) (M2.out _ (K.out.trans F.kept)) (fun _ _ h => RetK.good h) (fun _ _ h => h)),(fun aF wF F => by have s12 := F.v 5 12;have sg := F.v 3 10;exact step_val ((wanted_guard rfl rfl sg).trans rfl) (by go_simp) rfl),(fun aF wF F => by have s10 := F.v 3 10;have s13 := F.v 6 13;exact sv rfl),
   trivial⟩) ?_
 intro u w1 k1 hu
 simp only [puts,slotOf,if_true,Act.put,z1,z2,z3,z4,z5,z6,z7,hv hu 0,hv hu 1,hv hu 2,hv hu 3,hv hu 4,hv hu 5,hv hu 6,hv hu 7]
 clear hu
 replace K := hid (K.out.trans k1)
 replace HB := hid (HB.out.kept k1)
 replace HD := hid (HD.out.kept k1)
 replace HR := hid (HR.out.kept k1)
 clear k1 HW
 go_wp2_with fail
 refine region_lin1 (m := 12) (V := VL [(vP w.heap.size 0),(vE (.agg #[.bool n1,.slice A l c,.int .i64 e1])),(vP (w.heap.size + 1) 0),(vE (.agg #[.bool n3,.slice B j e,.int .i64 e3])),(fun v wv => DyR wv v r1),(vP w.heap.size 3),(vE (.agg #[.bool n2,.slice A' l' c',.int .i64 e2])),(vP (w.heap.size + 1) 3),(vE (.agg #[.bool n4,.slice B' j' e',.int .i64 e4])),(fun v wv => DyR wv v r2),(fun v wv => IvR wv v ⟨r1,r2⟩),(fun v wv => ∃ b,v = .pointer (some ⟨b,0,none⟩) ∧ w1.heap.size ≤ b ∧ BlkI wv b (.bool false) (.slice none 0 0) (.int .i64 0) (.bool false) (.slice none 0 0) (.int .i64 0))])
  (by kernel_rfl) rfl rfl rfl (by kernel_rfl) (by kernel_rfl) (by kernel_rfl) (by kernel_rfl) (mono_of _ ⟨mE,mE,mE,mE,mD,mE,mE,mE,mE,mD,fun v w w' k h => by first | exact h | exact h.kept k | exact ⟨h.1,h.2.kept k⟩,fun v w w' k h => by obtain ⟨b,h1,h2,h3⟩ := h;exact ⟨b,h1,h2,h3.kept k⟩,trivial⟩) (steps_of ⟨
    (fun aF wF F => by have s2 : aF.tmps.getD 2 undef = (.pointer (some ⟨w.heap.size,0,none⟩)) := F.o 2;exact sv rfl),(fun aF wF F => by have s16 := F.v 0 16;have c0 := cell_at HB.out F.kept 0 _ rfl;have c1 := cell_at HB.out F.kept 1 _ rfl;have c2 := cell_at HB.out F.kept 2 _ rfl;exact sv rfl),(fun aF wF F => by have s3 : aF.tmps.getD 3 undef = (.pointer (some ⟨w.heap.size + 1,0,none⟩)) := F.o 3;exact sv rfl),(fun aF wF F => by have s18 := F.v 2 18;have c0 := cell_at HD.out F.kept 0 _ rfl;have c1 := cell_at HD.out F.kept 1 _ rfl;have c2 := cell_at HD.out F.kept 2 _ rfl;exact sv rfl),(fun aF wF F => by have s17 := F.v 1 17;have s19 := F.v 3 19;exact sD (Q1.out _ (K.out.trans F.kept)) fun _ _ h => h),(fun aF wF F => by have s2 : aF.tmps.getD 2 undef = (.pointer (some ⟨w.heap.size,0,none⟩)) := F.o 2;exact sv rfl),(fun aF wF F => by have s21 := F.v 5 21;have c0 := cell_at HB.out F.kept 3 _ rfl;have c1 := cell_at HB.out F.kept 4 _ rfl;have c2 := cell_at HB.out F.kept 5 _ rfl;exact sv rfl),(fun aF wF F => by have s3 : aF.tmps.getD 3 undef = (.pointer (some ⟨w.heap.size + 1,0,none⟩)) := F.o 3;exact sv rfl),(fun aF wF F => by have s23 := F.v 7 23;have c0 := cell_at HD.out F.kept 3 _ rfl;have c1 := cell_at HD.out F.kept 4 _ rfl;have c2 := cell_at HD.out F.kept 5 _ rfl;exact sv rfl),(fun aF wF F => by have s22 := F.v 6 22;have s24 := F.v 8 24;exact sD (Q2.out _ (K.out.trans F.kept)) fun _ _ h => h),(fun aF wF F => by have s20 := F.p 4 20;have s25 := F.p 9 25;obtain ⟨X1,Y1,Z1,ee1,gg1⟩ := rawR_split s20;obtain ⟨X2,Y2,Z2,ee2,gg2⟩ := rawR_split s25;simp only [Array.getD_eq_getD_getElem?] at ee1 ee2;exact step_val (by simp [Region.wanted]) (by go_simp) ⟨_,_,_,_,_,_,rfl,gg1,gg2⟩),(fun aF wF F => by exact step_new (by simp [Region.wanted]) (by go_simp) (kept_alloc _ _) ⟨_,rfl,F.kept.size,blkI_zero _⟩),
    trivial⟩) ?_
 intro u w2 k2 hu
 have p20 := hp hu 4
 have p25 := hp hu 9
 have p26 := hp hu 10
 have p6 := hp hu 11
 simp only [puts,slotOf,if_true,Act.put,z1,z2,z3,z4,z5,z6,z7,hv hu 0,hv hu 1,hv hu 2,hv hu 3,hv hu 5,hv hu 6,hv hu 7,hv hu 8]
 clear hu
 generalize u 4 = v20 at *
 generalize u 9 = v25 at *
 generalize u 10 = v26 at *
 generalize u 11 = v6 at *
 obtain ⟨b6,rfl,hb6,hB6⟩ := p6
 obtain ⟨A1,j1,k1',A2,j2,k2',rfl,z1,z2⟩ := ivR_split p26
 obtain ⟨-,c0,c1,c2,c3,c4,c5⟩ := hB6.facts
 obtain ⟨f0,f1,f2,f3,f4,f5⟩ := hB6.free
 clear p20 p25 p26
 go_simp
 go_upto_region 4 with fail
 change Code.wp _ _ _ _ (ivW w2 b6 _ _ _ _ _ _)
 have lR := HR.out.facts.1
 have KX := hid (ivW_kept (x := .bool r1.neg) (y := .slice A1 j1 k1') (z := .int .i64 r1.e) (x' := .bool r2.neg) (y' := .slice A2 j2 k2') (z' := .int .i64 r2.e) (K.out.trans k2) (show w.heap.size ≤ b6 by have := K.out.size;omega))
 have HRX : Hid (BlkI (ivW w2 b6 (.bool r1.neg) (.slice A1 j1 k1') (.int .i64 r1.e) (.bool r2.neg) (.slice A2 j2 k2') (.int .i64 r2.e)) (w.heap.size + 1 + 1) (.bool false) (.slice none 0 0) (.int .i64 0) (.bool false) (.slice none 0 0) (.int .i64 0)) := hid ((ivW_other _ _ _ _ _ _ _ _ _ (show w.heap.size + 1 + 1 ≠ b6 by omega)).trans (HR.out.kept k2))
 have H6 := hid (hB6.laid (.bool r1.neg) (.slice A1 j1 k1') (.int .i64 r1.e) (.bool r2.neg) (.slice A2 j2 k2') (.int .i64 r2.e))
 have Z1 := hid (z1.ivW hB6 (.bool r1.neg) (.slice A1 j1 k1') (.int .i64 r1.e) (.bool r2.neg) (.slice A2 j2 k2') (.int .i64 r2.e))
 have Z2 := hid (z2.ivW hB6 (.bool r1.neg) (.slice A1 j1 k1') (.int .i64 r1.e) (.bool r2.neg) (.slice A2 j2 k2') (.int .i64 r2.e))
 clear hB6 hb6 z1 z2 k2 c0 c1 c2 c3 c4 c5 f0 f1 f2 f3 f4 f5 K HB HD HR lR Q1 Q2 M1 M2
 generalize ivW w2 b6 (.bool r1.neg) (.slice A1 j1 k1') (.int .i64 r1.e) (.bool r2.neg) (.slice A2 j2 k2') (.int .i64 r2.e) = X at *
 obtain ⟨-,c0,c1,c2,c3,c4,c5⟩ := H6.out.facts
 go_wp2_with fail
 refine (M3.out _ _ ⟨_,_,_,_,_,_,rfl,Z1.out,Z2.out⟩).mono ?_
 rintro e w3 ⟨rfl,q⟩
 simp only []
 clear c0 c1 c2 c3 c4 c5
 have KK := hid (KX.out.trans q)
 replace HRX := hid (HRX.out.kept q)
 replace H6 := hid (H6.out.kept q)
 replace Z1 := hid (Z1.out.kept q)
 replace Z2 := hid (Z2.out.kept q)
 clear q KX M3
 obtain ⟨-,c0,c1,c2,c3,c4,c5⟩ := H6.out.facts
 obtain ⟨hsz,d0,d1,d2,d3,d4,d5⟩ := HRX.out.facts
 obtain ⟨f0,f1,f2,f3,f4,f5⟩ := HRX.out.free
 go_wp2_with fail
 exact ret_iv2 (HRX.out.laid _ _ _ _ _ _) rfl rfl rfl ⟨ivW_kept KK.out (by omega),_,rfl,_,_,_,_,_,_,rfl,Z1.out.ivW HRX.out _ _ _ _ _ _,Z2.out.ivW HRX.out _ _ _ _ _ _⟩
theorem w64_s {i : Nat} (h : i < 1000000) : wrap64 ((i : Int) + 1) = ((i + 1 : Nat) : Int) := by unfold wrap64;omega
theorem meas_l {i q : Nat} (h : i < q) : ((q : Int) - ((i + 1 : Nat) : Int)).toNat < ((q : Int) - (i : Int)).toNat := by omega
theorem cellKM {w w' : World} {b o : Nat} {v : Value} (h : w.cell? ⟨b,o,none⟩ = some v) (k : Kept w w') : w'.cell? ⟨b,o,none⟩ = some v := (k.cell (p := ⟨b,o,none⟩) (lt_of_cell h)).trans h
theorem rsame_c {w : World} {v u : Value} {r : Raw} (hv : DyR w v r) (hu : DyR w u r) (hr : r.m.length ≤ 1000000) : Calls Tryz.prog 68 #[v,u] w (RetK (.bool true) w) := by
 obtain ⟨s,rfl,hl,-,-⟩ := hv
 obtain ⟨s',rfl,hl',-,-⟩ := hu
 obtain ⟨-,A,c,rfl,-,hA⟩ := hl
 obtain ⟨-,A',c',rfl,-,hA'⟩ := hl'
 generalize r.neg = n1 at *
 generalize r.e = e1 at *
 obtain ⟨W,hW,kW,B0,B1⟩ := boxes2 w (.bool n1) (.slice A r.m.length c) (.int .i64 e1) (.bool n1) (.slice A' r.m.length c') (.int .i64 e1)
 have HA := hid hA
 have HA' := hid hA'
 have HW := hid hW
 have K := hid kW
 have HB := hid B0
 have HD := hid B1
 have RN := hid hr
 clear hA hA' hW kW B0 B1 hr
 obtain ⟨-,c0,c1,c2,-⟩ := HB.out.facts
 obtain ⟨-,d0,d1,d2,-⟩ := HD.out.facts
 go_enter Tryz.func68,Tryz.ntmps68
 go_upto_region 1 with fail
 rw [← HW.out]
 go_wp2_with fail
 go_loopw [5] (fun vi wr => ∃ i : Nat,i ≤ r.m.length ∧ vi = .int .i64 i ∧ Kept W wr) (fun vi _ => (r.m.length - intOf vi).toNat)
 case atStart => exact ⟨0,Nat.zero_le _,rfl,Below.refl _ _⟩
 case round =>
  obtain ⟨i,hi,rfl,hkr⟩ := hrel
  have KR := hid hkr
  clear hkr c0 c1 c2 d0 d1 d2
  obtain ⟨-,c0,c1,c2,-⟩ := (HB.out.kept KR.out).facts
  obtain ⟨-,d0,d1,d2,-⟩ := (HD.out.kept KR.out).facts
  by_cases hlt : i < r.m.length
  ·obtain ⟨b, off, rfl, -, hb⟩ := HA.out (by omega)
   obtain ⟨b',off',rfl,-,hb'⟩ := HA'.out (by omega)
   have x0 := cellKM (hb i hlt) (K.out.trans KR.out)
   have x1 := cellKM (hb' i hlt) (K.out.trans KR.out)
   obtain ⟨z,hz⟩ : ∃ z,z = nth r.m i := ⟨_,rfl⟩
   rw [← hz] at x0 x1
   have X0 := hid x0
   have X1 := hid x1
   have BB := hid (HB.out.kept KR.out)
   have BD := hid (HD.out.kept KR.out)
   have HLT := hid hlt
   clear x0 x1 hb hb' hz hlt
   go_wp2_with fail
   refine region_lin (m := 11) (V := VL [(vP w.heap.size 1),(vE (.slice (some ⟨b,off,none⟩) r.m.length c)),(vE (.int .i64 (i : Int))),(vE (.pointer (some ⟨b,off + i,none⟩))),(vE (.int .u64 (z : Int))),(vP (w.heap.size + 1) 1),(vE (.slice (some ⟨b',off',none⟩) r.m.length c')),(vE (.int .i64 (i : Int))),(vE (.pointer (some ⟨b',off' + i,none⟩))),(vE (.int .u64 (z : Int))),(vE (.bool false))])
    (by kernel_rfl) rfl (by kernel_rfl) (by kernel_rfl) (by kernel_rfl) (mono_of _ ⟨mE,mE,mE,mE,mE,mE,mE,mE,mE,mE,mE,trivial⟩) (steps_of ⟨
      (fun aF wF F => by have s2 : aF.tmps.getD 2 undef = (.pointer (some ⟨w.heap.size,0,none⟩)) := F.o 2;exact sv rfl),(fun aF wF F => by have s34 := F.v 0 34;have c0 := cell_at BB.out F.kept 1 _ rfl;exact sv rfl),(fun aF wF F => by have s5 : aF.tmps.getD 5 undef = (.int .i64 (i : Int)) := F.o 5;exact sv rfl),(fun aF wF F => by have s35 := F.v 1 35;have s36 := F.v 2 36;exact sw (by (have h9 := HLT.out;go_simp)) rfl),(fun aF wF F => by have s37 := F.v 3 37;exact sw (by (have n0 := cellKM X0.out F.kept;go_simp)) rfl),(fun aF wF F => by have s3 : aF.tmps.getD 3 undef = (.pointer (some ⟨w.heap.size + 1,0,none⟩)) := F.o 3;exact sv rfl),(fun aF wF F => by have s39 := F.v 5 39;have c0 := cell_at BD.out F.kept 1 _ rfl;exact sv rfl),(fun aF wF F => by have s5 : aF.tmps.getD 5 undef = (.int .i64 (i : Int)) := F.o 5;exact sv rfl),(fun aF wF F => by have s40 := F.v 6 40;have s41 := F.v 7 41;exact sw (by (have h9 := HLT.out;go_simp)) rfl),(fun aF wF F => by have s42 := F.v 8 42;exact sw (by (have n0 := cellKM X1.out F.kept;go_simp)) rfl),(fun aF wF F => by have s38 := F.v 4 38;have s43 := F.v 9 43;exact sv rfl),
      trivial⟩) ?_
   intro u w6 q6 hu
   simp only [puts,slotOf,if_true,Act.put,z1,z2,z3,z4,z5,z6,z7,hv hu 0,hv hu 1,hv hu 2,hv hu 3,hv hu 4,hv hu 5,hv hu 6,hv hu 7,hv hu 8,hv hu 9,hv hu 10]
   clear hu
   have K6 := hid (KR.out.trans q6)
   clear q6
   go_wp2_with fail
   go_roundw
   case rel => exact ⟨i + 1,HLT.out,congrArg _ (w64_s (Nat.lt_of_lt_of_le HLT.out RN.out)),K6.out⟩
   case measure =>
    rw [w64_s (Nat.lt_of_lt_of_le HLT.out RN.out)]
    simp only [intOf]
    exact meas_l HLT.out
  ·obtain rfl : i = r.m.length := by omega
   go_wp2_with fail
   go_ret
   exact ⟨rfl,K.out.trans KR.out⟩
theorem rsameI_c {w : World} {v u : Value} {a : RawI} (hv : IvR w v a) (hu : IvR w u a) (hl : a.lens 1000000) : Calls Tryz.prog 29 #[v,u] w (RetK (.bool true) w) := by
 obtain ⟨A,l,c,A',l',c',rfl,h1,h2⟩ := ivR_split hv
 obtain ⟨B,j,e,B',j',e',rfl,g1,g2⟩ := ivR_split hu
 have q1 := fun w1 (k : Kept w w1) => rsame_c (h1.kept k) (g1.kept k) hl.1
 have q2 := fun w1 (k : Kept w w1) => rsame_c (h2.kept k) (g2.kept k) hl.2
 have Q1 := hid q1
 have Q2 := hid q2
 clear q1 q2 h1 h2 g1 g2 hv hu hl
 generalize a.lo.neg = n1 at *
 generalize a.lo.e = e1 at *
 generalize a.hi.neg = n2 at *
 generalize a.hi.e = e2 at *
 obtain ⟨W,hW,kW,BI,BJ⟩ := box2ii w (.bool n1) (.slice A l c) (.int .i64 e1) (.bool n2) (.slice A' l' c') (.int .i64 e2) (.bool n1) (.slice B j e) (.int .i64 e1) (.bool n2) (.slice B' j' e') (.int .i64 e2)
 have HW := hid hW
 have K := hid kW
 have HB := hid BI
 have HD := hid BJ
 clear hW kW BI BJ
 go_enter Tryz.func29,Tryz.ntmps29
 go_upto_region 1 with fail
 rw [← HW.out]
 refine region_seq (m := 13) (V := VL [(vP w.heap.size 0),(vE (.agg #[.bool n1,.slice A l c,.int .i64 e1])),(vP (w.heap.size + 1) 0),(vE (.agg #[.bool n1,.slice B j e,.int .i64 e1])),(vE (.bool true)),(vE (.bool true)),(vP w.heap.size 3),(vE (.agg #[.bool n2,.slice A' l' c',.int .i64 e2])),(vP (w.heap.size + 1) 3),(vE (.agg #[.bool n2,.slice B' j' e',.int .i64 e2])),(vE (.bool true)),(vE (.bool true)),(vE (.bool true))])
  rfl (by kernel_rfl) (by kernel_rfl) (by kernel_rfl) (mono_of _ ⟨mE,mE,mE,mE,mE,mE,mE,mE,mE,mE,mE,mE,mE,trivial⟩) (steps_of ⟨
   (fun aF wF F => by have s2 : aF.tmps.getD 2 undef = (.pointer (some ⟨w.heap.size,0,none⟩)) := F.o 2;exact sv rfl),(fun aF wF F => by have s5 := F.v 0 5;have c0 := cell_at HB.out F.kept 0 _ rfl;have c1 := cell_at HB.out F.kept 1 _ rfl;have c2 := cell_at HB.out F.kept 2 _ rfl;exact sv rfl),(fun aF wF F => by have s3 : aF.tmps.getD 3 undef = (.pointer (some ⟨w.heap.size + 1,0,none⟩)) := F.o 3;exact sv rfl),(fun aF wF F => by have s7 := F.v 2 7;have c0 := cell_at HD.out F.kept 0 _ rfl;have c1 := cell_at HD.out F.kept 1 _ rfl;have c2 := cell_at HD.out F.kept 2 _ rfl;exact sv rfl),(fun aF wF F => by have s6 := F.v 1 6;have s8 := F.v 3 8;exact sK (Q1.out _ (K.out.trans F.kept)) fun _ _ h => h),(fun aF wF F => by have s9 := F.v 4 9;exact sv rfl),(fun aF wF F => by have s2 : aF.tmps.getD 2 undef = (.pointer (some ⟨w.heap.size,0,none⟩)) := F.o 2;have sg := F.v 5 10;exact step_val ((wanted_guard rfl rfl sg).trans rfl) (by go_simp) rfl),(fun aF wF F => by have s11 := F.v 6 11;have c0 := cell_at HB.out F.kept 3 _ rfl;have c1 := cell_at HB.out F.kept 4 _ rfl;have c2 := cell_at HB.out F.kept 5 _ rfl;have sg := F.v 5 10;exact step_val ((wanted_guard rfl rfl sg).trans rfl) (by go_simp) rfl),(fun aF wF F => by have s3 : aF.tmps.getD 3 undef = (.pointer (some ⟨w.heap.size + 1,0,none⟩)) := F.o 3;have sg := F.v 5 10;exact step_val ((wanted_guard rfl rfl sg).trans rfl) (by go_simp) rfl),(fun aF wF F => by have s13 := F.v 8 13;have c0 := cell_at HD.out F.kept 3 _ rfl;have c1 := cell_at HD.out F.kept 4 _ rfl;have c2 := cell_at HD.out F.kept 5 _ rfl;have sg := F.v 5 10;exact step_val ((wanted_guard rfl rfl sg).trans rfl) (by go_simp) rfl),(fun aF wF F => by have s12 := F.v 7 12;have s14 := F.v 9 14;have sg := F.v 5 10;exact step_good ((wanted_guard rfl rfl sg).trans rfl) (by go_simp) (Q2.out _ (K.out.trans F.kept)) (fun _ _ h => RetK.good h) (fun _ _ h => h)),(fun aF wF F => by have s10 := F.v 5 10;have s15 := F.v 10 15;exact sv rfl),(fun aF wF F => by have s16 := F.v 11 16;exact sv rfl),
   trivial⟩) ?_
 intro u w1 k1 hu
 simp only [puts,slotOf,if_true,Act.put,z1,z2,z3,z4,z5,z6,z7,hv hu 0,hv hu 1,hv hu 2,hv hu 3,hv hu 4,hv hu 5,hv hu 6,hv hu 7,hv hu 8,hv hu 9,hv hu 10,hv hu 11,hv hu 12]
 clear hu
 have KF := hid (K.out.trans k1)
 clear k1
 go_wp2_with fail
 go_ret
 exact ⟨rfl,KF.out⟩
end Go.Proofs.YtgododcbmkpbjaaGreatDoor
