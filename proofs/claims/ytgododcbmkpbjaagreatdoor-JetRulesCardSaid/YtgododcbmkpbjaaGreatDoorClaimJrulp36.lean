/- Contracts of package jet, third part: sum, less. -/
import Derived.Test.YtgododcbmkpbjaaGreatDoorClaimJrulp18
import Derived.Test.YtgododcbmkpbjaaGreatDoorClaimJrulp35
set_option maxRecDepth 100000
set_option maxHeartbeats 16000000
namespace Go.Proofs.YtgododcbmkpbjaaGreatDoor
open Go.Lib (hid)
open Go.RowKit
theorem gd_at {l : List RawI} (g : Gd l) {i : Nat} (hi : i < l.length) : (gI l i).Ok ∧ ∃ a,l[i]? = some a ∧ (gI l i).raw = a := by
 have h := List.getElem?_eq_getElem hi
 have hm := g _ (List.getElem_mem hi)
 unfold gI
 rw [List.getD_eq_getElem?_getD,h]
 exact ⟨hm.1,_,rfl,hm.2⟩
theorem IvS.place {w : World} {v : Value} {l : List RawI} (h : IvS w v l) (g : Gd l) (h0 : 0 < l.length) : ∃ b off c,v = .slice (some ⟨b,off,none⟩) l.length c ∧ l.length ≤ c ∧ ∀ w1,Kept w w1 → ∀ j,j < l.length → IvAt w1 b (off + j * 6) (gI l j).raw := by
 obtain ⟨A,c,rfl,hc,hA⟩ := h
 obtain ⟨b,off,rfl,hD⟩ := hA h0
 refine ⟨b,off,c,rfl,hc,fun w1 k j hj => ?_⟩
 obtain ⟨-,a,ha,he⟩ := gd_at g hj
 rw [he]
 exact (hD j a ha).kept k
theorem boxwr (w : World) (p : Int) : ∃ W,W = (w.alloc (.cells #[.int .i64 p] 86)).alloc (.cells #[.bool false,.slice none 0 0,.int .i64 0,.bool false,.slice none 0 0,.int .i64 0] 32) ∧
 Kept w W ∧ W.heap[w.heap.size]? = some (.cells #[.int .i64 p] 86 (0,0)) ∧ BlkI W (w.heap.size + 1) (.bool false) (.slice none 0 0) (.int .i64 0) (.bool false) (.slice none 0 0) (.int .i64 0) := by
 refine ⟨_,rfl,(kept_alloc _ _).trans (kept_alloc _ _),?_,?_⟩
 ·rw [Below.heap_alloc _ _ _ (by simp)];exact heap_alloc_new _ _
 ·have := blkI_zero (w.alloc (.cells #[.int .i64 p] 86))
  simp only [World.size_alloc] at this
  exact this
theorem BlkIv.store {w : World} {b : Nat} {n n' : Bool} {A A' : Option Addr} {l c l' c' : Nat} {e e' : Int} (h : BlkI w b (.bool n) (.slice A l c) (.int .i64 e) (.bool n') (.slice A' l' c') (.int .i64 e')) {s : Iv} {P P' : Option Addr} {a d a' d' : Nat}
 (h1 : DyR w (.agg #[.bool s.lo.neg,.slice P a d,.int .i64 s.lo.e]) s.lo.raw) (h2 : DyR w (.agg #[.bool s.hi.neg,.slice P' a' d',.int .i64 s.hi.e]) s.hi.raw) : BlkIv (ivW w b (.bool s.lo.neg) (.slice P a d) (.int .i64 s.lo.e) (.bool s.hi.neg) (.slice P' a' d') (.int .i64 s.hi.e)) b s :=
 ⟨P,a,d,P',a',d',h.laid _ _ _ _ _ _,h1.ivW h _ _ _ _ _ _,h2.ivW h _ _ _ _ _ _⟩
theorem blkI_ivJ {w : World} {b c : Nat} {x y z x' y' z' : Value} (h : BlkI w b x y z x' y' z') (hne : b ≠ c) (p q r p' q' r' : Value) : BlkI (ivW w c p q r p' q' r') b x y z x' y' z' := (ivW_other _ _ _ _ _ _ _ _ _ hne).trans h
theorem sumL_snoc (p : Nat) (a b : List RawI) (n : Nat) (s : Iv) (j m : Nat) (h : 0 < m) :
 sumL p a b n s (List.range' j m) = (mulI (gI a j) (gI b (n - j)) p).th fun q => (addI s q p).th fun s' => sumL p a b n s' (List.range' (j + 1) (m - 1)) := by
 obtain ⟨m,rfl⟩ : ∃ k,m = k + 1 := ⟨m - 1,by omega⟩
 rw [List.range'_succ]
 rfl
theorem jsum_c {S : Int → Prop} {w : World} {va vb : Value} {a b : List RawI} {n p fr : Nat} (O : OpsC S) (h6 : S 6) (h8 : S 8) (ha : IvS w va a) (hb : IvS w vb b) (ga : Gd a) (gb : Gd b) (na : n < a.length) (nb : n < b.length)
 (la : a.length ≤ 1000) (lb : b.length ≤ 1000) (hfr : fr = 0) (hT : Tab w) (p1 : 1 ≤ p) (p2 : p ≤ 2000) :
 Calls Tryz.prog 166 #[.agg #[.int .i64 p],va,vb,.int .i64 fr,.int .i64 n,.int .i64 n] w (GoesI (sumJ p a b n) w) := by
 obtain ⟨bA,oA,cA,rfl,hcA,RA⟩ := ha.place ga (by omega)
 obtain ⟨bB,oB,cB,rfl,hcB,RB⟩ := hb.place gb (by omega)
 have CM := hid (fun w1 (k : Kept w w1) j (hj : j ≤ n) v u (hv : IvR w1 v (gI a j).raw) (hu : IvR w1 u (gI b (n - j)).raw) => wmul_c (p := p) O h8 hv hu (gd_at ga (by omega)).1 (gd_at gb (by omega)).1 (hT.kept k) p1 p2)
 have CA := hid (fun w1 (k : Kept w w1) (s q : Iv) v u (os : s.Ok) (oq : q.Ok) (hv : IvR w1 v s.raw) (hu : IvR w1 u q.raw) => wadd_c (p := p) O h6 hv hu os oq (hT.kept k) p1 p2)
 have OM := hid (fun j => (mulI_ok (a := gI a j) (b := gI b (n - j)) p1).1)
 have OA := hid (fun (s q : Iv) (os : s.Ok) (oq : q.Ok) => (addI_ok os oq p1).1)
 have FIN := hid (fun (w1 : World) (k : Kept w w1) (v : Value) (h0 : (sumJ p a b n).k = 0) (hv : IvR w1 v (sumJ p a b n).v.raw) => show GoesI (sumJ p a b n) w (.returned v) w1 from ⟨k,.inl ⟨h0,v,rfl,hv⟩⟩)
 have BAD := hid (fun (w1 : World) (k : Kept w w1) (z : Int) (h0 : z ≠ 0) (h : (sumJ p a b n).k = z) => show GoesI (sumJ p a b n) w (.panicked (failV 117 z)) w1 from ⟨k,.inr ⟨by rw [h];exact h0,by rw [h]⟩⟩)
 obtain ⟨m,hm⟩ : ∃ m,m = n - fr := ⟨_,rfl⟩
 have hmz : (n : Int) - (fr : Int) = (m : Int) := by omega
 obtain ⟨W,hW,kW,bW,BR⟩ := boxwr w p
 have HA := hid RA
 have HB := hid RB
 have HW := hid hW
 have K := hid kW
 have HP := hid bW
 have HR := hid BR
 have HFR := hid hfr
 have HM := hid hm
 have hfa : fr < a.length := by omega
 have hmb : m < b.length := by omega
 have hmn : m ≤ n := by omega
 have hfn : fr ≤ n := by omega
 have hwm : IntKind.i64.wrap (m : Int) = (m : Int) := by simp [IntKind.wrap_i64];omega
 clear RA RB hW kW bW BR ha hb ga gb hT p1 p2 O h6 h8 hcA hcB hm hfr
 obtain ⟨o0,ho0⟩ : ∃ o,o = mulI (gI a fr) (gI b m) p := ⟨_,rfl⟩
 have HO0 := hid ho0
 have hc0 := fun w1 (k : Kept w w1) v u (hv : IvR w1 v (gI a fr).raw) (hu : IvR w1 u (gI b m).raw) => CM.out w1 k fr (by omega) v u hv (by rw [← HM.out];exact hu)
 rw [← HM.out,← ho0] at hc0
 have C0 := hid hc0
 clear ho0 hc0
 have SB := hid (fun (h : o0.k ≠ 0) => show (sumJ p a b n).k = o0.k by
  unfold sumJ
  have e1 := HO0.out
  rw [HM.out,HFR.out,Nat.sub_zero] at e1
  rw [← e1,Outc.th_bad h])
 generalize hR : GoesI (sumJ p a b n) w = R
 have HRR := hid hR
 clear hR
 go_enter Tryz.func166,Tryz.ntmps166
 go_wp2_with fail
 rw [← HW.out]
 refine region_lin1 (m := 13) (V := VL [(vE (.agg #[.int .i64 (p : Int)])),(vE (.slice (some ⟨bA,oA,none⟩) a.length cA)),(vE (.int .i64 (fr : Int))),(vE (.pointer (some ⟨bA,oA + fr * 6,none⟩))),(fun v wv => IvR wv v ((gI a fr).raw)),(vE (.slice (some ⟨bB,oB,none⟩) b.length cB)),(vE (.int .i64 (n : Int))),(vE (.int .i64 (fr : Int))),(vE (.int .i64 (m : Int))),(vE (.pointer (some ⟨bB,oB + m * 6,none⟩))),(fun v wv => IvR wv v ((gI b m).raw)),(fun v wv => o0.k = 0 ∧ IvR wv v o0.v.raw),(fun v wv => ∃ b,v = .pointer (some ⟨b,0,none⟩) ∧ W.heap.size ≤ b ∧ BlkI wv b (.bool false) (.slice none 0 0) (.int .i64 0) (.bool false) (.slice none 0 0) (.int .i64 0))])
  (by kernel_rfl) rfl rfl rfl (by kernel_rfl) (by kernel_rfl) (by kernel_rfl) (by kernel_rfl) (mono_of _ ⟨mE,mE,mE,mE,fun v w w' k h => by first | exact h | exact h.kept k | exact ⟨h.1,h.2.kept k⟩,mE,mE,mE,mE,mE,fun v w w' k h => by first | exact h | exact h.kept k | exact ⟨h.1,h.2.kept k⟩,fun v w w' k h => ⟨h.1,h.2.kept k⟩,fun v w w' k h => by obtain ⟨b,h1,h2,h3⟩ := h;exact ⟨b,h1,h2,h3.kept k⟩,trivial⟩) (steps_of ⟨
    (fun aF wF F => by have s6 : aF.tmps.getD 6 undef = (.pointer (some ⟨w.heap.size,0,none⟩)) := F.o 6;have c0 := cell_at HP.out F.kept 0 _ rfl;exact sv rfl),(fun aF wF F => by have s1 : aF.tmps.getD 1 undef = (.slice (some ⟨bA,oA,none⟩) a.length cA) := F.o 1;exact sv rfl),(fun aF wF F => by have s3 : aF.tmps.getD 3 undef = (.int .i64 (fr : Int)) := F.o 3;exact sv rfl),(fun aF wF F => by have s16 := F.v 1 16;have s17 := F.v 2 17;exact sv rfl),(fun aF wF F => by have s18 := F.v 3 18;obtain ⟨xx,yy,zz,xx',yy',zz',h0,h1,h2,h3,h4,h5,hI⟩ := (HA.out _ (K.out.trans F.kept) fr (by omega));exact step_val (by simp [Region.wanted]) (by go_simp) hI),(fun aF wF F => by have s2 : aF.tmps.getD 2 undef = (.slice (some ⟨bB,oB,none⟩) b.length cB) := F.o 2;exact sv rfl),(fun aF wF F => by have s5 : aF.tmps.getD 5 undef = (.int .i64 (n : Int)) := F.o 5;exact sv rfl),(fun aF wF F => by have s3 : aF.tmps.getD 3 undef = (.int .i64 (fr : Int)) := F.o 3;exact sv rfl),(fun aF wF F => by have s21 := F.v 6 21;have s22 := F.v 7 22;exact sv rfl),(fun aF wF F => by have s20 := F.v 5 20;have s23 := F.v 8 23;exact sv rfl),(fun aF wF F => by have s24 := F.v 9 24;obtain ⟨xx,yy,zz,xx',yy',zz',h0,h1,h2,h3,h4,h5,hI⟩ := (HB.out _ (K.out.trans F.kept) m (by omega));exact step_val (by simp [Region.wanted]) (by go_simp) hI),(fun aF wF F => by have s15 := F.v 0 15;have s19 := F.p 4 19;have s25 := F.p 10 25;exact sJ (C0.out _ (K.out.trans F.kept) _ _ s19 s25) (fun _ _ _ h0 h => ⟨h0,h⟩) (fun w2 k2 h0 => ⟨F.defers,(by rw [← HRR.out];exact BAD.out _ (K.out.trans (F.kept.trans k2)) _ h0 (SB.out h0))⟩)),(fun aF wF F => by exact step_new (by simp [Region.wanted]) (by go_simp) (kept_alloc _ _) ⟨_,rfl,F.kept.size,blkI_zero _⟩),
    trivial⟩) ?_
 intro u w1 k1 hu
 have p19 := hp hu 4
 have p25 := hp hu 10
 have p26 := hp hu 11
 have p13 := hp hu 12
 simp only [puts,slotOf,if_true,Act.put,z1,z2,z3,z4,z5,z6,z7,hv hu 0,hv hu 1,hv hu 2,hv hu 3,hv hu 5,hv hu 6,hv hu 7,hv hu 8,hv hu 9]
 clear hu
 generalize u 4 = v19 at *
 generalize u 10 = v25 at *
 generalize u 11 = v26 at *
 generalize u 12 = v13 at *
 obtain ⟨b13,rfl,hb13,hB13⟩ := p13
 obtain ⟨h0,hv⟩ := p26
 obtain ⟨P,pl,pc,P',pl',pc',rfl,z1,z2⟩ := ivC_split hv
 obtain ⟨-,r0,r1,r2,r3,r4,r5⟩ := hB13.facts
 obtain ⟨f0,f1,f2,f3,f4,f5⟩ := hB13.free
 have HN := hid (show b13 ≠ w.heap.size ∧ b13 ≠ w.heap.size + 1 ∧ w.heap.size + 1 < W.heap.size by have := HR.out.facts.1;omega)
 have H0 := hid h0
 have HLB := hid (show w.heap.size ≤ b13 by have := K.out.size;omega)
 clear p19 p25 hv h0
 go_simp
 go_upto_region 2 with fail
 change Code.wp _ _ _ _ (ivW w1 b13 _ _ _ _ _ _)
 have KX := hid (ivW_kept (x := .bool o0.v.lo.neg) (y := .slice P pl pc) (z := .int .i64 o0.v.lo.e) (x' := .bool o0.v.hi.neg) (y' := .slice P' pl' pc') (z' := .int .i64 o0.v.hi.e) (K.out.trans k1) (show w.heap.size ≤ b13 by have := K.out.size;omega))
 have XS := hid (BlkIv.store hB13 z1 z2)
 have XP := hid ((ivW_other w1 b13 w.heap.size (.bool o0.v.lo.neg) (.slice P pl pc) (.int .i64 o0.v.lo.e) (.bool o0.v.hi.neg) (.slice P' pl' pc') (.int .i64 o0.v.hi.e) HN.out.1.symm).trans ((k1.block _ (by have := HN.out.2.2;omega)).trans HP.out))
 have XR := hid (blkI_ivJ (HR.out.kept k1) HN.out.2.1.symm (.bool o0.v.lo.neg) (.slice P pl pc) (.int .i64 o0.v.lo.e) (.bool o0.v.hi.neg) (.slice P' pl' pc') (.int .i64 o0.v.hi.e))
 have HS := hid (show sumL p a b n o0.v (List.range' 1 n) = sumJ p a b n by
  unfold sumJ
  have e1 := HO0.out
  rw [HM.out,HFR.out] at e1
  rw [Nat.sub_zero] at e1
  rw [← e1,Outc.th_ok H0.out])
 have OS := hid (show o0.v.Ok by rw [HO0.out,HM.out];exact OM.out fr)
 have F1 := hid (show fr + 1 = 1 by rw [HFR.out])
 clear C0 hmz hwm hmb hfa hmn HO0 H0 HM r0 r1 r2 r3 r4 r5 f0 f1 f2 f3 f4 f5 z1 z2 hB13 hb13 k1 HP HR K HW
 generalize ivW w1 b13 _ _ _ _ _ _ = X at *
 generalize o0.v = s0 at *
 clear hfn
 go_wp2_with fail
 go_loopw [14] (fun t wr => ∃ (j : Nat) (s : Iv),t = .int .i64 (j : Int) ∧ 1 ≤ j ∧ j ≤ n + 1 ∧ s.Ok ∧ sumL p a b n s (List.range' j (n + 1 - j)) = sumJ p a b n ∧ Kept w wr ∧ wr.heap[w.heap.size]? = some (.cells #[.int .i64 p] 86 (0,0)) ∧ BlkI wr (w.heap.size + 1) (.bool false) (.slice none 0 0) (.int .i64 0) (.bool false) (.slice none 0 0) (.int .i64 0) ∧ BlkIv wr b13 s) (fun t _ => (n + 1 - intOf t).toNat)
 case atStart => exact ⟨1,s0,by have h := HFR.out;simp [h,wrap64],Nat.le_refl _,by omega,OS.out,by simpa using HS.out,KX.out,XP.out,XR.out,XS.out⟩
 case round =>
  obtain ⟨j,s,rfl,hj1,hjn,os,hs,hK,hP,hR,hS⟩ := hrel
  have J1 := hid hj1
  have OS := hid os
  have HSS := hid hs
  have K := hid hK
  have HP := hid hP
  have HR := hid hR
  obtain ⟨As,ls,cs,As',ls',cs',hb,d1,d2⟩ := hS
  have HB13 := hid hb
  have D1 := hid d1
  have D2 := hid d2
  clear hj1 os hs hK hP hR hb d1 d2
  by_cases hj : j ≤ n
  ·obtain ⟨m, hm⟩ : ∃ m, m = n - j := ⟨_, rfl⟩
   have hmz : (n : Int) - (j : Int) = (m : Int) := by omega
   have hja : j < a.length := by omega
   have hmb : m < b.length := by omega
   have hwm : IntKind.i64.wrap (m : Int) = (m : Int) := by simp [IntKind.wrap_i64];omega
   obtain ⟨o1,ho1⟩ : ∃ o,o = mulI (gI a j) (gI b m) p := ⟨_,rfl⟩
   obtain ⟨o2,ho2⟩ : ∃ o,o = addI s o1.v p := ⟨_,rfl⟩
   have ok1 : o1.v.Ok := by rw [ho1,hm];exact OM.out j
   have ok2 : o2.v.Ok := by rw [ho2];exact OA.out s o1.v OS.out ok1
   have hc1 := fun w1 (k : Kept w w1) v u (hv : IvR w1 v (gI a j).raw) (hu : IvR w1 u (gI b m).raw) => CM.out w1 k j hj v u hv (by rw [← hm];exact hu)
   rw [← hm,← ho1] at hc1
   have hc2 := fun w1 (k : Kept w w1) v u (hv : IvR w1 v s.raw) (hu : IvR w1 u o1.v.raw) => CA.out w1 k s o1.v v u OS.out ok1 hv hu
   rw [← ho2] at hc2
   have hst : sumJ p a b n = o1.th fun q => (addI s q p).th fun s' => sumL p a b n s' (List.range' (j + 1) (n - j)) := by
    rw [← HSS.out,sumL_snoc p a b n s j (n + 1 - j) (by omega),← hm,← ho1,show n + 1 - j - 1 = m by omega]
   have hb1 : o1.k ≠ 0 → (sumJ p a b n).k = o1.k := fun h => by rw [hst,Outc.th_bad h]
   have hb2 : o1.k = 0 → o2.k ≠ 0 → (sumJ p a b n).k = o2.k := fun h h' => by rw [hst,Outc.th_ok h,← ho2,Outc.th_bad h']
   have hgo : o1.k = 0 → o2.k = 0 → sumL p a b n o2.v (List.range' (j + 1) (n + 1 - (j + 1))) = sumJ p a b n := fun h h' => by rw [hst,Outc.th_ok h,← ho2,Outc.th_ok h',show n + 1 - (j + 1) = n - j by omega]
   have C1 := hid hc1
   have C2 := hid hc2
   have B1 := hid hb1
   have B2 := hid hb2
   have GO := hid hgo
   have OK2 := hid ok2
   have HN2 := hid HN.out
   clear hc1 hc2 hst hb1 hb2 hgo ok1 ok2 ho1 ho2 hm
   generalize hsn : s.lo.neg = n1 at *
   generalize hse : s.lo.e = e1 at *
   generalize hsn2 : s.hi.neg = n2 at *
   generalize hse2 : s.hi.e = e2 at *
   have HSr := hid (show IvR wr (.agg #[.bool n1,.slice As ls cs,.int .i64 e1,.bool n2,.slice As' ls' cs',.int .i64 e2]) s.raw from ⟨_,_,_,_,_,_,rfl,D1.out,D2.out⟩)
   go_wp2_with fail
   refine region_lin1 (m := 15) (V := VL [(vE (.agg #[.int .i64 (p : Int)])),(vE (.agg #[.bool n1,.slice As ls cs,.int .i64 e1,.bool n2,.slice As' ls' cs',.int .i64 e2])),(vE (.agg #[.int .i64 (p : Int)])),(vE (.slice (some ⟨bA,oA,none⟩) a.length cA)),(vE (.int .i64 (j : Int))),(vE (.pointer (some ⟨bA,oA + j * 6,none⟩))),(fun v wv => IvR wv v ((gI a j).raw)),(vE (.slice (some ⟨bB,oB,none⟩) b.length cB)),(vE (.int .i64 (n : Int))),(vE (.int .i64 (j : Int))),(vE (.int .i64 (m : Int))),(vE (.pointer (some ⟨bB,oB + m * 6,none⟩))),(fun v wv => IvR wv v ((gI b m).raw)),(fun v wv => o1.k = 0 ∧ IvR wv v o1.v.raw),(fun v wv => o2.k = 0 ∧ IvR wv v o2.v.raw)])
    (by kernel_rfl) rfl rfl rfl (by kernel_rfl) (by kernel_rfl) (by kernel_rfl) (by kernel_rfl) (mono_of _ ⟨mE,mE,mE,mE,mE,mE,fun v w w' k h => by first | exact h | exact h.kept k | exact ⟨h.1,h.2.kept k⟩,mE,mE,mE,mE,mE,fun v w w' k h => by first | exact h | exact h.kept k | exact ⟨h.1,h.2.kept k⟩,fun v w w' k h => ⟨h.1,h.2.kept k⟩,fun v w w' k h => ⟨h.1,h.2.kept k⟩,trivial⟩) (steps_of ⟨
      (fun aF wF F => by have s6 : aF.tmps.getD 6 undef = (.pointer (some ⟨w.heap.size,0,none⟩)) := F.o 6;have c0 := cell_at HP.out F.kept 0 _ rfl;exact sv rfl),(fun aF wF F => by have s13 : aF.tmps.getD 13 undef = (.pointer (some ⟨b13,0,none⟩)) := F.o 13;have c0 := cell_at HB13.out F.kept 0 _ rfl;have c1 := cell_at HB13.out F.kept 1 _ rfl;have c2 := cell_at HB13.out F.kept 2 _ rfl;have c3 := cell_at HB13.out F.kept 3 _ rfl;have c4 := cell_at HB13.out F.kept 4 _ rfl;have c5 := cell_at HB13.out F.kept 5 _ rfl;exact sv rfl),(fun aF wF F => by have s6 : aF.tmps.getD 6 undef = (.pointer (some ⟨w.heap.size,0,none⟩)) := F.o 6;have c0 := cell_at HP.out F.kept 0 _ rfl;exact sv rfl),(fun aF wF F => by have s1 : aF.tmps.getD 1 undef = (.slice (some ⟨bA,oA,none⟩) a.length cA) := F.o 1;exact sv rfl),(fun aF wF F => by have s14 : aF.tmps.getD 14 undef = (.int .i64 (j : Int)) := F.o 14;exact sv rfl),(fun aF wF F => by have s37 := F.v 3 37;have s38 := F.v 4 38;exact sv rfl),(fun aF wF F => by have s39 := F.v 5 39;obtain ⟨xx,yy,zz,xx',yy',zz',h0,h1,h2,h3,h4,h5,hI⟩ := (HA.out _ (K.out.trans F.kept) j (by omega));exact step_val (by simp [Region.wanted]) (by go_simp) hI),(fun aF wF F => by have s2 : aF.tmps.getD 2 undef = (.slice (some ⟨bB,oB,none⟩) b.length cB) := F.o 2;exact sv rfl),(fun aF wF F => by have s5 : aF.tmps.getD 5 undef = (.int .i64 (n : Int)) := F.o 5;exact sv rfl),(fun aF wF F => by have s14 : aF.tmps.getD 14 undef = (.int .i64 (j : Int)) := F.o 14;exact sv rfl),(fun aF wF F => by have s42 := F.v 8 42;have s43 := F.v 9 43;exact sv rfl),(fun aF wF F => by have s41 := F.v 7 41;have s44 := F.v 10 44;exact sv rfl),(fun aF wF F => by have s45 := F.v 11 45;obtain ⟨xx,yy,zz,xx',yy',zz',h0,h1,h2,h3,h4,h5,hI⟩ := (HB.out _ (K.out.trans F.kept) m (by omega));exact step_val (by simp [Region.wanted]) (by go_simp) hI),(fun aF wF F => by have s36 := F.v 2 36;have s40 := F.p 6 40;have s46 := F.p 12 46;exact sJ (C1.out _ (K.out.trans F.kept) _ _ s40 s46) (fun _ _ _ h0 h => ⟨h0,h⟩) (fun w2 k2 h0 => ⟨F.defers,(by rw [← HRR.out];exact BAD.out _ (K.out.trans (F.kept.trans k2)) _ h0 (B1.out h0))⟩)),(fun aF wF F => by have s34 := F.v 0 34;have s35 := F.v 1 35;have s47 := F.p 13 47;exact sJ (C2.out _ (K.out.trans F.kept) _ _ (HSr.out.kept F.kept) s47.2) (fun _ _ _ h0 h => ⟨h0,h⟩) (fun w2 k2 h0 => ⟨F.defers,(by rw [← HRR.out];exact BAD.out _ (K.out.trans (F.kept.trans k2)) _ h0 (B2.out s47.1 h0))⟩)),
      trivial⟩) ?_
   intro u w1 k1 hu
   have p40 := hp hu 6
   have p46 := hp hu 12
   have p47 := hp hu 13
   have p48 := hp hu 14
   simp only [puts,slotOf,if_true,Act.put,z1,z2,z3,z4,z5,z6,z7,hv hu 0,hv hu 1,hv hu 2,hv hu 3,hv hu 4,hv hu 5,hv hu 7,hv hu 8,hv hu 9,hv hu 10,hv hu 11]
   clear hu
   generalize u 6 = v40 at *
   generalize u 12 = v46 at *
   generalize u 13 = v47 at *
   generalize u 14 = v48 at *
   obtain ⟨h2,hv⟩ := p48
   have h1 := p47.1
   obtain ⟨Q,ql,qc,Q',ql',qc',rfl,z1,z2⟩ := ivC_split hv
   have hB := HB13.out.kept k1
   obtain ⟨-,r0,r1,r2,r3,r4,r5⟩ := hB.facts
   obtain ⟨f0,f1,f2,f3,f4,f5⟩ := hB.free
   have H12 := hid (And.intro h1 h2)
   clear p40 p46 p47 hv h1 h2
   go_simp
   go_upto_region 4 with fail
   change Code.wp _ _ _ _ (ivW w1 b13 _ _ _ _ _ _)
   have lw : w.heap.size < wr.heap.size := by have := HR.out.facts.1;omega
   have KX := hid (ivW_kept (x := .bool o2.v.lo.neg) (y := .slice Q ql qc) (z := .int .i64 o2.v.lo.e) (x' := .bool o2.v.hi.neg) (y' := .slice Q' ql' qc') (z' := .int .i64 o2.v.hi.e) (K.out.trans k1) (show w.heap.size ≤ b13 by have := HN2.out.1;have := HLB.out;omega))
   have XS := hid (BlkIv.store hB z1 z2)
   have XP := hid ((ivW_other w1 b13 w.heap.size (.bool o2.v.lo.neg) (.slice Q ql qc) (.int .i64 o2.v.lo.e) (.bool o2.v.hi.neg) (.slice Q' ql' qc') (.int .i64 o2.v.hi.e) HN2.out.1.symm).trans ((k1.block _ lw).trans HP.out))
   have XR := hid (blkI_ivJ (HR.out.kept k1) HN2.out.2.1.symm (.bool o2.v.lo.neg) (.slice Q ql qc) (.int .i64 o2.v.lo.e) (.bool o2.v.hi.neg) (.slice Q' ql' qc') (.int .i64 o2.v.hi.e))
   clear r0 r1 r2 r3 r4 r5 f0 f1 f2 f3 f4 f5 z1 z2 hB k1 lw
   generalize ivW w1 b13 _ _ _ _ _ _ = X at *
   go_wp2_with fail
   go_roundw
   case rel => exact ⟨j + 1,o2.v,by go_num,by omega,by omega,OK2.out,GO.out H12.out.1 H12.out.2,KX.out,XP.out,XR.out,XS.out⟩
   case measure => simp [intOf];omega
  ·obtain rfl : j = n + 1 := by omega
   have hs : s = (sumJ p a b n).v ∧ (sumJ p a b n).k = 0 := by
    have := HSS.out
    rw [show n + 1 - (n + 1) = 0 by omega] at this
    rw [← this]
    exact ⟨rfl,rfl⟩
   obtain ⟨-,a0,a1,a2,a3,a4,a5⟩ := HB13.out.facts
   obtain ⟨-,r0,r1,r2,r3,r4,r5⟩ := HR.out.facts
   obtain ⟨f0,f1,f2,f3,f4,f5⟩ := HR.out.free
   have HS2 := hid hs
   clear hs
   go_wp2_with fail
   have hg := FIN.out (ivW wr (w.heap.size + 1) (.bool s.lo.neg) (.slice As ls cs) (.int .i64 s.lo.e) (.bool s.hi.neg) (.slice As' ls' cs') (.int .i64 s.hi.e)) (ivW_kept K.out (by omega)) (.agg #[.bool s.lo.neg,.slice As ls cs,.int .i64 s.lo.e,.bool s.hi.neg,.slice As' ls' cs',.int .i64 s.hi.e]) HS2.out.2 (by rw [← HS2.out.1];exact ⟨_,_,_,_,_,_,rfl,D1.out.ivW HR.out _ _ _ _ _ _,D2.out.ivW HR.out _ _ _ _ _ _⟩)
   rw [HRR.out] at hg
   exact ret_iv (HR.out.laid _ _ _ _ _ _) rfl rfl rfl hg
theorem IvS.place0 {w : World} {v : Value} {l : List RawI} (h : IvS w v l) (g : Gd l) : ∃ A c,v = .slice A l.length c ∧ l.length ≤ c ∧ (0 < l.length → ∃ b off,A = some ⟨b,off,none⟩ ∧ ∀ w1,Kept w w1 → ∀ j,j < l.length → IvAt w1 b (off + j * 6) (gI l j).raw) := by
 obtain ⟨A,c,rfl,hc,hA⟩ := h
 refine ⟨A,c,rfl,hc,fun h0 => ?_⟩
 obtain ⟨b,off,rfl,hD⟩ := hA h0
 refine ⟨b,off,rfl,fun w1 k j hj => ?_⟩
 obtain ⟨-,a,ha,he⟩ := gd_at g hj
 rw [he]
 exact (hD j a ha).kept k
theorem boxwir (w : World) (p : Int) (x y z x' y' z' : Value) : ∃ W,W = ((w.alloc (.cells #[.int .i64 p] 86)).alloc (.cells #[x,y,z,x',y',z'] 32)).alloc (.cells #[.bool false,.slice none 0 0,.int .i64 0,.bool false,.slice none 0 0,.int .i64 0] 32) ∧
 Kept w W ∧ W.heap[w.heap.size]? = some (.cells #[.int .i64 p] 86 (0,0)) ∧ BlkI W (w.heap.size + 1) x y z x' y' z' ∧ BlkI W (w.heap.size + 1 + 1) (.bool false) (.slice none 0 0) (.int .i64 0) (.bool false) (.slice none 0 0) (.int .i64 0) := by
 obtain ⟨W,hW,k,b1,b2⟩ := boxir (w.alloc (.cells #[.int .i64 p] 86)) x y z x' y' z'
 simp only [World.size_alloc] at b1 b2
 exact ⟨W,hW,(kept_alloc _ _).trans k,(k.block w.heap.size (by simp)).trans (heap_alloc_new _ _),b1,b2⟩
theorem lessL_snoc (p : Nat) (a b : List RawI) (n : Nat) (s : Iv) (j m : Nat) (h : 0 < m) :
 lessL p a b n s (List.range' j m) = (mulI (gI a j) (gI b (n - j)) p).th fun q => (subI s q p).th fun s' => lessL p a b n s' (List.range' (j + 1) (m - 1)) := by
 obtain ⟨m,rfl⟩ : ∃ k,m = k + 1 := ⟨m - 1,by omega⟩
 rw [List.range'_succ]
 rfl
theorem jless_c {S : Int → Prop} {w : World} {vx va vb : Value} {x : Iv} {a b : List RawI} {n p fr lst : Nat} (O : OpsC S) (h7 : S 7) (h8 : S 8) (hx : IvC w vx x) (ox : x.Ok) (ha : IvS w va a) (hb : IvS w vb b) (ga : Gd a) (gb : Gd b)
 (ht : lst ≤ n) (na : lst < a.length ∨ lst = 0) (nb : n ≤ b.length) (la : a.length ≤ 1000) (lb : b.length ≤ 1000) (hfr : fr = 1) (hT : Tab w) (p1 : 1 ≤ p) (p2 : p ≤ 2000) :
 Calls Tryz.prog 167 #[.agg #[.int .i64 p],vx,va,vb,.int .i64 fr,.int .i64 lst,.int .i64 n] w (GoesI (lessL p a b n x (List.range' 1 lst)) w) := by
 obtain ⟨A,cA,rfl,hcA,RA⟩ := ha.place0 ga
 obtain ⟨B,cB,rfl,hcB,RB⟩ := hb.place0 gb
 obtain ⟨X,xl,xc,X',xl',xc',rfl,x1,x2⟩ := ivC_split hx
 have CM := hid (fun w1 (k : Kept w w1) j (hj0 : 1 ≤ j) (hj : j ≤ lst) v u (hv : IvR w1 v (gI a j).raw) (hu : IvR w1 u (gI b (n - j)).raw) => wmul_c (p := p) O h8 hv hu (gd_at ga (by omega)).1 (gd_at gb (by omega)).1 (hT.kept k) p1 p2)
 have CA := hid (fun w1 (k : Kept w w1) (s q : Iv) v u (os : s.Ok) (oq : q.Ok) (hv : IvR w1 v s.raw) (hu : IvR w1 u q.raw) => wsub_c (p := p) O h7 hv hu os oq (hT.kept k) p1 p2)
 have OM := hid (fun j => (mulI_ok (a := gI a j) (b := gI b (n - j)) p1).1)
 have OA := hid (fun (s q : Iv) (os : s.Ok) (oq : q.Ok) => (subI_ok os oq p1).1)
 obtain ⟨r,hr⟩ : ∃ r,r = lessL p a b n x (List.range' 1 lst) := ⟨_,rfl⟩
 rw [← hr]
 have FIN := hid (fun (w1 : World) (k : Kept w w1) (v : Value) (h0 : r.k = 0) (hv : IvR w1 v r.v.raw) => show GoesI r w (.returned v) w1 from ⟨k,.inl ⟨h0,v,rfl,hv⟩⟩)
 have BAD := hid (fun (w1 : World) (k : Kept w w1) (z : Int) (h0 : z ≠ 0) (h : r.k = z) => show GoesI r w (.panicked (failV 117 z)) w1 from ⟨k,.inr ⟨by rw [h];exact h0,by rw [h]⟩⟩)
 obtain ⟨W,hW,kW,bW,BX,BR⟩ := boxwir w p (.bool x.lo.neg) (.slice X xl xc) (.int .i64 x.lo.e) (.bool x.hi.neg) (.slice X' xl' xc') (.int .i64 x.hi.e)
 have HA := hid RA
 have HB := hid RB
 have HW := hid hW
 have KX := hid kW
 have XP := hid bW
 have XR := hid BR
 have XS := hid (show BlkIv W (w.heap.size + 1) x from ⟨_,_,_,_,_,_,BX,x1.kept kW,x2.kept kW⟩)
 have HFR := hid hfr
 have HR1 := hid hr
 have OX := hid ox
 have NA := hid na
 generalize hR : GoesI r w = R at *
 have HRR := hid hR
 clear RA RB hW kW bW BR BX ha hb ga gb hT p1 p2 O h7 h8 hcA hcB hfr hr ox hx x1 x2 hR na
 go_enter Tryz.func167,Tryz.ntmps167
 generalize hs1 : x.lo.neg = y1 at *
 generalize hs2 : x.lo.e = y2 at *
 generalize hs3 : x.hi.neg = y3 at *
 generalize hs4 : x.hi.e = y4 at *
 clear hs1 hs2 hs3 hs4
 go_wp2_with fail
 rw [← HW.out]
 clear HW
 go_loopw [15] (fun t wr => ∃ (j : Nat) (s : Iv),t = .int .i64 (j : Int) ∧ 1 ≤ j ∧ j ≤ lst + 1 ∧ s.Ok ∧ lessL p a b n s (List.range' j (lst + 1 - j)) = r ∧ Kept w wr ∧ wr.heap[w.heap.size]? = some (.cells #[.int .i64 p] 86 (0,0)) ∧ BlkI wr (w.heap.size + 1 + 1) (.bool false) (.slice none 0 0) (.int .i64 0) (.bool false) (.slice none 0 0) (.int .i64 0) ∧ BlkIv wr (w.heap.size + 1) s) (fun t _ => (lst + 1 - intOf t).toNat)
 case atStart => exact ⟨1,x,by have h := HFR.out;simp [h],Nat.le_refl _,by omega,OX.out,by rw [HR1.out,show lst + 1 - 1 = lst by omega],KX.out,XP.out,XR.out,XS.out⟩
 case round =>
  obtain ⟨j,s,rfl,hj1,hjn,os,hs,hK,hP,hR,hS⟩ := hrel
  have J1 := hid hj1
  have OS := hid os
  have HSS := hid hs
  have K := hid hK
  have HP := hid hP
  have HR := hid hR
  obtain ⟨As,ls,cs,As',ls',cs',hb,d1,d2⟩ := hS
  have HB13 := hid hb
  have D1 := hid d1
  have D2 := hid d2
  clear hj1 os hs hK hP hR hb d1 d2
  by_cases hj : j ≤ lst
  ·obtain ⟨m, hm⟩ : ∃ m, m = n - j := ⟨_, rfl⟩
   have hmz : (n : Int) - (j : Int) = (m : Int) := by omega
   have hja : j < a.length := by rcases NA.out with h | h
                                 ·omega
                                 ·have := J1.out;omega
   have hmb : m < b.length := by have := J1.out;omega
   have hwm : IntKind.i64.wrap (m : Int) = (m : Int) := by simp [IntKind.wrap_i64];omega
   obtain ⟨bA,oA,rfl,RA⟩ := HA.out (by omega)
   obtain ⟨bB,oB,rfl,RB⟩ := HB.out (by omega)
   replace HA := hid RA
   replace HB := hid RB
   clear RA RB
   obtain ⟨o1,ho1⟩ : ∃ o,o = mulI (gI a j) (gI b m) p := ⟨_,rfl⟩
   obtain ⟨o2,ho2⟩ : ∃ o,o = subI s o1.v p := ⟨_,rfl⟩
   have ok1 : o1.v.Ok := by rw [ho1,hm];exact OM.out j
   have ok2 : o2.v.Ok := by rw [ho2];exact OA.out s o1.v OS.out ok1
   have hc1 := fun w1 (k : Kept w w1) v u (hv : IvR w1 v (gI a j).raw) (hu : IvR w1 u (gI b m).raw) => CM.out w1 k j J1.out hj v u hv (by rw [← hm];exact hu)
   rw [← hm,← ho1] at hc1
   have hc2 := fun w1 (k : Kept w w1) v u (hv : IvR w1 v s.raw) (hu : IvR w1 u o1.v.raw) => CA.out w1 k s o1.v v u OS.out ok1 hv hu
   rw [← ho2] at hc2
   have hst : r = o1.th fun q => (subI s q p).th fun s' => lessL p a b n s' (List.range' (j + 1) (lst - j)) := by
    rw [← HSS.out,lessL_snoc p a b n s j (lst + 1 - j) (by omega),← hm,← ho1,show lst + 1 - j - 1 = lst - j by omega]
   have hb1 : o1.k ≠ 0 → r.k = o1.k := fun h => by rw [hst,Outc.th_bad h]
   have hb2 : o1.k = 0 → o2.k ≠ 0 → r.k = o2.k := fun h h' => by rw [hst,Outc.th_ok h,← ho2,Outc.th_bad h']
   have hgo : o1.k = 0 → o2.k = 0 → lessL p a b n o2.v (List.range' (j + 1) (lst + 1 - (j + 1))) = r := fun h h' => by rw [hst,Outc.th_ok h,← ho2,Outc.th_ok h',show lst + 1 - (j + 1) = lst - j by omega]
   have C1 := hid hc1
   have C2 := hid hc2
   have B1 := hid hb1
   have B2 := hid hb2
   have GO := hid hgo
   have OK2 := hid ok2
   clear hc1 hc2 hst hb1 hb2 hgo ok1 ok2 ho1 ho2 hm
   generalize hsn : s.lo.neg = n1 at *
   generalize hse : s.lo.e = e1 at *
   generalize hsn2 : s.hi.neg = n2 at *
   generalize hse2 : s.hi.e = e2 at *
   have HSr := hid (show IvR wr (.agg #[.bool n1,.slice As ls cs,.int .i64 e1,.bool n2,.slice As' ls' cs',.int .i64 e2]) s.raw from ⟨_,_,_,_,_,_,rfl,D1.out,D2.out⟩)
   go_wp2_with fail
   refine region_lin1 (m := 15) (V := VL [(vE (.agg #[.int .i64 (p : Int)])),(vE (.agg #[.bool n1,.slice As ls cs,.int .i64 e1,.bool n2,.slice As' ls' cs',.int .i64 e2])),(vE (.agg #[.int .i64 (p : Int)])),(vE (.slice (some ⟨bA,oA,none⟩) a.length cA)),(vE (.int .i64 (j : Int))),(vE (.pointer (some ⟨bA,oA + j * 6,none⟩))),(fun v wv => IvR wv v ((gI a j).raw)),(vE (.slice (some ⟨bB,oB,none⟩) b.length cB)),(vE (.int .i64 (n : Int))),(vE (.int .i64 (j : Int))),(vE (.int .i64 (m : Int))),(vE (.pointer (some ⟨bB,oB + m * 6,none⟩))),(fun v wv => IvR wv v ((gI b m).raw)),(fun v wv => o1.k = 0 ∧ IvR wv v o1.v.raw),(fun v wv => o2.k = 0 ∧ IvR wv v o2.v.raw)])
    (by kernel_rfl) rfl rfl rfl (by kernel_rfl) (by kernel_rfl) (by kernel_rfl) (by kernel_rfl) (mono_of _ ⟨mE,mE,mE,mE,mE,mE,fun v w w' k h => by first | exact h | exact h.kept k | exact ⟨h.1,h.2.kept k⟩,mE,mE,mE,mE,mE,fun v w w' k h => by first | exact h | exact h.kept k | exact ⟨h.1,h.2.kept k⟩,fun v w w' k h => ⟨h.1,h.2.kept k⟩,fun v w w' k h => ⟨h.1,h.2.kept k⟩,trivial⟩) (steps_of ⟨
      (fun aF wF F => by have s7 : aF.tmps.getD 7 undef = (.pointer (some ⟨w.heap.size,0,none⟩)) := F.o 7;have c0 := cell_at HP.out F.kept 0 _ rfl;exact sv rfl),(fun aF wF F => by have s8 : aF.tmps.getD 8 undef = (.pointer (some ⟨w.heap.size + 1,0,none⟩)) := F.o 8;have c0 := cell_at HB13.out F.kept 0 _ rfl;have c1 := cell_at HB13.out F.kept 1 _ rfl;have c2 := cell_at HB13.out F.kept 2 _ rfl;have c3 := cell_at HB13.out F.kept 3 _ rfl;have c4 := cell_at HB13.out F.kept 4 _ rfl;have c5 := cell_at HB13.out F.kept 5 _ rfl;exact sv rfl),(fun aF wF F => by have s7 : aF.tmps.getD 7 undef = (.pointer (some ⟨w.heap.size,0,none⟩)) := F.o 7;have c0 := cell_at HP.out F.kept 0 _ rfl;exact sv rfl),(fun aF wF F => by have s2 : aF.tmps.getD 2 undef = (.slice (some ⟨bA,oA,none⟩) a.length cA) := F.o 2;exact sv rfl),(fun aF wF F => by have s15 : aF.tmps.getD 15 undef = (.int .i64 (j : Int)) := F.o 15;exact sv rfl),(fun aF wF F => by have s25 := F.v 3 25;have s26 := F.v 4 26;exact sv rfl),(fun aF wF F => by have s27 := F.v 5 27;obtain ⟨xx,yy,zz,xx',yy',zz',h0,h1,h2,h3,h4,h5,hI⟩ := (HA.out _ (K.out.trans F.kept) j (by omega));exact step_val (by simp [Region.wanted]) (by go_simp) hI),(fun aF wF F => by have s3 : aF.tmps.getD 3 undef = (.slice (some ⟨bB,oB,none⟩) b.length cB) := F.o 3;exact sv rfl),(fun aF wF F => by have s6 : aF.tmps.getD 6 undef = (.int .i64 (n : Int)) := F.o 6;exact sv rfl),(fun aF wF F => by have s15 : aF.tmps.getD 15 undef = (.int .i64 (j : Int)) := F.o 15;exact sv rfl),(fun aF wF F => by have s30 := F.v 8 30;have s31 := F.v 9 31;exact sv rfl),(fun aF wF F => by have s29 := F.v 7 29;have s32 := F.v 10 32;exact sv rfl),(fun aF wF F => by have s33 := F.v 11 33;obtain ⟨xx,yy,zz,xx',yy',zz',h0,h1,h2,h3,h4,h5,hI⟩ := (HB.out _ (K.out.trans F.kept) m (by omega));exact step_val (by simp [Region.wanted]) (by go_simp) hI),(fun aF wF F => by have s24 := F.v 2 24;have s28 := F.p 6 28;have s34 := F.p 12 34;exact sJ (C1.out _ (K.out.trans F.kept) _ _ s28 s34) (fun _ _ _ h0 h => ⟨h0,h⟩) (fun w2 k2 h0 => ⟨F.defers,(by exact BAD.out _ (K.out.trans (F.kept.trans k2)) _ h0 (B1.out h0))⟩)),(fun aF wF F => by have s22 := F.v 0 22;have s23 := F.v 1 23;have s35 := F.p 13 35;exact sJ (C2.out _ (K.out.trans F.kept) _ _ (HSr.out.kept F.kept) s35.2) (fun _ _ _ h0 h => ⟨h0,h⟩) (fun w2 k2 h0 => ⟨F.defers,(by exact BAD.out _ (K.out.trans (F.kept.trans k2)) _ h0 (B2.out s35.1 h0))⟩)),
      trivial⟩) ?_
   intro u w1 k1 hu
   have p28 := hp hu 6
   have p34 := hp hu 12
   have p35 := hp hu 13
   have p36 := hp hu 14
   simp only [puts,slotOf,if_true,Act.put,z1,z2,z3,z4,z5,z6,z7,hv hu 0,hv hu 1,hv hu 2,hv hu 3,hv hu 4,hv hu 5,hv hu 7,hv hu 8,hv hu 9,hv hu 10,hv hu 11]
   clear hu
   generalize u 6 = v28 at *
   generalize u 12 = v34 at *
   generalize u 13 = v35 at *
   generalize u 14 = v36 at *
   obtain ⟨h2,hv⟩ := p36
   have h1 := p35.1
   obtain ⟨Q,ql,qc,Q',ql',qc',rfl,z1,z2⟩ := ivC_split hv
   have hB := HB13.out.kept k1
   obtain ⟨-,r0,r1,r2,r3,r4,r5⟩ := hB.facts
   obtain ⟨f0,f1,f2,f3,f4,f5⟩ := hB.free
   have H12 := hid (And.intro h1 h2)
   clear p28 p34 p35 hv h1 h2
   go_simp
   go_upto_region 3 with fail
   change Code.wp _ _ _ _ (ivW w1 (w.heap.size + 1) _ _ _ _ _ _)
   have lw : w.heap.size < wr.heap.size := by have := HR.out.facts.1;omega
   have KX := hid (ivW_kept (x := .bool o2.v.lo.neg) (y := .slice Q ql qc) (z := .int .i64 o2.v.lo.e) (x' := .bool o2.v.hi.neg) (y' := .slice Q' ql' qc') (z' := .int .i64 o2.v.hi.e) (K.out.trans k1) (Nat.le_succ w.heap.size))
   have XS := hid (BlkIv.store hB z1 z2)
   have XP := hid ((ivW_other w1 (w.heap.size + 1) w.heap.size (.bool o2.v.lo.neg) (.slice Q ql qc) (.int .i64 o2.v.lo.e) (.bool o2.v.hi.neg) (.slice Q' ql' qc') (.int .i64 o2.v.hi.e) (by omega)).trans ((k1.block _ lw).trans HP.out))
   have XR := hid (blkI_ivJ (HR.out.kept k1) (by omega : w.heap.size + 1 + 1 ≠ w.heap.size + 1) (.bool o2.v.lo.neg) (.slice Q ql qc) (.int .i64 o2.v.lo.e) (.bool o2.v.hi.neg) (.slice Q' ql' qc') (.int .i64 o2.v.hi.e))
   clear r0 r1 r2 r3 r4 r5 f0 f1 f2 f3 f4 f5 z1 z2 hB k1 lw
   generalize ivW w1 (w.heap.size + 1) _ _ _ _ _ _ = Y at *
   go_wp2_with fail
   go_roundw
   case rel => exact ⟨j + 1,o2.v,by go_num,by omega,by omega,OK2.out,GO.out H12.out.1 H12.out.2,KX.out,XP.out,XR.out,XS.out⟩
   case measure => simp [intOf];omega
  ·obtain rfl : j = lst + 1 := by omega
   have hs : s = r.v ∧ r.k = 0 := by
    have := HSS.out
    rw [show lst + 1 - (lst + 1) = 0 by omega] at this
    rw [← this]
    exact ⟨rfl,rfl⟩
   obtain ⟨-,a0,a1,a2,a3,a4,a5⟩ := HB13.out.facts
   obtain ⟨-,r0,r1,r2,r3,r4,r5⟩ := HR.out.facts
   obtain ⟨f0,f1,f2,f3,f4,f5⟩ := HR.out.free
   have HS2 := hid hs
   clear hs
   go_wp2_with fail
   have hg := FIN.out (ivW wr (w.heap.size + 1 + 1) (.bool s.lo.neg) (.slice As ls cs) (.int .i64 s.lo.e) (.bool s.hi.neg) (.slice As' ls' cs') (.int .i64 s.hi.e)) (ivW_kept K.out (by omega)) (.agg #[.bool s.lo.neg,.slice As ls cs,.int .i64 s.lo.e,.bool s.hi.neg,.slice As' ls' cs',.int .i64 s.hi.e]) HS2.out.2 (by rw [← HS2.out.1];exact ⟨_,_,_,_,_,_,rfl,D1.out.ivW HR.out _ _ _ _ _ _,D2.out.ivW HR.out _ _ _ _ _ _⟩)
   exact ret_iv (HR.out.laid _ _ _ _ _ _) rfl rfl rfl hg
end Go.Proofs.YtgododcbmkpbjaaGreatDoor
