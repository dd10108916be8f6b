/- Contracts of package jet: the worker's line where a constant is given; lines as one. -/
import Derived.Test.YtgododcbmkpbjaaGreatDoorClaimJrulp18
import Derived.Test.YtgododcbmkpbjaaGreatDoorClaimJrulp40
set_option maxRecDepth 100000
set_option maxHeartbeats 16000000
namespace Go.Proofs.YtgododcbmkpbjaaGreatDoor
open Go.Lib (hid)
open Go.RowKit
theorem series1_bad {w : World} {bB bK bF bX bP bT : Nat} {k p : Int}
 (hB : w.heap[bB]? = some (.cells #[.int .i64 p] 3 (0,0))) (hK : w.heap[bK]? = some (.cells #[.int .i64 k] 3 (0,0))) (hw : withinJ k p = false) :
 Calls Tryz.prog 65 #[.pointer (some ⟨bK,0,none⟩),.pointer (some ⟨bB,0,none⟩),.pointer (some ⟨bF,0,none⟩),.pointer (some ⟨bX,0,none⟩),.pointer (some ⟨bP,0,none⟩),.pointer (some ⟨bT,0,none⟩)] w (GoesLL ⟨[],1⟩ w) := by
 have WI := hid (fun w1 => show Calls Tryz.prog 54 #[.int .i64 k,.int .i64 p] w1 (RetQ (.bool false) w1) by have := within_c w1 k p;rwa [hw] at this)
 have HB := hid hB
 have HK := hid hK
 have BAD := hid (fun w1 (q : Kept w w1) => show GoesLL ⟨[],1⟩ w (.panicked (failV 117 1)) w1 from ⟨q,.inr ⟨by decide,rfl⟩⟩)
 clear hB hK hw
 go_enter Tryz.func65,Tryz.ntmps65
 go_upto_region 1 with fail
 refine region_seq (m := 28) (V := VL [(vE (.int .i64 k)),(vE (.int .i64 p)),(vE (.bool false)),(vE (.bool false)),(vE undef),(vE undef),(vE undef),(vE undef),(vE undef),(vE undef),(vE (.bool false)),(vE (.bool false)),(vE undef),(vE undef),(vE undef),(vE undef),(vE (.bool false)),(vE (.bool false)),(vE undef),(vE undef),(vE undef),(vE (.bool false)),(vE (.bool false)),(vE undef),(vE undef),(vE undef),(vE (.bool false)),(fun v _ => False)])
  rfl (by kernel_rfl) (by kernel_rfl) (by kernel_rfl) (mono_of _ ⟨mE,mE,mE,mE,mE,mE,mE,mE,mE,mE,mE,mE,mE,mE,mE,mE,mE,mE,mE,mE,mE,mE,mE,mE,mE,mE,mE,fun v w w' k h => by first | exact h | exact h.kept k | exact ⟨h.1,h.2.kept k⟩,trivial⟩) (steps_of ⟨
   (fun aF wF F => by have s0 : aF.tmps.getD 0 undef = (.pointer (some ⟨bK,0,none⟩)) := F.o 0;have c0 := cell_at HK.out F.kept 0 _ rfl;exact sv rfl),(fun aF wF F => by have s1 : aF.tmps.getD 1 undef = (.pointer (some ⟨bB,0,none⟩)) := F.o 1;have c0 := cell_at HB.out F.kept 0 _ rfl;exact sv rfl),(fun aF wF F => by have s7 := F.v 0 7;have s8 := F.v 1 8;exact sQ (WI.out _) fun _ _ h => h),(fun aF wF F => by have s9 := F.v 2 9;exact sv rfl),(so 3 10),(so 3 10),(so 3 10),(so 3 10),(so 3 10),(so 3 10),(fun aF wF F => by have s10 := F.v 3 10;have s16 := F.v 9 16;exact sv rfl),(fun aF wF F => by have s17 := F.v 10 17;exact sv rfl),(so 11 18),(so 11 18),(so 11 18),(so 11 18),(fun aF wF F => by have s18 := F.v 11 18;have s22 := F.v 15 22;exact sv rfl),(fun aF wF F => by have s23 := F.v 16 23;exact sv rfl),(so 17 24),(so 17 24),(so 17 24),(fun aF wF F => by have s24 := F.v 17 24;have s27 := F.v 20 27;exact sv rfl),(fun aF wF F => by have s28 := F.v 21 28;exact sv rfl),(so 22 29),(so 22 29),(so 22 29),(fun aF wF F => by have s29 := F.v 22 29;have s32 := F.v 25 32;exact sv rfl),(fun aF wF F => by have s33 := F.v 26 33;exact step_call (by simp [Region.wanted]) (by go_simp) (must_ifJ false 1 _) (fun e w2 h => h.elim (fun ⟨v,he,hk,hb,_⟩ => absurd hb (by decide)) (fun ⟨c,he,h0,hc,hw2⟩ => .inr ⟨c,he,F.defers,by subst hc;exact BAD.out w2 (hw2 ▸ F.kept)⟩))),
   trivial⟩) ?_
 intro u w1 k1 hu
 have p34 := hp hu 27
 simp only [puts,slotOf,if_true,Act.put,z1,z2,z3,z4,z5,z6,z7,hv hu 0,hv hu 1,hv hu 2,hv hu 3,hv hu 4,hv hu 5,hv hu 6,hv hu 7,hv hu 8,hv hu 9,hv hu 10,hv hu 11,hv hu 12,hv hu 13,hv hu 14,hv hu 15,hv hu 16,hv hu 17,hv hu 18,hv hu 19,hv hu 20,hv hu 21,hv hu 22,hv hu 23,hv hu 24,hv hu 25,hv hu 26]
 clear hu
 generalize u 27 = v34 at *
 exact p34.elim
theorem series_bad {w : World} {k p : Int} {vt : Value} {ls : List Ln} {outs : List Int} (hv : TpR w vt ls outs) (hw : withinJ k p = false) :
 Calls Tryz.prog 27 #[vt,.slice none 0 0,.slice none 0 0,.slice none 0 0,.int .i64 k,.int .i64 p] w (RetLL ⟨[],1⟩ w) := by
 obtain ⟨s,o,rfl,⟨A,c,rfl,-,-⟩,⟨B,d,rfl,-,-⟩⟩ := hv
 exact series_face (fun _ => rfl) fun w1 q B => series1_bad B.b B.k hw
theorem lim_newJ {w : World} {b n : Nat} {T : TypeId} (hn : n < 18446744073709551616) (h : w.heap[b]? = some (.cells #[.int .u64 (n : Int)] T (0,0))) : Lim w (.slice (some ⟨b,0,none⟩) 1 1) [n] := by
 refine ⟨fun x hx => by simp at hx;omega,some ⟨b,0,none⟩,1,rfl,Nat.le_refl _,fun _ => ⟨b,0,rfl,(Array.getElem?_eq_some_iff.1 h).1,fun i hi => ?_⟩⟩
 have hi : i < 1 := hi
 obtain rfl : i = 0 := by omega
 exact cell_of_block h 0 _ rfl
theorem dy81 : (dyz 8 (-3)).raw = ⟨false,[1],0⟩ := by
 have hl := limbs_one 1 (by decide) (by decide)
 have ht : tz 8 = 3 := tz_unique 8 3 1 rfl rfl
 have h : fitD false 8 (-3) = ⟨⟨false,1,0⟩,0⟩ := by
  unfold fitD
  rw [ht,if_neg (by decide),if_neg (by show ¬ 64 < (limbs 1).length;rw [hl];decide),if_neg (by decide),if_neg (by decide)]
  rfl
 have h2 : dyz 8 (-3) = ⟨false,1,0⟩ := congrArg Outc.v h
 rw [h2];unfold Dy.raw;rw [hl]
theorem cellKJ {w w' : World} {b o : Nat} {v : Value} (h : w.cell? ⟨b,o,none⟩ = some v) (k : Kept w w') : w'.cell? ⟨b,o,none⟩ = some v := (k.cell (p := ⟨b,o,none⟩) (lt_of_cell h)).trans h
theorem told9_c {S : Int → Prop} {w : World} (O : OpsC S) (h9 : S 9) (hT : Tab w) : Calls Tryz.prog 26 #[] w (RetK (.bool true) w) := by
 have T := hid hT
 obtain ⟨c9,hst,gc9,lc9,he9,hq9⟩ := told_steps
 have hf := e8_first (m := 8) (p := 30) ⟨by decide,by decide,by decide⟩
 have C1 := hid (fun w1 (k : Kept w w1) vt vx (ht : TpR w1 vt tE [0]) (hx : OneI w1 vx ⟨⟨false,[1],0⟩,⟨false,[1],0⟩⟩) => show Calls Tryz.prog 24 #[vt,.agg #[.bool false,.slice none 0 0,.int .i64 0,.bool false,.slice none 0 0,.int .i64 0],vx,.slice none 0 0,.int .i64 3,.int .i64 30] w1 (RetLL ⟨[c9],0⟩ w1) by
  have e : (⟨⟨false,[1],0⟩,⟨false,[1],0⟩⟩ : RawI) = (pt (dyz 8 (-3))).raw := by show _ = RawI.mk (dyz 8 (-3)).raw (dyz 8 (-3)).raw;rw [dy81]
  rw [e] at hx
  exact solve_one (ov := fun _ _ => ⟨iz,0⟩) (k := 3) (p := 30) (time := []) O h9 ht hx ⟨by rw [Iv.raw_iv];exact pt_ok (dyz_ok _ _),by rw [Iv.raw_iv]⟩ lnOk_E (by decide) rfl (by intro n hn;simp only [List.mem_singleton] at hn;subst hn;decide) rfl rfl
   (fun n c hn gc hc => linC_E gc hc (by omega) (by decide) (by decide)) (hT.kept k) (by rw [Iv.raw_iv];exact hf.2.1.1) (by rw [Iv.raw_iv];exact hst))
 have C2 := hid (fun w1 (_ : Kept w w1) vt (ht : TpR w1 vt tE [0]) => show Calls Tryz.prog 24 #[vt,.agg #[.bool false,.slice none 0 0,.int .i64 0,.bool false,.slice none 0 0,.int .i64 0],.slice none 0 0,.slice none 0 0,.int .i64 3,.int .i64 30] w1 (RetLL ⟨[],1⟩ w1) from
  solve_bad ht lnOk_E (by decide) (by decide) rfl rfl)
 have C3 := hid (fun w1 (_ : Kept w w1) vt (ht : TpR w1 vt tE [0]) => show Calls Tryz.prog 27 #[vt,.slice none 0 0,.slice none 0 0,.slice none 0 0,.int .i64 13,.int .i64 30] w1 (RetLL ⟨[],1⟩ w1) from series_bad ht rfl)
 obtain ⟨r2,hr2⟩ : ∃ r,r = gI c9 2 := ⟨_,rfl⟩
 obtain ⟨r3,hr3⟩ : ∃ r,r = gI c9 3 := ⟨_,rfl⟩
 have ok3 : r3.Ok := by rw [hr3];exact gI_ok gc9 3
 rw [← hr2] at he9
 rw [← hr3] at hq9
 have CC := hid (fun w1 va vb (ha : DyR w1 va r3.lo.raw) (hb : DyR w1 vb r3.hi.raw) => show Calls Tryz.prog 21 #[va,vb] w1 (RetK (.int .i64 (-1)) w1) by
  have := dcmp_c ha hb ok3.lo ok3.hi
  rwa [cmpQ_of_lt hq9] at this)
 have PL := hid (fun w1 v (h : IvS w1 v c9) => h.place gc9 (by omega))
 have LC := hid lc9
 have R2 := hid hr2
 have R3 := hid hr3
 have E9 := hid (show r2.raw.lo.e = -1 from he9)
 clear hT hst gc9 lc9 he9 hq9 hf ok3 hr2 hr3 O
 go_enter Tryz.func26,Tryz.ntmps26
 go_wp2_with fail
 have hlim : Lim (w.alloc (.cells #[.int .u64 1] 60)) (.slice (some ⟨w.heap.size,0,none⟩) 1 1) [1] := lim_newJ (n := 1) (T := 60) (by decide) (heap_alloc_new _ _)
 refine (iof_c (r := ⟨false,[1],0⟩) ⟨_,rfl,hlim,by decide,by decide⟩).mono ?_
 rintro e w1 ⟨q,v,rfl,hv⟩
 obtain ⟨P1,l1,d1,P2,l2,d2,rfl,-,-⟩ := ivR_split hv
 have K1 := hid ((kept_alloc _ _).trans q)
 have HV1 := hid hv
 clear hlim hv q
 simp only [] at HV1 ⊢
 obtain ⟨V1,hV1,kV1,bV1⟩ := boxi1 w1 (.bool false) (.slice P1 l1 d1) (.int .i64 0) (.bool false) (.slice P2 l2 d2) (.int .i64 0)
 have HB1 := hid hV1
 go_upto_region 2 with fail
 rw [← HB1.out]
 obtain ⟨V2,hV2,kV2,b0,b1,b2⟩ := boxTJ V1 #[.int .i64 3,.int .i64 0,.int .i64 0,.bool false,.slice none 0 0,.int .i64 0,.bool false,.slice none 0 0,.int .i64 0] 0 1
 have HB2 := hid hV2
 have K2 := hid (K1.out.trans (kV1.trans kV2))
 have BI := hid (bV1.kept kV2)
 have IV := hid (HV1.out.kept (kV1.trans kV2))
 have BT := hid b2
 have TP := hid (show TpR V2 (.agg #[.slice (some ⟨V1.heap.size,0,none⟩) 1 1,.slice (some ⟨V1.heap.size + 1,0,none⟩) 1 1]) tE [0] from ⟨_,_,rfl,lnJ1 b0,insJ1 b1⟩)
 clear hV1 hV2 kV1 kV2 bV1 b0 b1 b2 HV1 HB1 K1
 go_upto_region 3 with fail
 rw [← HB2.out]
 clear HB2
 generalize V1.heap.size + 1 + 1 = n3 at *
 generalize w1.heap.size = n1 at *
 generalize V1.heap.size + 1 = n2 at *
 generalize V1.heap.size = n0 at *
 obtain ⟨c0,c1⟩ := cells2 BT.out
 obtain ⟨-,m0,m1,m2,m3,m4,m5⟩ := BI.out.facts
 go_wp2_with fail
 refine (C1.out _ (K2.out.trans (kept_alloc _ _)) _ _ (TP.out.kept (kept_alloc _ _)) (oneI_new IV.out)).mono ?_
 rintro e w3 ⟨q3,v3,rfl,hr3⟩
 obtain ⟨b3,o3,e3,s3,rfl,-,cell3,hs3⟩ := hr3.row (i := 0) (by simp)
 obtain ⟨br,orr,cr,rfl,-,hRG⟩ := PL.out w3 _ (show IvS w3 s3 c9 from hs3)
 have i2 := hRG w3 (Below.refl _ _) 2 (by have := LC.out;omega)
 have i3 := hRG w3 (Below.refl _ _) 3 (by have := LC.out;omega)
 rw [← R2.out] at i2
 rw [← R3.out] at i3
 rw [LC.out,Nat.add_zero] at cell3
 obtain ⟨y0,y1,y2,y3,y4,y5,-,-,s2,-,-,-,hI2⟩ := i2
 obtain ⟨A1,a1,a2,A2,a3,a4,hh,-,-⟩ := ivR_split hI2
 simp only [Value.agg.injEq,List.cons.injEq,Array.mk.injEq,and_true] at hh
 obtain ⟨rfl,rfl,rfl,rfl,rfl,rfl⟩ := hh
 rw [E9.out] at s2
 obtain ⟨x0,x1,x2,x3,x4,x5,t0,t1,t2,t3,t4,t5,hI3⟩ := i3
 obtain ⟨B1,f1,f2,B2,f3,f4,hh,dlo,dhi⟩ := ivR_split hI3
 simp only [Value.agg.injEq,List.cons.injEq,Array.mk.injEq,and_true] at hh
 obtain ⟨rfl,rfl,rfl,rfl,rfl,rfl⟩ := hh
 have kq := (kept_alloc V2 (.cells #[.bool false,.slice P1 l1 d1,.int .i64 0,.bool false,.slice P2 l2 d2,.int .i64 0] 32)).trans q3
 have K3 := hid (K2.out.trans kq)
 have TP3 := hid (TP.out.kept kq)
 have BT3 := hid (blk_kept BT.out kq)
 have S2 := hid s2
 have S3 := hid (And.intro t0 (And.intro t1 (And.intro t2 (And.intro t3 (And.intro t4 t5)))))
 have CE := hid cell3
 have DLO := hid dlo
 have DHI := hid dhi
 clear c0 c1 m0 m1 m2 m3 m4 m5 K2 TP BT IV BI hI2 hI3 dlo dhi t0 t1 t2 t3 t4 t5 s2 cell3 hs3 hRG kq q3 C1 PL
 obtain ⟨c0,c1⟩ := cells2 BT3.out
 simp only []
 go_wp2_with fail
 refine (C2.out _ K3.out _ TP3.out).mono ?_
 rintro e w4 ⟨q4,v4,rfl,hr4⟩
 obtain ⟨A4,c4,rfl,-,-⟩ := hr4
 have Q4 := hid q4
 clear c0 c1 q4
 obtain ⟨c0,c1⟩ := cells2 (blk_kept BT3.out Q4.out)
 simp only []
 go_wp2_with fail
 refine (C3.out _ (K3.out.trans Q4.out) _ (TP3.out.kept Q4.out)).mono ?_
 rintro e w5 ⟨q5,v5,rfl,hr5⟩
 obtain ⟨A5,c5,rfl,-,-⟩ := hr5
 have Q5 := hid (Q4.out.trans q5)
 clear c0 c1 q5 C2 C3
 simp only []
 go_wp2_with fail
 refine region_lin (m := 49) (V := VL [(vE (.int .i64 0)),(vE (.bool true)),(vE (.bool true)),(vE (.slice (some ⟨b3,o3,none⟩) 1 e3)),(vE (.int .i64 1)),(vE (.bool true)),(vE (.bool true)),(vE (.bool true)),(vE (.slice (some ⟨b3,o3,none⟩) 1 e3)),(vE (.pointer (some ⟨b3,o3,none⟩))),(vE (.slice (some ⟨br,orr,none⟩) 4 cr)),(vE (.int .i64 4)),(vE (.bool true)),(vE (.bool true)),(vE (.bool true)),(vE (.slice (some ⟨b3,o3,none⟩) 1 e3)),(vE (.pointer (some ⟨b3,o3,none⟩))),(vE (.slice (some ⟨br,orr,none⟩) 4 cr)),(vE (.pointer (some ⟨br,orr + 2 * 6,none⟩))),(vE (.pointer (some ⟨br,orr + 2 * 6,none⟩))),(vE (.pointer (some ⟨br,orr + 2 * 6 + 2,none⟩))),(vE (.int .i64 (-1))),(vE (.bool true)),(vE (.bool true)),(vE (.bool true)),(vE (.slice (some ⟨b3,o3,none⟩) 1 e3)),(vE (.pointer (some ⟨b3,o3,none⟩))),(vE (.slice (some ⟨br,orr,none⟩) 4 cr)),(vE (.pointer (some ⟨br,orr + 3 * 6,none⟩))),(vE (.pointer (some ⟨br,orr + 3 * 6,none⟩))),(vE (.agg #[.bool r3.raw.lo.neg,.slice B1 f1 f2,.int .i64 r3.raw.lo.e])),(vE (.slice (some ⟨b3,o3,none⟩) 1 e3)),(vE (.pointer (some ⟨b3,o3,none⟩))),(vE (.slice (some ⟨br,orr,none⟩) 4 cr)),(vE (.pointer (some ⟨br,orr + 3 * 6,none⟩))),(vE (.pointer (some ⟨br,orr + 3 * 6 + 3,none⟩))),(vE (.agg #[.bool r3.raw.hi.neg,.slice B2 f3 f4,.int .i64 r3.raw.hi.e])),(vE (.int .i64 (-1))),(vE (.bool true)),(vE (.bool true)),(vE (.bool true)),(vE (.int .i64 1)),(vE (.bool true)),(vE (.bool true)),(vE (.bool true)),(vE (.int .i64 1)),(vE (.bool true)),(vE (.bool true)),(vE (.bool true))])
  (by kernel_rfl) rfl (by kernel_rfl) (by kernel_rfl) (by kernel_rfl) (mono_of _ ⟨mE,mE,mE,mE,mE,mE,mE,mE,mE,mE,mE,mE,mE,mE,mE,mE,mE,mE,mE,mE,mE,mE,mE,mE,mE,mE,mE,mE,mE,mE,mE,mE,mE,mE,mE,mE,mE,mE,mE,mE,mE,mE,mE,mE,mE,mE,mE,mE,mE,trivial⟩) (steps_of ⟨
    (fun aF wF F => by have s4 : aF.tmps.getD 4 undef = (.int .i64 0) := F.o 4;exact sv rfl),(fun aF wF F => by have s35 := F.v 0 35;exact sv rfl),(fun aF wF F => by have s36 := F.v 1 36;exact sv rfl),(fun aF wF F => by have s3 : aF.tmps.getD 3 undef = (.slice (some ⟨b3,o3,none⟩) 1 e3) := F.o 3;have sg := F.v 2 37;exact step_val ((wanted_guard rfl rfl sg).trans rfl) (by go_simp) rfl),(fun aF wF F => by have s38 := F.v 3 38;have sg := F.v 2 37;exact step_val ((wanted_guard rfl rfl sg).trans rfl) (by go_simp) rfl),(fun aF wF F => by have s39 := F.v 4 39;have sg := F.v 2 37;exact step_val ((wanted_guard rfl rfl sg).trans rfl) (by go_simp) rfl),(fun aF wF F => by have s37 := F.v 2 37;have s40 := F.v 5 40;exact sv rfl),(fun aF wF F => by have s41 := F.v 6 41;exact sv rfl),(fun aF wF F => by have s3 : aF.tmps.getD 3 undef = (.slice (some ⟨b3,o3,none⟩) 1 e3) := F.o 3;have sg := F.v 7 42;exact step_val ((wanted_guard rfl rfl sg).trans rfl) (by go_simp) rfl),(fun aF wF F => by have s43 := F.v 8 43;have sg := F.v 7 42;exact step_val ((wanted_guard rfl rfl sg).trans rfl) (by go_simp) rfl),(fun aF wF F => by have s44 := F.v 9 44;have sg := F.v 7 42;exact step_val ((wanted_guard rfl rfl sg).trans rfl) (by (have n0 := cellKJ CE.out (Q5.out.trans F.kept);go_simp)) rfl),(fun aF wF F => by have s45 := F.v 10 45;have sg := F.v 7 42;exact step_val ((wanted_guard rfl rfl sg).trans rfl) (by go_simp) rfl),(fun aF wF F => by have s46 := F.v 11 46;have sg := F.v 7 42;exact step_val ((wanted_guard rfl rfl sg).trans rfl) (by go_simp) rfl),(fun aF wF F => by have s42 := F.v 7 42;have s47 := F.v 12 47;exact sv rfl),(fun aF wF F => by have s48 := F.v 13 48;exact sv rfl),(fun aF wF F => by have s3 : aF.tmps.getD 3 undef = (.slice (some ⟨b3,o3,none⟩) 1 e3) := F.o 3;have sg := F.v 14 49;exact step_val ((wanted_guard rfl rfl sg).trans rfl) (by go_simp) rfl),(fun aF wF F => by have s50 := F.v 15 50;have sg := F.v 14 49;exact step_val ((wanted_guard rfl rfl sg).trans rfl) (by go_simp) rfl),(fun aF wF F => by have s51 := F.v 16 51;have sg := F.v 14 49;exact step_val ((wanted_guard rfl rfl sg).trans rfl) (by (have n0 := cellKJ CE.out (Q5.out.trans F.kept);go_simp)) rfl),(fun aF wF F => by have s52 := F.v 17 52;have sg := F.v 14 49;exact step_val ((wanted_guard rfl rfl sg).trans rfl) (by go_simp) rfl),(fun aF wF F => by have s53 := F.v 18 53;have sg := F.v 14 49;exact step_val ((wanted_guard rfl rfl sg).trans rfl) (by go_simp) rfl),(fun aF wF F => by have s54 := F.v 19 54;have sg := F.v 14 49;exact step_val ((wanted_guard rfl rfl sg).trans rfl) (by go_simp) rfl),(fun aF wF F => by have s55 := F.v 20 55;have sg := F.v 14 49;exact step_val ((wanted_guard rfl rfl sg).trans rfl) (by (have n0 := cellKJ S2.out (Q5.out.trans F.kept);go_simp)) rfl),(fun aF wF F => by have s56 := F.v 21 56;have sg := F.v 14 49;exact step_val ((wanted_guard rfl rfl sg).trans rfl) (by go_simp) rfl),(fun aF wF F => by have s49 := F.v 14 49;have s57 := F.v 22 57;exact sv rfl),(fun aF wF F => by have s58 := F.v 23 58;exact sv rfl),(fun aF wF F => by have s3 : aF.tmps.getD 3 undef = (.slice (some ⟨b3,o3,none⟩) 1 e3) := F.o 3;have sg := F.v 24 59;exact step_val ((wanted_guard rfl rfl sg).trans rfl) (by go_simp) rfl),(fun aF wF F => by have s60 := F.v 25 60;have sg := F.v 24 59;exact step_val ((wanted_guard rfl rfl sg).trans rfl) (by go_simp) rfl),(fun aF wF F => by have s61 := F.v 26 61;have sg := F.v 24 59;exact step_val ((wanted_guard rfl rfl sg).trans rfl) (by (have n0 := cellKJ CE.out (Q5.out.trans F.kept);go_simp)) rfl),(fun aF wF F => by have s62 := F.v 27 62;have sg := F.v 24 59;exact step_val ((wanted_guard rfl rfl sg).trans rfl) (by go_simp) rfl),(fun aF wF F => by have s63 := F.v 28 63;have sg := F.v 24 59;exact step_val ((wanted_guard rfl rfl sg).trans rfl) (by go_simp) rfl),(fun aF wF F => by have s64 := F.v 29 64;have sg := F.v 24 59;exact step_val ((wanted_guard rfl rfl sg).trans rfl) (by (have n0 := cellKJ S3.out.1 (Q5.out.trans F.kept);have n1 := cellKJ S3.out.2.1 (Q5.out.trans F.kept);have n2 := cellKJ S3.out.2.2.1 (Q5.out.trans F.kept);go_simp)) rfl),(fun aF wF F => by have s3 : aF.tmps.getD 3 undef = (.slice (some ⟨b3,o3,none⟩) 1 e3) := F.o 3;have sg := F.v 24 59;exact step_val ((wanted_guard rfl rfl sg).trans rfl) (by go_simp) rfl),(fun aF wF F => by have s66 := F.v 31 66;have sg := F.v 24 59;exact step_val ((wanted_guard rfl rfl sg).trans rfl) (by go_simp) rfl),(fun aF wF F => by have s67 := F.v 32 67;have sg := F.v 24 59;exact step_val ((wanted_guard rfl rfl sg).trans rfl) (by (have n0 := cellKJ CE.out (Q5.out.trans F.kept);go_simp)) rfl),(fun aF wF F => by have s68 := F.v 33 68;have sg := F.v 24 59;exact step_val ((wanted_guard rfl rfl sg).trans rfl) (by go_simp) rfl),(fun aF wF F => by have s69 := F.v 34 69;have sg := F.v 24 59;exact step_val ((wanted_guard rfl rfl sg).trans rfl) (by go_simp) rfl),(fun aF wF F => by have s70 := F.v 35 70;have sg := F.v 24 59;exact step_val ((wanted_guard rfl rfl sg).trans rfl) (by (have n0 := cellKJ S3.out.2.2.2.1 (Q5.out.trans F.kept);have n1 := cellKJ S3.out.2.2.2.2.1 (Q5.out.trans F.kept);have n2 := cellKJ S3.out.2.2.2.2.2 (Q5.out.trans F.kept);go_simp)) rfl),(fun aF wF F => by have s65 := F.v 30 65;have s71 := F.v 36 71;have sg := F.v 24 59;exact step_good ((wanted_guard rfl rfl sg).trans rfl) (by go_simp) (CC.out _ _ _ (DLO.out.kept (Q5.out.trans F.kept)) (DHI.out.kept (Q5.out.trans F.kept))) (fun _ _ h => RetK.good h) (fun _ _ h => h)),(fun aF wF F => by have s72 := F.v 37 72;have sg := F.v 24 59;exact step_val ((wanted_guard rfl rfl sg).trans rfl) (by go_simp) rfl),(fun aF wF F => by have s59 := F.v 24 59;have s73 := F.v 38 73;exact sv rfl),(fun aF wF F => by have s74 := F.v 39 74;exact sv rfl),(fun aF wF F => by have s6 : aF.tmps.getD 6 undef = (.int .i64 1) := F.o 6;have sg := F.v 40 75;exact step_val ((wanted_guard rfl rfl sg).trans rfl) (by go_simp) rfl),(fun aF wF F => by have s76 := F.v 41 76;have sg := F.v 40 75;exact step_val ((wanted_guard rfl rfl sg).trans rfl) (by go_simp) rfl),(fun aF wF F => by have s75 := F.v 40 75;have s77 := F.v 42 77;exact sv rfl),(fun aF wF F => by have s78 := F.v 43 78;exact sv rfl),(fun aF wF F => by have s8 : aF.tmps.getD 8 undef = (.int .i64 1) := F.o 8;have sg := F.v 44 79;exact step_val ((wanted_guard rfl rfl sg).trans rfl) (by go_simp) rfl),(fun aF wF F => by have s80 := F.v 45 80;have sg := F.v 44 79;exact step_val ((wanted_guard rfl rfl sg).trans rfl) (by go_simp) rfl),(fun aF wF F => by have s79 := F.v 44 79;have s81 := F.v 46 81;exact sv rfl),(fun aF wF F => by have s82 := F.v 47 82;exact sv rfl),
    trivial⟩) ?_
 intro u w6 q6 hu
 simp only [puts,slotOf,if_true,Act.put,z1,z2,z3,z4,z5,z6,z7,hv hu 0,hv hu 1,hv hu 2,hv hu 3,hv hu 4,hv hu 5,hv hu 6,hv hu 7,hv hu 8,hv hu 9,hv hu 10,hv hu 11,hv hu 12,hv hu 13,hv hu 14,hv hu 15,hv hu 16,hv hu 17,hv hu 18,hv hu 19,hv hu 20,hv hu 21,hv hu 22,hv hu 23,hv hu 24,hv hu 25,hv hu 26,hv hu 27,hv hu 28,hv hu 29,hv hu 30,hv hu 31,hv hu 32,hv hu 33,hv hu 34,hv hu 35,hv hu 36,hv hu 37,hv hu 38,hv hu 39,hv hu 40,hv hu 41,hv hu 42,hv hu 43,hv hu 44,hv hu 45,hv hu 46,hv hu 47,hv hu 48]
 clear hu
 have KF := hid (K3.out.trans (Q5.out.trans q6))
 clear q6
 go_wp2_with fail
 go_ret
 exact ⟨rfl,KF.out⟩
theorem lineC_c {w : World} {vl vall vt vx vq : Value} {l : Ln} {k p : Nat} (hop : l.op = 1) (hv : LnR w vl l) (gl : l.k.iv.Ok ∧ l.k.iv.raw = l.k) (hk : k ≤ 900) (hT : Tab w) (p1 : 1 ≤ p) (p2 : p ≤ 300) :
 Calls Tryz.prog 104 #[.agg #[.int .i64 p],vl,vall,vt,vx,vq,.int .i64 k] w (GoesL (coefG p (constJ l.k k) [] (List.range' 0 (k + 1))) w) := by
 obtain ⟨x,y,z,x',y',z',rfl,hK⟩ := hv
 obtain ⟨A1,l1,q1,A2,l2,q2,ei,-,-⟩ := ivR_split hK
 injection ei with ei;injection ei with ei
 simp only [List.cons.injEq,and_true] at ei
 obtain ⟨rfl,rfl,rfl,rfl,rfl,rfl⟩ := ei
 rw [hop]
 have gg := constJ_gd gl k
 have na : k < (constJ l.k k).length := by simp [constJ]
 have la : (constJ l.k k).length ≤ 1000 := by simp [constJ];omega
 have CI := hid (fun (w' : World) (v' : Value) (base : Nat) (q : Kept w w') (OW : w'.ownsRow base 32 6 v' (1 + k) ([.bool l.k.lo.neg,.slice A1 l1 q1,.int .i64 l.k.lo.e,.bool l.k.hi.neg,.slice A2 l2 q2,.int .i64 l.k.hi.e] ++ (Builtin.zeroCells zc6 k).toList)) => const_ivS OW (hK.kept q))
 have CR := hid (fun w1 (q : Kept w w1) n v (hn : n ≤ k) (hv : IvR w1 v (gI (constJ l.k k) n).raw) => iround_c (p := p) hv (gd_at gg (by omega)).1 (hT.kept q) p1 (by omega))
 obtain ⟨W,hW,kW,bW,bL⟩ := boxwl w p (.int .i64 1) (.int .i64 l.a) (.int .i64 l.b) (.bool l.k.lo.neg) (.slice A1 l1 q1) (.int .i64 l.k.lo.e) (.bool l.k.hi.neg) (.slice A2 l2 q2) (.int .i64 l.k.hi.e)
 have HW := hid hW
 have K := hid kW
 have HP := hid bW
 obtain ⟨c0,c1,c2,c3,c4,c5,c6,c7,c8⟩ := ln_cells bL
 have HOW := hid (ownI_new (hK.kept kW))
 have GG := hid gg
 generalize constJ l.k k = g at *
 obtain ⟨r,er⟩ : ∃ r,r = coefG p g [] (List.range' 0 (k + 1)) := ⟨_,rfl⟩
 have ER := hid er
 rw [← er]
 generalize l.a = la' at *
 generalize l.b = lb' at *
 generalize l.k.lo.neg = n1 at *
 generalize l.k.lo.e = e1 at *
 generalize l.k.hi.neg = n2 at *
 generalize l.k.hi.e = e2 at *
 have hk9 : k < 1000 := by omega
 clear hW kW bW bL hT p1 p2 hK er hop gl gg
 go_enter Tryz.func104,Tryz.ntmps104
 go_wp2_with fail
 rw [← HW.out]
 clear HW
 go_step3
 go_wp2_with (at_builtin;refine wpList_append_z rfl (.tmp 24) (.tmp 25) rfl rfl HOW.out.row rfl (by simp;omega) (by simp) ?_;intro v' W1 OW gW)
 have kk : Kept W W1 := Below.grown (kept_alloc W _) gW (by simp) (fun g hg => Nat.le_of_eq (Option.some.inj hg))
 have hIv := CI.out W1 v' _ (K.out.trans kk) OW
 obtain ⟨bG,oG,cG,rfl,-,hRG⟩ := hIv.place GG.out (by omega)
 have RG := hid (fun w1 (q : Kept W1 w1) j (hj : j ≤ k) => hRG w1 q j (by omega))
 replace HP := hid (blk_kept HP.out kk)
 replace K := hid (K.out.trans kk)
 clear hRG hIv kk OW gW CI HOW c0 c1 c2 c3 c4 c5 c6 c7 c8
 go_step3
 go_wp2_with fail
 go_loopw [15,17] (fun vc t wr => ∃ (j : Nat) (c : List RawI) (xs : List Value),t = .int .i64 (j : Int) ∧ j ≤ k + 1 ∧ c.length = j ∧ coefG p g c (List.range' j (k + 1 - j)) = r ∧ OwnI wr W1.heap.size vc c xs ∧ Kept W1 wr) (fun _ t _ => (k + 1 - intOf t).toNat)
 case atStart => exact ⟨0,[],[],rfl,Nat.zero_le _,rfl,ER.out.symm,OwnI.nil _ _,Below.refl _ _⟩
 case round =>
  obtain ⟨j,c,xs,rfl,hj,hcl,hco,hown,hkr⟩ := hrel
  have HCL := hid hcl
  have HCO := hid hco
  have OWN := hid hown
  have KR := hid hkr
  clear hcl hco hown hkr
  by_cases hjk : j ≤ k
  ·obtain ⟨o, ho⟩ : ∃ o, o = roundI (gI g j) p := ⟨_, rfl⟩
   have hsn := coefG_snoc p g c j (k + 1 - j) (by omega)
   rw [HCO.out,← ho] at hsn
   have hbad : o.k ≠ 0 → r = ⟨[],o.k⟩ := fun h => by rw [hsn,if_neg h]
   have hgo : o.k = 0 → coefG p g (c ++ [o.v.raw]) (List.range' (j + 1) (k + 1 - (j + 1))) = r := fun h => by rw [hsn,if_pos h,show k + 1 - (j + 1) = k + 1 - j - 1 by omega]
   have HNX := hid (fun w1 (q : Kept wr w1) v (hv : IvR w1 v (gI g j).raw) => ho ▸ CR.out w1 ((K.out.trans KR.out).trans q) j v hjk hv)
   have BAD := hid (fun (w1 : World) (q : Kept w w1) (h : o.k ≠ 0) => show GoesL r w (.panicked (failV 117 o.k)) w1 by rw [hbad h];exact ⟨q,.inr ⟨h,rfl⟩⟩)
   have GO := hid hgo
   have HPw := hid ((KR.out.block _ (Array.getElem?_eq_some_iff.1 HP.out).1).trans HP.out)
   have enil := fun (w : World) => Go.run_neq_slice_nil_any (P := Tryz.prog) w 33 32 (some ⟨bG,oG,none⟩) g.length cG 0 0 Tryz.underlying33
   have hro : (rawO o).k = o.k := rfl
   have hjg : j < g.length := by omega
   clear ho hsn hbad hgo
   go_wp2_with fail
   clear enil
   refine region_lin2 (m := 12) (V := VL [(vE u15),(vE (.slice (some ⟨bG,oG,none⟩) g.length cG)),(vE (.int .i64 (j : Int))),(vE (.pointer (some ⟨bG,oG + j * 6,none⟩))),(fun v wv => IvR wv v ((gI g j).raw)),(vP w.heap.size 0),(vE (.int .i64 (p : Int))),(fun v wv => ∃ d,v = .tuple #[d,.int .i64 (rawO o).k] ∧ IvR wv d (rawO o).v),(fun v wv => IvR wv v (rawO o).v),(vE (.int .i64 (rawO o).k)),(fun v wv => o.k = 0 ∧ IvR wv v o.v.raw),(fun v wv => OneI wv v o.v.raw)])
    (by kernel_rfl) rfl rfl rfl rfl rfl (by kernel_rfl) (by kernel_rfl) (by kernel_rfl) (by kernel_rfl) (mono_of _ ⟨mE,mE,mE,mE,fun v w w' k h => by first | exact h | exact h.kept k | exact ⟨h.1,h.2.kept k⟩,mE,mE,fun v w w' k h => by obtain ⟨d,h1,h2⟩ := h;exact ⟨d,h1,h2.kept k⟩,fun v w w' k h => by first | exact h | exact h.kept k | exact ⟨h.1,h.2.kept k⟩,mE,fun v w w' k h => ⟨h.1,h.2.kept k⟩,fun v w w' k h => h.kept k,trivial⟩) (steps_of ⟨
      (fun aF wF F => by have s15 : aF.tmps.getD 15 undef = u15 := F.o 15;exact sv rfl),(fun aF wF F => by have s16 : aF.tmps.getD 16 undef = (.slice (some ⟨bG,oG,none⟩) g.length cG) := F.o 16;exact sv rfl),(fun aF wF F => by have s17 : aF.tmps.getD 17 undef = (.int .i64 (j : Int)) := F.o 17;exact sv rfl),(fun aF wF F => by have s52 := F.v 1 52;have s53 := F.v 2 53;exact sv rfl),(fun aF wF F => by have s54 := F.v 3 54;obtain ⟨xx,yy,zz,xx',yy',zz',h0,h1,h2,h3,h4,h5,hI⟩ := (RG.out _ (KR.out.trans F.kept) j (by omega));exact step_val (by simp [Region.wanted]) (by go_simp) hI),(fun aF wF F => by have s7 : aF.tmps.getD 7 undef = (.pointer (some ⟨w.heap.size,0,none⟩)) := F.o 7;exact sv rfl),(fun aF wF F => by have s56 := F.v 5 56;have c0 := cell_at HPw.out F.kept 0 _ rfl;exact sv rfl),(fun aF wF F => by have s55 := F.p 4 55;have s57 := F.v 6 57;exact sP (HNX.out _ F.kept _ s55) fun _ _ h => h),(fun aF wF F => by have s58 := F.p 7 58;obtain ⟨dd,ee,hh⟩ := s58;exact step_val (by simp [Region.wanted]) (by go_simp) hh),(fun aF wF F => by have s58 := F.p 7 58;exact sw (by obtain ⟨dd,ee,hh⟩ := s58;go_simp) rfl),(fun aF wF F => by have s59 := F.p 8 59;have s60 := F.v 9 60;exact sJ (sure_cJ (o := o) s59) (fun _ _ _ h0 h => ⟨h0,h⟩) (fun w2 k2 h0 => ⟨F.defers,BAD.out _ ((K.out.trans KR.out).trans (F.kept.trans k2)) h0⟩)),(fun aF wF F => by have s61 := F.p 10 61;obtain ⟨A1,l1,d1,A2,l2,d2,e9,h9,g9⟩ := ivR_split s61.2;simp only [Array.getD_eq_getD_getElem?] at e9;exact step_new (by simp [Region.wanted]) (by first | (go_simp;done) | (go_simp;rfl)) (kept_alloc _ _) (oneI_new (r := o.v.raw) ⟨_,_,_,_,_,_,rfl,h9,g9⟩)),
      trivial⟩) ?_
   intro u w1 k1 hu
   have p55 := hp hu 4
   have p58 := hp hu 7
   have p59 := hp hu 8
   have p61 := hp hu 10
   have p62 := hp hu 11
   simp only [puts,slotOf,if_true,Act.put,z1,z2,z3,z4,z5,z6,z7,hv hu 0,hv hu 1,hv hu 2,hv hu 3,hv hu 5,hv hu 6,hv hu 9]
   clear hu
   generalize u 4 = v55 at *
   generalize u 7 = v58 at *
   generalize u 8 = v59 at *
   generalize u 10 = v61 at *
   generalize u 11 = v62 at *
   obtain ⟨h0,-⟩ := p61
   obtain ⟨b1,x0,x1,x2,x3,x4,x5,e81,hb1,hI⟩ := p62
   subst e81
   have own1 := OWN.out.kept k1
   have hcl9 : c.length ≤ 1000 := by have := HCL.out;omega
   have hW9 : W1.heap.size ≤ w1.heap.size := (KR.out.trans k1).size
   refine ⟨?_,.inl (by kernel_rfl)⟩
   refine wp_append_iv (.tmp 51) (.tmp 62) ?ho (v := u15) ?hs own1 hI hb1 ?hx hcl9 hW9 ?h
   case ho => rfl
   case hs => first | rfl | (go_simp;done)
   case hx => first | rfl | (go_simp;done)
   intro v' X OX gX
   have KX := hid (OwnI.grown_kept own1 (KR.out.trans k1) gX)
   have OXX := hid OX
   have H0 := hid h0
   clear own1 hI hb1 OX gX k1 h0 hW9 p55 p58 p59
   go_simp
   go_wp2_with fail
   go_roundw
   case rel => exact ⟨j + 1,c ++ [o.v.raw],_,by go_num,by omega,by simp [HCL.out],GO.out H0.out,OXX.out,KX.out⟩
   case measure => simp [intOf];omega
  ·obtain rfl : j = k + 1 := by omega
   have hr : r = ⟨c,0⟩ := by
    have := HCO.out
    rw [show k + 1 - (k + 1) = 0 by omega] at this
    exact this.symm
   have FI := hid (show GoesL r w (.returned u15) wr by
    rw [hr]
    exact ⟨K.out.trans KR.out,.inl ⟨rfl,_,rfl,OWN.out.ivS,fun g hg => Nat.le_trans K.out.size (OWN.out.base g hg)⟩⟩)
   clear hr
   go_wp2_with fail
   go_ret
   exact FI.out
theorem rws_new1 {w : World} {v : Value} {t : List RawI} (h : IvS w v t) : Rws (w.alloc (.cells #[v] 33)) (.slice (some ⟨w.heap.size,0,none⟩) 1 1) [t] :=
 ⟨_, _, rfl, Nat.le_refl _, fun _ => ⟨w.heap.size, 0, rfl, fun i r hi => by
  rcases i with _ | i
  ·obtain rfl : t = r := by simpa using hi
   exact ⟨v,cell_of_block (heap_alloc_new _ _) 0 _ rfl,h.kept (kept_alloc _ _)⟩
  ·simp at hi⟩⟩
theorem lineJ1 (ov : Iv → Nat → Outc Iv) (p : Nat) (l : Ln) (all : List (List RawI)) (t : List RawI) (x q : List (List RawI)) (k : Nat) (h : l.op = 1) : lineJ ov p l all t x q k = coefG p (constJ l.k k) [] (List.range' 0 (k + 1)) := by
 unfold lineJ;rw [h,← List.range_eq_range'];rfl
theorem linC1 {tm : Bool} {ov : Iv → Nat → Outc Iv} {p k i : Nat} {t : List RawI} {x q : List (List RawI)} {l : Ln} (h : l.op = 1) (gl : l.k.iv.Ok ∧ l.k.iv.raw = l.k) (hk : k ≤ 900) (p1 : 1 ≤ p) (p2 : p ≤ 300) : LinC tm ov p k t x q i l := by
 refine ⟨fun all hi gall e => ?_,?_⟩
 ·rw [lineJ1 _ _ _ _ _ _ _ _ h] at e ⊢
  obtain ⟨q1,q2⟩ := coefG_gd p1 (constJ_gd gl k) _ _ gd_nil e
  exact ⟨q1,by rw [q2];simp⟩
 ·intro w vl vall vt vx vq all hl hall hi gall ht hx hq hT
  rw [lineJ1 _ _ _ _ _ _ _ _ h]
  exact lineC_c h hl gl hk hT p1 p2
theorem series1_c {tm : Bool} {ov : Iv → Nat → Outc Iv} {w : World} {bB bK bF bX bP bT k p : Nat} {s o : Value} {vt vx : Value} {ls : List Ln} {outs : List Int} {t : List RawI} {x : List (List RawI)}
 (hB : w.heap[bB]? = some (.cells #[.int .i64 (p : Int)] 3 (0,0))) (hK : w.heap[bK]? = some (.cells #[.int .i64 (k : Int)] 3 (0,0))) (hF : w.heap[bF]? = some (.cells #[s,o] 27 (0,0)))
 (hX : w.heap[bX]? = some (.cells #[vx] 42 (0,0))) (hP : w.heap[bP]? = some (.cells #[.slice none 0 0] 42 (0,0))) (hTm : w.heap[bT]? = some (.cells #[vt] 33 (0,0)))
 (hv : TpR w (.agg #[s,o]) ls outs) (ht : IvS w vt t) (hx : Rws w vx x) (hok : LnOk ls) (hn : ls.length ≤ 200) (hno : outs.length ≤ 200) (hor : ∀ n ∈ outs,0 ≤ n ∧ n < (ls.length : Int)) (hw : withinJ k p = true) (hm : mayT ls outs x.length 0 0 = true)
 (hf1 : fullJ [t] k = true) (hf2 : fullJ x k = true) (lt : t.length ≤ 1000 ∧ ∀ a ∈ t,a.lens 17592186044416) (lx : x.length ≤ 1000 ∧ ∀ r ∈ x,r.length ≤ 1000000000 ∧ ∀ a ∈ r,a.lens 17592186044416)
 (hL : ∀ i l,ls[i]? = some l → LinC tm ov p k t x [] i l) (hT : Tab w) :
 Calls Tryz.prog 65 #[.pointer (some ⟨bK,0,none⟩),.pointer (some ⟨bB,0,none⟩),.pointer (some ⟨bF,0,none⟩),.pointer (some ⟨bX,0,none⟩),.pointer (some ⟨bP,0,none⟩),.pointer (some ⟨bT,0,none⟩)] w (GoesLL (seriesJ ov p ls outs t x [] k) w) := by
 have kp : k ≤ 12 ∧ 1 ≤ p ∧ p ≤ 300 := by
  unfold withinJ at hw
  simp only [Bool.and_eq_true,decide_eq_true_eq] at hw
  omega
 obtain ⟨k12,p1,p2⟩ := kp
 have WI := hid (fun w1 => show Calls Tryz.prog 54 #[.int .i64 (k : Int),.int .i64 (p : Int)] w1 (RetQ (.bool true) w1) by have := within_c w1 k p;rwa [hw] at this)
 have MT := hid (fun w1 (q : Kept w w1) => show Calls Tryz.prog 55 #[.agg #[s,o],.int .i64 (x.length : Int),.int .i64 0,.int .i64 0] w1 (RetK (.bool true) w1) by have := may_tc (hv.kept q) hok (by omega) (by omega) (x := x.length) (u := 0) (p := 0) (by omega) (by omega) (by omega);rwa [hm] at this)
 have F1 := hid (fun w1 v (h : Rws w1 v [t]) => show Calls Tryz.prog 56 #[v,.int .i64 (k : Int)] w1 (RetK (.bool true) w1) by
  have := full_c (k := k) h (by simp) (by
   intro r hr
   simp only [List.mem_singleton] at hr
   subst hr
   exact ⟨by omega,lt.2⟩) (by omega) (by omega)
  rwa [hf1] at this)
 have F2 := hid (fun w1 (q : Kept w w1) => show Calls Tryz.prog 56 #[vx,.int .i64 (k : Int)] w1 (RetK (.bool true) w1) by
  have := full_c (k := k) (hx.kept q) (by omega) lx.2 (by omega) (by omega)
  rwa [hf2] at this)
 have F3 := hid (fun w1 => show Calls Tryz.prog 56 #[.slice none 0 0,.int .i64 (k : Int)] w1 (RetK (.bool true) w1) by
  exact full_c (k := k) (rws_nil w1) (by simp) (by intro r hr;cases hr) (by omega) (by omega))
 obtain ⟨U,hU⟩ : ∃ U,U = seriesJ ov p ls outs t x [] k := ⟨_,rfl⟩
 have CS := hid (fun w1 (q : Kept w w1) => show Calls Tryz.prog 62 #[.agg #[.int .i64 (p : Int)],.agg #[s,o],vt,vx,.slice none 0 0,.int .i64 (k : Int)] w1 (GoesLL U w1) by
  rw [hU]
  exact series_c (hv.kept q) (fun _ => ht.kept q) (hx.kept q) (rws_nil _) hL hor hn hno (by omega) (hT.kept q))
 rw [← hU]
 have HB := hid hB
 have HK := hid hK
 have HF := hid hF
 have HX := hid hX
 have HP := hid hP
 have HTM := hid hTm
 have HTS := hid ht
 obtain ⟨sA,sc,rfl,-,-⟩ : ∃ A c,s = .slice A ls.length c ∧ True ∧ True := by
  obtain ⟨s',o',es,⟨A,c,e,-,-⟩,-⟩ := hv
  injection es with es
  injection es with es
  simp only [List.cons.injEq,and_true] at es
  obtain ⟨rfl,rfl⟩ := es
  exact ⟨A,c,e,trivial,trivial⟩
 obtain ⟨oA,oc,rfl,-,-⟩ : ∃ A c,o = .slice A outs.length c ∧ True ∧ True := by
  obtain ⟨s',o',es,-,⟨A,c,e,-,-⟩⟩ := hv
  injection es with es
  injection es with es
  simp only [List.cons.injEq,and_true] at es
  obtain ⟨-,rfl⟩ := es
  exact ⟨A,c,e,trivial,trivial⟩
 have hx2 := hx
 obtain ⟨xA,xc,rfl,-,-⟩ := hx2
 have ht2 := ht
 obtain ⟨tA,tc,rfl,-,-⟩ := ht2
 clear hB hK hF hX hP hTm hv ht hx hok hn hno hor hw hm hf1 hf2 lt lx hL hT hU
 go_enter Tryz.func65,Tryz.ntmps65
 go_upto_region 1 with fail
 refine region_seq (m := 28) (V := VL [(vE (.int .i64 (k : Int))),(vE (.int .i64 (p : Int))),(vE (.bool true)),(vE (.bool true)),(vE (.agg #[.slice sA ls.length sc,.slice oA outs.length oc])),(vE (.slice xA x.length xc)),(vE (.int .i64 (x.length : Int))),(vE (.slice none 0 0)),(vE (.int .i64 0)),(vE (.bool true)),(vE (.bool true)),(vE (.bool true)),(vE (.slice tA t.length tc)),(fun v wv => Rws wv v [t]),(vE (.int .i64 (k : Int))),(vE (.bool true)),(vE (.bool true)),(vE (.bool true)),(vE (.slice xA x.length xc)),(vE (.int .i64 (k : Int))),(vE (.bool true)),(vE (.bool true)),(vE (.bool true)),(vE (.slice none 0 0)),(vE (.int .i64 (k : Int))),(vE (.bool true)),(vE (.bool true)),(vE (.tuple #[]))])
  rfl (by kernel_rfl) (by kernel_rfl) (by kernel_rfl) (mono_of _ ⟨mE,mE,mE,mE,mE,mE,mE,mE,mE,mE,mE,mE,mE,fun v w w' k h => by first | exact h | exact h.kept k | exact ⟨h.1,h.2.kept k⟩,mE,mE,mE,mE,mE,mE,mE,mE,mE,mE,mE,mE,mE,mE,trivial⟩) (steps_of ⟨
   (fun aF wF F => by have s0 : aF.tmps.getD 0 undef = (.pointer (some ⟨bK,0,none⟩)) := F.o 0;have c0 := cell_at HK.out F.kept 0 _ rfl;exact sv rfl),(fun aF wF F => by have s1 : aF.tmps.getD 1 undef = (.pointer (some ⟨bB,0,none⟩)) := F.o 1;have c0 := cell_at HB.out F.kept 0 _ rfl;exact sv rfl),(fun aF wF F => by have s7 := F.v 0 7;have s8 := F.v 1 8;exact sQ (WI.out _) fun _ _ h => h),(fun aF wF F => by have s9 := F.v 2 9;exact sv rfl),(fun aF wF F => by have s2 : aF.tmps.getD 2 undef = (.pointer (some ⟨bF,0,none⟩)) := F.o 2;have c0 := cell_at HF.out F.kept 0 _ rfl;have c1 := cell_at HF.out F.kept 1 _ rfl;have sg := F.v 3 10;exact step_val ((wanted_guard rfl rfl sg).trans rfl) (by go_simp) rfl),(fun aF wF F => by have s3 : aF.tmps.getD 3 undef = (.pointer (some ⟨bX,0,none⟩)) := F.o 3;have c0 := cell_at HX.out F.kept 0 _ rfl;have sg := F.v 3 10;exact step_val ((wanted_guard rfl rfl sg).trans rfl) (by go_simp) rfl),(fun aF wF F => by have s12 := F.v 5 12;have sg := F.v 3 10;exact step_val ((wanted_guard rfl rfl sg).trans rfl) (by go_simp) rfl),(fun aF wF F => by have s4 : aF.tmps.getD 4 undef = (.pointer (some ⟨bP,0,none⟩)) := F.o 4;have c0 := cell_at HP.out F.kept 0 _ rfl;have sg := F.v 3 10;exact step_val ((wanted_guard rfl rfl sg).trans rfl) (by go_simp) rfl),(fun aF wF F => by have s14 := F.v 7 14;have sg := F.v 3 10;exact step_val ((wanted_guard rfl rfl sg).trans rfl) (by go_simp) rfl),(fun aF wF F => by have s11 := F.v 4 11;have s13 := F.v 6 13;have s15 := F.v 8 15;have sg := F.v 3 10;exact step_good ((wanted_guard rfl rfl sg).trans rfl) (by go_simp) (MT.out _ F.kept) (fun _ _ h => RetK.good h) (fun _ _ h => h)),(fun aF wF F => by have s10 := F.v 3 10;have s16 := F.v 9 16;exact sv rfl),(fun aF wF F => by have s17 := F.v 10 17;exact sv rfl),(fun aF wF F => by have s5 : aF.tmps.getD 5 undef = (.pointer (some ⟨bT,0,none⟩)) := F.o 5;have c0 := cell_at HTM.out F.kept 0 _ rfl;have sg := F.v 11 18;exact step_val ((wanted_guard rfl rfl sg).trans rfl) (by go_simp) rfl),(fun aF wF F => by have s19 := F.v 12 19;simp only [Array.getD_eq_getD_getElem?] at s19;have sg := F.v 11 18;exact step_new ((wanted_guard rfl rfl sg).trans rfl) (by first | (go_simp;done) | (go_simp;rfl)) (kept_alloc _ _) (rws_new1 (HTS.out.kept F.kept))),(fun aF wF F => by have s0 : aF.tmps.getD 0 undef = (.pointer (some ⟨bK,0,none⟩)) := F.o 0;have c0 := cell_at HK.out F.kept 0 _ rfl;have sg := F.v 11 18;exact step_val ((wanted_guard rfl rfl sg).trans rfl) (by go_simp) rfl),(fun aF wF F => by have s20 := F.p 13 20;have s21 := F.v 14 21;have sg := F.v 11 18;exact step_good ((wanted_guard rfl rfl sg).trans rfl) (by go_simp) (F1.out _ _ s20) (fun _ _ h => RetK.good h) (fun _ _ h => h)),(fun aF wF F => by have s18 := F.v 11 18;have s22 := F.v 15 22;exact sv rfl),(fun aF wF F => by have s23 := F.v 16 23;exact sv rfl),(fun aF wF F => by have s3 : aF.tmps.getD 3 undef = (.pointer (some ⟨bX,0,none⟩)) := F.o 3;have c0 := cell_at HX.out F.kept 0 _ rfl;have sg := F.v 17 24;exact step_val ((wanted_guard rfl rfl sg).trans rfl) (by go_simp) rfl),(fun aF wF F => by have s0 : aF.tmps.getD 0 undef = (.pointer (some ⟨bK,0,none⟩)) := F.o 0;have c0 := cell_at HK.out F.kept 0 _ rfl;have sg := F.v 17 24;exact step_val ((wanted_guard rfl rfl sg).trans rfl) (by go_simp) rfl),(fun aF wF F => by have s25 := F.v 18 25;have s26 := F.v 19 26;have sg := F.v 17 24;exact step_good ((wanted_guard rfl rfl sg).trans rfl) (by go_simp) (F2.out _ F.kept) (fun _ _ h => RetK.good h) (fun _ _ h => h)),(fun aF wF F => by have s24 := F.v 17 24;have s27 := F.v 20 27;exact sv rfl),(fun aF wF F => by have s28 := F.v 21 28;exact sv rfl),(fun aF wF F => by have s4 : aF.tmps.getD 4 undef = (.pointer (some ⟨bP,0,none⟩)) := F.o 4;have c0 := cell_at HP.out F.kept 0 _ rfl;have sg := F.v 22 29;exact step_val ((wanted_guard rfl rfl sg).trans rfl) (by go_simp) rfl),(fun aF wF F => by have s0 : aF.tmps.getD 0 undef = (.pointer (some ⟨bK,0,none⟩)) := F.o 0;have c0 := cell_at HK.out F.kept 0 _ rfl;have sg := F.v 22 29;exact step_val ((wanted_guard rfl rfl sg).trans rfl) (by go_simp) rfl),(fun aF wF F => by have s30 := F.v 23 30;have s31 := F.v 24 31;have sg := F.v 22 29;exact step_good ((wanted_guard rfl rfl sg).trans rfl) (by go_simp) (F3.out _) (fun _ _ h => RetK.good h) (fun _ _ h => h)),(fun aF wF F => by have s29 := F.v 22 29;have s32 := F.v 25 32;exact sv rfl),(fun aF wF F => by have s33 := F.v 26 33;exact sK (must_trueJ 1 _) fun _ _ h => h),
   trivial⟩) ?_
 intro u w2 q hu
 have p20 := hp hu 13
 simp only [puts,slotOf,if_true,Act.put,z1,z2,z3,z4,z5,z6,z7,hv hu 0,hv hu 1,hv hu 2,hv hu 3,hv hu 4,hv hu 5,hv hu 6,hv hu 7,hv hu 8,hv hu 9,hv hu 10,hv hu 11,hv hu 12,hv hu 14,hv hu 15,hv hu 16,hv hu 17,hv hu 18,hv hu 19,hv hu 20,hv hu 21,hv hu 22,hv hu 23,hv hu 24,hv hu 25,hv hu 26,hv hu 27]
 clear hu
 generalize u 13 = v20 at *
 clear p20
 have K2 := hid q
 obtain ⟨c0,c1⟩ := cells2 (blk_kept HF.out q)
 have d0 := cell_of_block (blk_kept HB.out q) 0 _ rfl
 have d1 := cell_of_block (blk_kept HK.out q) 0 _ rfl
 have d2 := cell_of_block (blk_kept HX.out q) 0 _ rfl
 have d3 := cell_of_block (blk_kept HP.out q) 0 _ rfl
 have d4 := cell_of_block (blk_kept HTM.out q) 0 _ rfl
 clear q
 go_wp2_with fail
 refine (CS.out _ K2.out).mono ?_
 rintro e w3 ⟨q3,hq3⟩
 rcases hq3 with ⟨h0,v,rfl,hr,hf⟩ | ⟨h0,rfl⟩
 ·have FI := hid (show GoesLL U w (.returned v) w3 from ⟨K2.out.trans q3, .inl ⟨h0, v, rfl, hr, fun g hg => Nat.le_trans K2.out.size (hf g hg)⟩⟩)
  clear hr hf h0 q3
  simp only []
  go_wp2_with fail
  go_ret
  exact FI.out
 ·simp only []
  exact ⟨rfl,K2.out.trans q3,.inr ⟨h0,rfl⟩⟩
theorem series_good {tm : Bool} {ov : Iv → Nat → Outc Iv} {w : World} {k p : Nat} {vv vt vx : Value} {ls : List Ln} {outs : List Int} {t : List RawI} {x rows : List (List RawI)}
 (hv : TpR w vv ls outs) (ht : IvS w vt t) (hx : Rws w vx x) (hok : LnOk ls) (hn : ls.length ≤ 200) (hno : outs.length ≤ 200) (hor : ∀ n ∈ outs,0 ≤ n ∧ n < (ls.length : Int)) (hw : withinJ k p = true) (hm : mayT ls outs x.length 0 0 = true)
 (hf1 : fullJ [t] k = true) (hf2 : fullJ x k = true) (lt : t.length ≤ 1000 ∧ ∀ a ∈ t,a.lens 17592186044416) (lx : x.length ≤ 1000 ∧ ∀ r ∈ x,r.length ≤ 1000000000 ∧ ∀ a ∈ r,a.lens 17592186044416)
 (hL : ∀ i l,ls[i]? = some l → LinC tm ov p k t x [] i l) (hT : Tab w) (hs : seriesJ ov p ls outs t x [] k = ⟨rows,0⟩) :
 Calls Tryz.prog 27 #[vv,vt,vx,.slice none 0 0,.int .i64 (k : Int),.int .i64 (p : Int)] w (RetLL ⟨rows,0⟩ w) := by
 have hv2 := hv
 obtain ⟨s,o,rfl,⟨A,c,rfl,-,-⟩,⟨B,d,rfl,-,-⟩⟩ := hv2
 have hx2 := hx
 obtain ⟨xA,xc,rfl,-,-⟩ := hx2
 have ht2 := ht
 obtain ⟨tA,tc,rfl,-,-⟩ := ht2
 rw [← hs]
 exact series_face (fun h => by rw [hs] at h;exact absurd rfl h) fun w1 q B => series1_c B.b B.k B.f B.x B.p B.t (hv.kept q) (ht.kept q) (hx.kept q) hok hn hno hor hw hm hf1 hf2 lt lx hL (hT.kept q)
end Go.Proofs.YtgododcbmkpbjaaGreatDoor
