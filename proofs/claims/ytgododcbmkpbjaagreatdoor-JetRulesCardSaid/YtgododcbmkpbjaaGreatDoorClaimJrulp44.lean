/- JetRules: series of products, squares, quotients. -/
import Derived.Test.YtgododcbmkpbjaaGreatDoorClaimJrulp42
import Derived.Test.YtgododcbmkpbjaaGreatDoorClaimJrulp43
import Derived.Deep.CutBlock
import Derived.Deep.DeepCutAuto
set_option maxRecDepth 100000
set_option maxHeartbeats 16000000
namespace Go.Proofs.YtgododcbmkpbjaaGreatDoor
open Go.Lib (hid)
open Go.RowKit
theorem mk2 (w : World) : (Instr.makeSlice 42 (.int .i64 2) (.int .i64 2)).run Tryz.prog w = .ok (.slice (some ⟨w.heap.size,0,none⟩) 2 2) (w.alloc (.cells #[.slice none 0 0,.slice none 0 0] 33)) := by
 kernel_rfl
theorem RuS.rws5 {B bx : Nat} {w0 w : World} {f g : Nat → Int} (h : RuS B bx w0 f g 5 w) : Rws w (.slice (some ⟨bx,0,none⟩) 2 2) [rowE f,rowE g] := by
 obtain ⟨v0,v1,xs0,xs1,h1,h2,h3,-,-⟩ := h.box
 refine ⟨_,_,rfl,Nat.le_refl _,fun _ => ⟨bx,0,rfl,fun i r hi => ?_⟩⟩
 rcases i with _ | _ | i
 ·obtain rfl : rowE f = r := by simpa using hi
  exact ⟨v0,cell_of_block h1 0 _ rfl,h2.ivS⟩
 ·obtain rfl : rowE g = r := by simpa using hi
  exact ⟨v1,cell_of_block h1 1 _ rfl,h3.ivS⟩
 ·simp at hi
theorem dup {A B G : Prop} (a : G → A) (b : G → B) (g : G) : A ∧ B := ⟨a g,b g⟩
theorem box2n (w : World) : ∃ W,W = w.alloc (.cells #[.slice none 0 0,.slice none 0 0] 33) ∧ Kept w W ∧ W.heap.size = w.heap.size + 1 ∧ W.heap[w.heap.size]? = some (.cells #[.slice none 0 0,.slice none 0 0] 33 (0,0)) :=
 ⟨_,rfl,kept_alloc _ _,by simp,heap_alloc_new _ _⟩
theorem RuS.first {w W : World} (f g : Nat → Int) (k : Kept w W) (hb : W.heap[w.heap.size]? = some (.cells #[.slice none 0 0,.slice none 0 0] 33 (0,0))) : RuS W.heap.size w.heap.size w f g 0 W :=
 ⟨⟨_,_,[],[],hb,OwnI.nil _ _,OwnI.nil _ _,fun _ => ⟨rfl,rfl⟩,fun b h => by simp [Value.ownBlock] at h⟩,k⟩
theorem jrules_c {w : World} {va vb : Value} {a b : List Int} {p : Int} (ha : InS w va a) (hb : InS w vb b) (hT : Tab w) : Calls Tryz.prog 8 #[va,vb,.int .i64 p] w (RetK (.bool true) w) := by
 have T := hid hT
 have HA := hid ha
 have HB := hid hb
 obtain ⟨A,ca,rfl,-,-⟩ := ha
 obtain ⟨B,cb,rfl,-,-⟩ := hb
 obtain ⟨bits,hbits,b1,b2⟩ := nJ_of p 20 61 (by decide) (by decide)
 have hb' : wrap64 (20 + wrap64 ((IntKind.u64.wrap p).tmod 61)) = (bits : Int) := hbits
 clear hT hbits
 go_enter Tryz.func8,Tryz.ntmps8
 by_cases ha5 : (a.length : Int) < 5
 ·go_wp2_with fail
  refine (told9_c opsR (.inr (.inr (.inr (.inl rfl)))) T.out).mono ?_
  rintro e w1 ⟨rfl,q⟩
  simp only []
  go_wp2_with fail
  go_ret
  exact ⟨rfl,q⟩
 by_cases hb5 : (b.length : Int) < 5
 ·go_wp2_with fail
  refine (told9_c opsR (.inr (.inr (.inr (.inl rfl)))) T.out).mono ?_
  rintro e w1 ⟨rfl,q⟩
  simp only []
  go_wp2_with fail
  go_ret
  exact ⟨rfl,q⟩
 go_upto_region 4 with fail
 rw [hb']
 clear hb'
 have hmk := mk2
 obtain ⟨W,hW,kW,sW,bW⟩ := box2n w
 have HW := hid hW
 have S0 := hid (RuS.first (fA a) (fB b) kW bW)
 have SW := hid sW
 clear hW kW sW bW
 go_upto_region 5 with fail
 rw [← HW.out]
 clear HW hmk
 have TLT := T.out.lt
 have A5 := hid (show 5 ≤ a.length by omega)
 have B5 := hid (show 5 ≤ b.length by omega)
 clear ha5 hb5
 generalize hbx : w.heap.size = bx at *
 have HBX := hid hbx
 generalize hBB : W.heap.size = BB at *
 clear hbx hBB
 go_wp2_with fail
 go_loopw [9] (fun vi wr => ∃ i : Nat,i ≤ 5 ∧ vi = .int .i64 i ∧ RuS BB bx w (fA a) (fB b) i wr) (fun vi _ => (5 - intOf vi).toNat)
 case atStart => exact ⟨0,by decide,rfl,S0.out⟩
 case round =>
  obtain ⟨i,hi,rfl,hst⟩ := hrel
  have S1 := hid hst
  clear hst S0
  by_cases hi5 : i < 5
  ·obtain ⟨A', ca', e1, -, hA⟩ := HA.out
   injection e1 with e1 e2 e3
   subst e1
   obtain ⟨ba,oa,rfl,ha0⟩ := hA (by have := A5.out;omega)
   obtain ⟨za,hza⟩ : ∃ z,a[i]? = some z := ⟨_,List.getElem?_eq_getElem (by have := A5.out;omega)⟩
   obtain ⟨B',cb',f1,-,hB⟩ := HB.out
   injection f1 with f1 f2 f3
   subst f1
   obtain ⟨bb,ob,rfl,hb0⟩ := hB (by have := B5.out;omega)
   obtain ⟨zb,hzb⟩ : ∃ z,b[i]? = some z := ⟨_,List.getElem?_eq_getElem (by have := B5.out;omega)⟩
   have cla := (S1.out.k.cell (p := ⟨ba,oa + i,none⟩) (lt_of_cell (ha0 i za hza))).trans (ha0 i za hza)
   have clb := (S1.out.k.cell (p := ⟨bb,ob + i,none⟩) (lt_of_cell (hb0 i zb hzb))).trans (hb0 i zb hzb)
   have CLB := hid clb
   have hka : kzJ 33 16 za = fA a i := by unfold fA;rw [List.getD_eq_getElem?_getD,hza];rfl
   have hk1 := (kzJ_eq za (m := 33) (c := 16) (by decide) (by decide) (by decide) (by decide)).1.trans hka
   obtain ⟨hk2,hk3,hk4⟩ := kzJ_eq zb (m := 33) (c := 16) (by decide) (by decide) (by decide) (by decide)
   have FB0 := hid (show i = 0 → wrap64 (8 + wrap64 ((IntKind.u64.wrap zb).tmod 9)) = fB b i by
    intro h0
    subst h0
    rw [(r9 zb).1]
    unfold fB
    rw [if_pos rfl,List.getD_eq_getElem?_getD,hzb];rfl)
   have FB1 := hid (show i ≠ 0 → kzJ 33 16 zb = fB b i by
    intro h0
    unfold fB
    rw [if_neg h0,List.getD_eq_getElem?_getD,hzb];rfl)
   obtain ⟨du,hdu⟩ : ∃ d,d = dyz (fA a i) (-3) := ⟨_,rfl⟩
   obtain ⟨dz,hdz⟩ : ∃ d,d = dyz (kzJ 33 16 zb) (-3) := ⟨_,rfl⟩
   obtain ⟨dv,hdv⟩ : ∃ d,d = dyz (fB b i) (-3) := ⟨_,rfl⟩
   have OU := hid (fun w1 (k : Kept w w1) => show Calls Tryz.prog 13 #[.int .i64 (fA a i),.int .i64 (-3)] w1 (RetE ⟨du.raw,0⟩ w1) by rw [hdu];exact dof_zJ (by have := fA_b a i;omega) (by decide) (by decide) (T.out.kept k))
   have OZ := hid (fun w1 (k : Kept w w1) => show Calls Tryz.prog 13 #[.int .i64 (kzJ 33 16 zb),.int .i64 (-3)] w1 (RetE ⟨dz.raw,0⟩ w1) by rw [hdz];exact dof_zJ (by omega) (by decide) (by decide) (T.out.kept k))
   have OV := hid (fun w1 (k : Kept w w1) => show Calls Tryz.prog 13 #[.int .i64 (fB b i),.int .i64 (-3)] w1 (RetE ⟨dv.raw,0⟩ w1) by rw [hdv];exact dof_zJ (by have := fB_b b i;omega) (by decide) (by decide) (T.out.kept k))
   have DU := hid hdu
   have DV := hid hdv
   have DZ := hid (show i ≠ 0 → dz = dv by intro h0;rw [hdz,hdv,FB1.out h0])
   have HI5 := hid hi5
   have hia : i < a.length := by have := A5.out;omega
   have hib : i < b.length := by have := B5.out;omega
   clear hA hB ha0 hb0 hza hzb hka hk3 hk4 hdu hdz hdv e2 e3 f2 f3 FB1
   go_wp2_with fail
   rw [hk1]
   refine (OU.out _ S1.out.k).mono ?_
   rintro e w1 ⟨q1,u1,rfl,hd1⟩
   obtain ⟨P1,l1,d1,rfl,hd1⟩ := dyR_split hd1
   simp only []
   obtain ⟨V1,hV1,kV1,hb1,lV1⟩ := boxD w1 (.bool du.neg) (.slice P1 l1 d1) (.int .i64 du.e)
   have HV := hid hV1
   have Q1 := hid (q1.trans kV1)
   have BU := hid hb1
   have RU := hid (hd1.kept kV1)
   have N1 := hid (show wr.heap.size ≤ w1.heap.size from q1.size)
   have clb1 := (Q1.out.cell (p := ⟨bb,ob + i,none⟩) (lt_of_cell CLB.out)).trans CLB.out
   clear hV1 hb1 hd1 q1 kV1 cla clb hk1
   go_upto_region 9 with fail
   rw [← HV.out]
   clear HV
   generalize w1.heap.size = n1 at *
   go_wp2_with fail
   refine (OZ.out _ (S1.out.k.trans Q1.out)).mono ?_
   rintro e w2 ⟨q2,u2,rfl,hd2⟩
   obtain ⟨P2,l2,d2,rfl,hd2⟩ := dyR_split hd2
   simp only []
   obtain ⟨V2,hV2,kV2,hb2,lV2⟩ := boxD w2 (.bool dz.neg) (.slice P2 l2 d2) (.int .i64 dz.e)
   have HV := hid hV2
   have Q2 := hid (Q1.out.trans (q2.trans kV2))
   have BZ := hid hb2
   have RZ := hid (hd2.kept kV2)
   have N2 := hid (show n1 < w2.heap.size from Nat.lt_of_lt_of_le BU.out.facts.1 q2.size)
   replace BU := hid (BU.out.kept (q2.trans kV2))
   replace RU := hid (RU.out.kept (q2.trans kV2))
   have clb2 := (Q2.out.cell (p := ⟨bb,ob + i,none⟩) (lt_of_cell CLB.out)).trans CLB.out
   clear hV2 hb2 hd2 q2 kV2 lV2 lV1 clb1 Q1
   go_upto_region 10 with fail
   rw [← HV.out]
   clear HV
   generalize w2.heap.size = n2 at *
   go_upto_if 68 with fail
   go_cut [13] (fun t wx => t = .int .i64 0 ∧ Kept wr wx ∧ Blk wx n1 (.bool du.neg) (.slice P1 l1 d1) (.int .i64 du.e) ∧ DyR wx (.agg #[.bool du.neg,.slice P1 l1 d1,.int .i64 du.e]) du.raw ∧
    ∃ P l c,Blk wx n2 (.bool dv.neg) (.slice P l c) (.int .i64 dv.e) ∧ DyR wx (.agg #[.bool dv.neg,.slice P l c,.int .i64 dv.e]) dv.raw)
   case first =>
    by_cases h0 : i = 0
    ·have fb := FB0.out h0
     subst h0
     rw [Nat.add_zero] at clb2
     go_wp2_with fail
     refine (OV.out _ (S1.out.k.trans Q2.out)).mono ?_
     rintro e w3 ⟨q3,u3,rfl,hd3⟩
     obtain ⟨P3,l3,d3,rfl,hd3⟩ := dyR_split hd3
     simp only []
     have hz3 := BZ.out.kept q3
     obtain ⟨-,a0,a1,a2,f0,f1,f2⟩ := hz3.facts
     have R := hid (show Kept wr (dyW w3 n2 (.bool dv.neg) (.slice P3 l3 d3) (.int .i64 dv.e)) ∧ Blk (dyW w3 n2 (.bool dv.neg) (.slice P3 l3 d3) (.int .i64 dv.e)) n1 (.bool du.neg) (.slice P1 l1 d1) (.int .i64 du.e) ∧ DyR (dyW w3 n2 (.bool dv.neg) (.slice P3 l3 d3) (.int .i64 dv.e)) (.agg #[.bool du.neg,.slice P1 l1 d1,.int .i64 du.e]) du.raw ∧
      ∃ P l c,Blk (dyW w3 n2 (.bool dv.neg) (.slice P3 l3 d3) (.int .i64 dv.e)) n2 (.bool dv.neg) (.slice P l c) (.int .i64 dv.e) ∧ DyR (dyW w3 n2 (.bool dv.neg) (.slice P3 l3 d3) (.int .i64 dv.e)) (.agg #[.bool dv.neg,.slice P l c,.int .i64 dv.e]) dv.raw from
      ⟨dyW_kept (Q2.out.trans q3) (by have := N1.out;have := N2.out;omega),(BU.out.kept q3).laid_other (show ¬ n1 = n2 by have := N2.out;omega) _ _ _,(RU.out.kept q3).dyW hz3 (noLimb_bool _) (noLimb_slice _ _ _) (noLimb_i64 _) _ _ _,P3,l3,d3,hz3.laid _ _ _,hd3.dyW hz3 (noLimb_bool _) (noLimb_slice _ _ _) (noLimb_i64 _) _ _ _⟩)
     clear hd3 hz3 q3
     go_wp2_with fail
     go_meet
     exact ⟨rfl,R.out⟩
    ·have hdd := DZ.out h0
     rw [hdd] at BZ RZ
     go_wp2_with fail
     go_meet
     exact ⟨rfl,Q2.out,BU.out,RU.out,P2,l2,d2,BZ.out,RZ.out⟩
   obtain ⟨rfl,kc,hbu,hru,P3,l3,d3,hbv,hrv⟩ := hcut
   have S2 := hid (S1.out.kept kc)
   obtain ⟨v0,v1,xs0,xs1,hboxr,ho0r,ho1r,hnil,hap⟩ := S1.out.box
   have blr : ∀ (v : Value) (l : List RawI) (xs : List Value),OwnI wr BB v l xs → ∀ g,v.ownBlock = some g → g < wr.heap.size := fun v l xs h g hg => by
    obtain ⟨cr,e,q1,-⟩ := h.blk g hg
    exact (Array.getElem?_eq_some_iff.1 q1).1
   have NU : n1 ∉ bx :: (ownB v0 ++ ownB v1) ∧ n2 ∉ bx :: (ownB v0 ++ ownB v1) := by
    have h1 := N1.out
    have h2 := N2.out
    have h3 := (Array.getElem?_eq_some_iff.1 hboxr).1
    simp only [List.mem_cons,List.mem_append,mem_ownB,not_or]
    refine ⟨⟨by omega,fun e => ?_,fun e => ?_⟩,⟨by omega,fun e => ?_,fun e => ?_⟩⟩
    ·have := blr _ _ _ ho0r _ e;omega
    ·have := blr _ _ _ ho1r _ e;omega
    ·have := blr _ _ _ ho0r _ e;omega
    ·have := blr _ _ _ ho1r _ e;omega
   obtain ⟨NU,NV⟩ := NU
   have hbox := blk_kept hboxr kc
   have ho0 := ho0r.kept kc
   have ho1 := ho1r.kept kc
   have BUc := hid hbu
   have RUc := hid hru
   have BVc := hid hbv
   have RVc := hid hrv
   clear kc hbu hru hbv hrv S1 BU RU BZ RZ Q2 clb2 OU OZ OV DZ FB0 CLB hib hia hi5 hboxr ho0r ho1r blr
   have sc : ∀ (v : Value) (l : List RawI) (xs : List Value),OwnI wc BB v l xs → SlC v := fun v l xs h => by
    obtain ⟨A9,c9,e9,-⟩ := h.ivS
    exact ⟨_,_,_,e9⟩
   obtain ⟨A0,n0',c0',rfl⟩ := sc _ _ _ ho0
   obtain ⟨A9,n9',c9',rfl⟩ := sc _ _ _ ho1
   have blt : ∀ (v : Value) (l : List RawI) (xs : List Value),OwnI wc BB v l xs → ∀ g,v.ownBlock = some g → g < wc.heap.size := fun v l xs h g hg => by
    obtain ⟨cr,e,q1,-⟩ := h.blk g hg
    exact (Array.getElem?_eq_some_iff.1 q1).1
   have L0 := hid (blt _ _ _ ho0)
   have L1' := hid (blt _ _ _ ho1)
   have G0 := hid (fun g hg => ho0.base g hg)
   have G1 := hid (fun g hg => ho1.base g hg)
   have HBOX := hid hbox
   have HO0 := hid ho0
   have HO1 := hid ho1
   have NIL := hid hnil
   have HAP := hid hap
   have HAP' : Hid (∀ g,(Value.slice A9 n9' c9').ownBlock = some g → (Value.slice A0 n0' c0').ownBlock ≠ some g) := hid (fun g hg e => hap g e hg)
   have LEN := hid (rowP_len (fA a) i)
   have LEN' := hid (rowP_len (fB b) i)
   have BLT : bx < BB := by have := SW.out;omega
   have SZ := hid (show BB ≤ wc.heap.size by have := S2.out.k.size;have := (Array.getElem?_eq_some_iff.1 hbox).1;have := SW.out;omega)
   have LN0 := hid (show rowP (fA a) i = [] → Value.slice A0 n0' c0' = .slice none 0 0 from fun e => (hnil (by have := rowP_len (fA a) i;rw [e] at this;simpa using this.symm)).1)
   have LN1 := hid (show rowP (fB b) i = [] → Value.slice A9 n9' c9' = .slice none 0 0 from fun e => (hnil (by have := rowP_len (fB b) i;rw [e] at this;simpa using this.symm)).2)
   have L9 := hid (show (rowP (fA a) i).length ≤ 1000 ∧ (rowP (fB b) i).length ≤ 1000 by rw [rowP_len,rowP_len];have := HI5.out;omega)
   have SN1 := hid (rowP_snoc (fA a) i)
   have SN2 := hid (rowP_snoc (fB b) i)
   rw [← DU.out] at SN1
   rw [← DV.out] at SN2
   generalize hra : rowP (fA a) (i + 1) = ra' at *
   generalize hrb : rowP (fB b) (i + 1) = rb' at *
   have HRA := hid hra
   have HRB := hid hrb
   clear hra hrb
   generalize rowP (fA a) i = ra at *
   generalize rowP (fB b) i = rb at *
   clear hbox ho0 ho1 hnil hap sc blt
   go_wp2_with fail
   refine region_linY (m := 20) (E := fun i => i == 8 || i == 15 || i == 17 || i == 19) (G := fun L u w' => RuG bx L u w') (J := fun L w => KB wc (bx :: (ownB (.slice A0 n0' c0') ++ ownB (.slice A9 n9' c9'))) w ∧ (fun L w' => RuJ BB bx (.slice A0 n0' c0') (.slice A9 n9' c9') ra rb xs0 xs1 (L 4) (L 8) (L 11) (L 15) (L 17) (L 19) w') L w) (l := [
    (vE (.slice (some ⟨bx,0,none⟩) 2 2)),
    (vE (.slice (some ⟨bx,0,none⟩) 2 2)),
    (vE (.slice (some ⟨bx,0,none⟩) 2 2)),
    (vP bx 0),
    (vE (.slice A0 n0' c0')),
    (vE (.agg #[.bool du.neg,.slice P1 l1 d1,.int .i64 du.e])),
    (fun v wv => IvR wv v ((pt du).raw)),
    (fun v wv => OneI wv v (pt du).raw),
    (fun v wv => RuV BB wc.heap.size (.slice A0 n0' c0') ra' v wv),
    (vE (.slice (some ⟨bx,0,none⟩) 2 2)),
    (vP bx 1),
    (vE (.slice A9 n9' c9')),
    (vE (.agg #[.bool dv.neg,.slice P3 l3 d3,.int .i64 dv.e])),
    (fun v wv => IvR wv v ((pt dv).raw)),
    (fun v wv => OneI wv v (pt dv).raw),
    (fun v wv => RuV BB wc.heap.size (.slice A9 n9' c9') rb' v wv),
    (vP bx 0),
    (fun v _ => True),
    (vP bx 1),
    (fun v _ => True)])
    (by kernel_rfl) (fun i hE L u v w w' k h => by exact RuG.keep hE k h) (by exact ⟨fun e => (by cases e),fun e => (by cases e),fun e => (by cases e)⟩) rfl (by kernel_rfl) (by kernel_rfl) (by kernel_rfl) ⟨mE,mE,mE,mE,mE,mE,fun v w w' k h => by first | exact h | exact h.kept k | exact ⟨h.1,h.2.kept k⟩,fun v w w' k h => h.kept k,fun v w w' k h => h.kept k,mE,mE,mE,mE,fun v w w' k h => by first | exact h | exact h.kept k | exact ⟨h.1,h.2.kept k⟩,fun v w w' k h => h.kept k,fun v w w' k h => h.kept k,mE,fun v w w' k h => by first | exact h | exact h.kept k | exact ⟨h.1,h.2.kept k⟩,mE,fun v w w' k h => by first | exact h | exact h.kept k | exact ⟨h.1,h.2.kept k⟩,trivial⟩ ⟨(KB.refl _ _).drew,(by exact ⟨fun _ => HO0.out.kept (Below.refl _ _).drew,fun _ => HO1.out.kept (Below.refl _ _).drew,_,_,HBOX.out,⟨_,_,_,rfl⟩,⟨_,_,_,rfl⟩,fun _ => rfl,fun _ => rfl,fun e => (by cases e),fun e => (by cases e)⟩)⟩ (⟨
      (.inl ⟨rfl,fun LF aF wF F => by
    have FK : KB wc (bx :: (ownB (.slice A0 n0' c0') ++ ownB (.slice A9 n9' c9'))) wF := F.frame.1
    have fj := F.frame.2
    refine ⟨fun wq kq => ⟨FK.step kq,by first | exact RuJ.kept kq fj | exact RuJ.seen4 kq fj | exact RuJ.seen11 kq fj⟩,?_⟩
    have s8 : aF.tmps.getD 8 undef = (.slice (some ⟨bx,0,none⟩) 2 2) := F.o 8
    exact sv rfl⟩),
     (.inl ⟨rfl,fun LF aF wF F => by
    have FK : KB wc (bx :: (ownB (.slice A0 n0' c0') ++ ownB (.slice A9 n9' c9'))) wF := F.frame.1
    have fj := F.frame.2
    refine ⟨fun wq kq => ⟨FK.step kq,by first | exact RuJ.kept kq fj | exact RuJ.seen4 kq fj | exact RuJ.seen11 kq fj⟩,?_⟩
    have s8 : aF.tmps.getD 8 undef = (.slice (some ⟨bx,0,none⟩) 2 2) := F.o 8
    exact sv rfl⟩),
     (.inl ⟨rfl,fun LF aF wF F => by
    have FK : KB wc (bx :: (ownB (.slice A0 n0' c0') ++ ownB (.slice A9 n9' c9'))) wF := F.frame.1
    have fj := F.frame.2
    refine ⟨fun wq kq => ⟨FK.step kq,by first | exact RuJ.kept kq fj | exact RuJ.seen4 kq fj | exact RuJ.seen11 kq fj⟩,?_⟩
    have s8 : aF.tmps.getD 8 undef = (.slice (some ⟨bx,0,none⟩) 2 2) := F.o 8
    exact sv rfl⟩),
     (.inl ⟨rfl,fun LF aF wF F => by
    have FK : KB wc (bx :: (ownB (.slice A0 n0' c0') ++ ownB (.slice A9 n9' c9'))) wF := F.frame.1
    have fj := F.frame.2
    refine ⟨fun wq kq => ⟨FK.step kq,by first | exact RuJ.kept kq fj | exact RuJ.seen4 kq fj | exact RuJ.seen11 kq fj⟩,?_⟩
    have s89 := F.v 2 89
    exact sv rfl⟩),
     (.inl ⟨rfl,fun LF aF wF F => by
    have FK : KB wc (bx :: (ownB (.slice A0 n0' c0') ++ ownB (.slice A9 n9' c9'))) wF := F.frame.1
    have fj := F.frame.2
    refine ⟨fun wq kq => ⟨FK.step kq,by first | exact RuJ.kept kq fj | exact RuJ.seen4 kq fj | exact RuJ.seen11 kq fj⟩,?_⟩
    have s90 := F.v 3 90
    exact step_val (by simp [Region.wanted]) (by (have hq := RuJ.at0 fj (.inl F.yet);go_simp)) rfl⟩),
     (.inl ⟨rfl,fun LF aF wF F => by
    have FK : KB wc (bx :: (ownB (.slice A0 n0' c0') ++ ownB (.slice A9 n9' c9'))) wF := F.frame.1
    have fj := F.frame.2
    refine ⟨fun wq kq => ⟨FK.step kq,by first | exact RuJ.kept kq fj | exact RuJ.seen4 kq fj | exact RuJ.seen11 kq fj⟩,?_⟩
    have s10 : aF.tmps.getD 10 undef = (.pointer (some ⟨n1,0,none⟩)) := F.o 10
    have c0 := cell_atX BUc.out FK NU 0 _ rfl
    have c1 := cell_atX BUc.out FK NU 1 _ rfl
    have c2 := cell_atX BUc.out FK NU 2 _ rfl
    exact sv rfl⟩),
     (.inl ⟨rfl,fun LF aF wF F => by
    have FK : KB wc (bx :: (ownB (.slice A0 n0' c0') ++ ownB (.slice A9 n9' c9'))) wF := F.frame.1
    have fj := F.frame.2
    refine ⟨fun wq kq => ⟨FK.step kq,by first | exact RuJ.kept kq fj | exact RuJ.seen4 kq fj | exact RuJ.seen11 kq fj⟩,?_⟩
    have s92 := F.v 5 92
    exact step_good (by simp [Region.wanted]) (by go_simp) (iof_c (RUc.out.kb FK)) (fun _ _ h => RetI.good h) (fun _ _ h => h)⟩),
     (.inl ⟨rfl,fun LF aF wF F => by
    have FK : KB wc (bx :: (ownB (.slice A0 n0' c0') ++ ownB (.slice A9 n9' c9'))) wF := F.frame.1
    have fj := F.frame.2
    refine ⟨fun wq kq => ⟨FK.step kq,by first | exact RuJ.kept kq fj | exact RuJ.seen4 kq fj | exact RuJ.seen11 kq fj⟩,?_⟩
    have s93 := F.p 6 93
    obtain ⟨A1,a1,e1,A2,a2,e2,ee,v1',v2'⟩ := ivR_split s93;simp only [Array.getD_eq_getD_getElem?] at ee;exact step_new (by simp [Region.wanted]) (by first | (go_simp;done) | (go_simp;rfl)) (kept_alloc _ _) (oneI_new (r := (pt du).raw) ⟨_,_,_,_,_,_,rfl,v1',v2'⟩)⟩),
     (.inr fun LF uF aF wF F FV => by
    have FK : KB wc (bx :: (ownB (.slice A0 n0' c0') ++ ownB (.slice A9 n9' c9'))) wF := F.frame.1
    have fj := F.frame.2
    have s91 := F.v 4 91
    have s94 := F.p 7 94
    obtain ⟨b3,y0,y1,y2,y3,y4,y5,e3,hb3,hd3⟩ := s94;have how := RuJ.own0 fj F.yet;obtain ⟨v',w',g',hrr,hoo,hgg,hsm,hob,hwh,hlt⟩ := app_iv2 33 how LN0.out L9.out.1 (Nat.le_trans SZ.out FK.size) hb3 hd3;rw [← SN1.out] at hoo;exact stepGU_set (by simp [Region.wanted]) (exec_appJ (.tmp 91) (.tmp 94) _ rfl s91 e3 hrr) ⟨FK.grown hgg (fun g hg => .inl (List.mem_cons_of_mem _ (List.mem_append_left _ (mem_ownB.2 hg)))) how.blk,RuJ.app0 fj hgg how.blk hsm HAP.out⟩ (stab_of _ ⟨.inr vS,.inr vS,.inr vS,.inr vS,.inr vS,.inr vS,.inr (fun u h => by first | exact h.grown hgg how.blk | exact OneI.app h hgg how.blk hsm | exact RuV.app h hgg how.blk HAP.out L0.out),.inr (fun u h => by first | exact h.grown hgg how.blk | exact OneI.app h hgg how.blk hsm | exact RuV.app h hgg how.blk HAP.out L0.out),.inl rfl,.inr vS,.inr vS,.inr vS,.inr vS,.inr (fun u h => by first | exact h.grown hgg how.blk | exact OneI.app h hgg how.blk hsm | exact RuV.app h hgg how.blk HAP.out L0.out),.inr (fun u h => by first | exact h.grown hgg how.blk | exact OneI.app h hgg how.blk hsm | exact RuV.app h hgg how.blk HAP.out L0.out),.inr (fun u h => by first | exact h.grown hgg how.blk | exact OneI.app h hgg how.blk hsm | exact RuV.app h hgg how.blk HAP.out L0.out),.inr vS,.inr (fun u h => h),.inr vS,.inr (fun u h => h),trivial⟩) ⟨_,g',hoo,hob,hwh.imp id (fun h => Nat.le_trans FK.size h),hlt⟩ (RuG.put8 FV.g (RuJ.no17 fj F.yet) (fun h15 => RuV.ne (show RuV BB wc.heap.size (.slice A9 n9' c9') rb' (uF 15) wF from FV.is 15 (by decide) h15) hob hwh HAP.out L0.out) (RuJ.cells fj hsm 1))),
     (.inl ⟨rfl,fun LF aF wF F => by
    have FK : KB wc (bx :: (ownB (.slice A0 n0' c0') ++ ownB (.slice A9 n9' c9'))) wF := F.frame.1
    have fj := F.frame.2
    refine ⟨fun wq kq => ⟨FK.step kq,by first | exact RuJ.kept kq fj | exact RuJ.seen4 kq fj | exact RuJ.seen11 kq fj⟩,?_⟩
    have s8 : aF.tmps.getD 8 undef = (.slice (some ⟨bx,0,none⟩) 2 2) := F.o 8
    exact sv rfl⟩),
     (.inl ⟨rfl,fun LF aF wF F => by
    have FK : KB wc (bx :: (ownB (.slice A0 n0' c0') ++ ownB (.slice A9 n9' c9'))) wF := F.frame.1
    have fj := F.frame.2
    refine ⟨fun wq kq => ⟨FK.step kq,by first | exact RuJ.kept kq fj | exact RuJ.seen4 kq fj | exact RuJ.seen11 kq fj⟩,?_⟩
    have s96 := F.v 9 96
    exact sv rfl⟩),
     (.inl ⟨rfl,fun LF aF wF F => by
    have FK : KB wc (bx :: (ownB (.slice A0 n0' c0') ++ ownB (.slice A9 n9' c9'))) wF := F.frame.1
    have fj := F.frame.2
    refine ⟨fun wq kq => ⟨FK.step kq,by first | exact RuJ.kept kq fj | exact RuJ.seen4 kq fj | exact RuJ.seen11 kq fj⟩,?_⟩
    have s97 := F.v 10 97
    exact step_val (by simp [Region.wanted]) (by (have hq := RuJ.at1 fj (.inl F.yet);go_simp)) rfl⟩),
     (.inl ⟨rfl,fun LF aF wF F => by
    have FK : KB wc (bx :: (ownB (.slice A0 n0' c0') ++ ownB (.slice A9 n9' c9'))) wF := F.frame.1
    have fj := F.frame.2
    refine ⟨fun wq kq => ⟨FK.step kq,by first | exact RuJ.kept kq fj | exact RuJ.seen4 kq fj | exact RuJ.seen11 kq fj⟩,?_⟩
    have s12 : aF.tmps.getD 12 undef = (.pointer (some ⟨n2,0,none⟩)) := F.o 12
    have c0 := cell_atX BVc.out FK NV 0 _ rfl
    have c1 := cell_atX BVc.out FK NV 1 _ rfl
    have c2 := cell_atX BVc.out FK NV 2 _ rfl
    exact sv rfl⟩),
     (.inl ⟨rfl,fun LF aF wF F => by
    have FK : KB wc (bx :: (ownB (.slice A0 n0' c0') ++ ownB (.slice A9 n9' c9'))) wF := F.frame.1
    have fj := F.frame.2
    refine ⟨fun wq kq => ⟨FK.step kq,by first | exact RuJ.kept kq fj | exact RuJ.seen4 kq fj | exact RuJ.seen11 kq fj⟩,?_⟩
    have s99 := F.v 12 99
    exact step_good (by simp [Region.wanted]) (by go_simp) (iof_c (RVc.out.kb FK)) (fun _ _ h => RetI.good h) (fun _ _ h => h)⟩),
     (.inl ⟨rfl,fun LF aF wF F => by
    have FK : KB wc (bx :: (ownB (.slice A0 n0' c0') ++ ownB (.slice A9 n9' c9'))) wF := F.frame.1
    have fj := F.frame.2
    refine ⟨fun wq kq => ⟨FK.step kq,by first | exact RuJ.kept kq fj | exact RuJ.seen4 kq fj | exact RuJ.seen11 kq fj⟩,?_⟩
    have s100 := F.p 13 100
    obtain ⟨A1,a1,e1,A2,a2,e2,ee,v1',v2'⟩ := ivR_split s100;simp only [Array.getD_eq_getD_getElem?] at ee;exact step_new (by simp [Region.wanted]) (by first | (go_simp;done) | (go_simp;rfl)) (kept_alloc _ _) (oneI_new (r := (pt dv).raw) ⟨_,_,_,_,_,_,rfl,v1',v2'⟩)⟩),
     (.inr fun LF uF aF wF F FV => by
    have FK : KB wc (bx :: (ownB (.slice A0 n0' c0') ++ ownB (.slice A9 n9' c9'))) wF := F.frame.1
    have fj := F.frame.2
    have s98 := F.v 11 98
    have s101 := F.p 14 101
    obtain ⟨b3,y0,y1,y2,y3,y4,y5,e3,hb3,hd3⟩ := s101;have how := RuJ.own1 fj F.yet;obtain ⟨v',w',g',hrr,hoo,hgg,hsm,hob,hwh,hlt⟩ := app_iv2 33 how LN1.out L9.out.2 (Nat.le_trans SZ.out FK.size) hb3 hd3;rw [← SN2.out] at hoo;exact stepGU_set (by simp [Region.wanted]) (exec_appJ (.tmp 98) (.tmp 101) _ rfl s98 e3 hrr) ⟨FK.grown hgg (fun g hg => .inl (List.mem_cons_of_mem _ (List.mem_append_right _ (mem_ownB.2 hg)))) how.blk,RuJ.app1 fj hgg how.blk hsm HAP.out⟩ (stab_of _ ⟨.inr vS,.inr vS,.inr vS,.inr vS,.inr vS,.inr vS,.inr (fun u h => by first | exact h.grown hgg how.blk | exact OneI.app h hgg how.blk hsm | exact RuV.app h hgg how.blk HAP'.out L1'.out),.inr (fun u h => by first | exact h.grown hgg how.blk | exact OneI.app h hgg how.blk hsm | exact RuV.app h hgg how.blk HAP'.out L1'.out),.inr (fun u h => by first | exact h.grown hgg how.blk | exact OneI.app h hgg how.blk hsm | exact RuV.app h hgg how.blk HAP'.out L1'.out),.inr vS,.inr vS,.inr vS,.inr vS,.inr (fun u h => by first | exact h.grown hgg how.blk | exact OneI.app h hgg how.blk hsm | exact RuV.app h hgg how.blk HAP'.out L1'.out),.inr (fun u h => by first | exact h.grown hgg how.blk | exact OneI.app h hgg how.blk hsm | exact RuV.app h hgg how.blk HAP'.out L1'.out),.inl rfl,.inr vS,.inr (fun u h => h),.inr vS,.inr (fun u h => h),trivial⟩) ⟨_,g',hoo,hob,hwh.imp id (fun h => Nat.le_trans FK.size h),hlt⟩ (RuG.put15 FV.g (RuJ.no19 fj F.yet) (fun h8 => RuV.ne (show RuV BB wc.heap.size (.slice A0 n0' c0') ra' (uF 8) wF from FV.is 8 (by decide) h8) hob hwh HAP'.out L1'.out) (RuJ.cells fj hsm 0))),
     (.inl ⟨rfl,fun LF aF wF F => by
    have FK : KB wc (bx :: (ownB (.slice A0 n0' c0') ++ ownB (.slice A9 n9' c9'))) wF := F.frame.1
    have fj := F.frame.2
    refine ⟨fun wq kq => ⟨FK.step kq,by first | exact RuJ.kept kq fj | exact RuJ.seen4 kq fj | exact RuJ.seen11 kq fj⟩,?_⟩
    have s87 := F.v 0 87
    exact sv rfl⟩),
     (.inr fun LF uF aF wF F FV => by
    have FK : KB wc (bx :: (ownB (.slice A0 n0' c0') ++ ownB (.slice A9 n9' c9'))) wF := F.frame.1
    have fj := F.frame.2
    have s95 := F.p 8 95
    have s103 := F.v 16 103
    obtain ⟨xs',g8,ho8,hob8,-,-⟩ := s95;obtain ⟨A8,c8,e8,-⟩ := ho8.ivS;have e8s := e8;simp only [Array.getD_eq_getD_getElem?] at e8;obtain ⟨c0,c1,hbq,s0,s1⟩ := RuJ.box fj;have cb := cell_of_block hbq 0 _ rfl;have fb := free_of_block hbq 0;exact stepGU_store (w' := wF.setCell ⟨bx,0,none⟩ (.slice A8 ra'.length c8)) (by simp [Region.wanted]) (by go_simp) ⟨FK.setCell (by simp) cb s0.nl _,RuJ.set0 fj BLT (F.wait 4 (by kernel_rfl)) (F.wait 8 (by kernel_rfl)) ⟨_,_,_,rfl⟩⟩ (stab_of _ ⟨.inr vS,.inr vS,.inr vS,.inr vS,.inr vS,.inr vS,.inr (fun u h => by first | exact h.kb ((KB.refl wF [bx]).setCell (by simp) cb s0.nl _) | exact OneI.setx h hbq (i := 0) rfl s0.nl | exact RuV.setx h BLT hbq (i := 0) rfl s0.nl),.inr (fun u h => by first | exact h.kb ((KB.refl wF [bx]).setCell (by simp) cb s0.nl _) | exact OneI.setx h hbq (i := 0) rfl s0.nl | exact RuV.setx h BLT hbq (i := 0) rfl s0.nl),.inr (fun u h => by first | exact h.kb ((KB.refl wF [bx]).setCell (by simp) cb s0.nl _) | exact OneI.setx h hbq (i := 0) rfl s0.nl | exact RuV.setx h BLT hbq (i := 0) rfl s0.nl),.inr vS,.inr vS,.inr vS,.inr vS,.inr (fun u h => by first | exact h.kb ((KB.refl wF [bx]).setCell (by simp) cb s0.nl _) | exact OneI.setx h hbq (i := 0) rfl s0.nl | exact RuV.setx h BLT hbq (i := 0) rfl s0.nl),.inr (fun u h => by first | exact h.kb ((KB.refl wF [bx]).setCell (by simp) cb s0.nl _) | exact OneI.setx h hbq (i := 0) rfl s0.nl | exact RuV.setx h BLT hbq (i := 0) rfl s0.nl),.inr (fun u h => by first | exact h.kb ((KB.refl wF [bx]).setCell (by simp) cb s0.nl _) | exact OneI.setx h hbq (i := 0) rfl s0.nl | exact RuV.setx h BLT hbq (i := 0) rfl s0.nl),.inr vS,.inl rfl,.inr vS,.inr (fun u h => h),trivial⟩) trivial (RuG.put17 FV.g ((cell_eq hbq (by simp) _).trans (congrArg some (e8s.symm.trans (FV.eq 8 95 (by kernel_rfl) rfl)))) (fun x hx => cell_ne (by decide) hx))),
     (.inl ⟨rfl,fun LF aF wF F => by
    have FK : KB wc (bx :: (ownB (.slice A0 n0' c0') ++ ownB (.slice A9 n9' c9'))) wF := F.frame.1
    have fj := F.frame.2
    refine ⟨fun wq kq => ⟨FK.step kq,by first | exact RuJ.kept kq fj | exact RuJ.seen4 kq fj | exact RuJ.seen11 kq fj⟩,?_⟩
    have s88 := F.v 1 88
    exact sv rfl⟩),
     (.inr fun LF uF aF wF F FV => by
    have FK : KB wc (bx :: (ownB (.slice A0 n0' c0') ++ ownB (.slice A9 n9' c9'))) wF := F.frame.1
    have fj := F.frame.2
    have s102 := F.p 15 102
    have s104 := F.v 18 104
    obtain ⟨xs',g8,ho8,hob8,-,-⟩ := s102;obtain ⟨A8,c8,e8,-⟩ := ho8.ivS;have e8s := e8;simp only [Array.getD_eq_getD_getElem?] at e8;obtain ⟨c0,c1,hbq,s0,s1⟩ := RuJ.box fj;have cb := cell_of_block hbq 1 _ rfl;have fb := free_of_block hbq 1;exact stepGU_store (w' := wF.setCell ⟨bx,1,none⟩ (.slice A8 rb'.length c8)) (by simp [Region.wanted]) (by go_simp) ⟨FK.setCell (by simp) cb s1.nl _,RuJ.set1 fj BLT (F.wait 11 (by kernel_rfl)) (F.wait 15 (by kernel_rfl)) ⟨_,_,_,rfl⟩⟩ (stab_of _ ⟨.inr vS,.inr vS,.inr vS,.inr vS,.inr vS,.inr vS,.inr (fun u h => by first | exact h.kb ((KB.refl wF [bx]).setCell (by simp) cb s1.nl _) | exact OneI.setx h hbq (i := 1) rfl s1.nl | exact RuV.setx h BLT hbq (i := 1) rfl s1.nl),.inr (fun u h => by first | exact h.kb ((KB.refl wF [bx]).setCell (by simp) cb s1.nl _) | exact OneI.setx h hbq (i := 1) rfl s1.nl | exact RuV.setx h BLT hbq (i := 1) rfl s1.nl),.inr (fun u h => by first | exact h.kb ((KB.refl wF [bx]).setCell (by simp) cb s1.nl _) | exact OneI.setx h hbq (i := 1) rfl s1.nl | exact RuV.setx h BLT hbq (i := 1) rfl s1.nl),.inr vS,.inr vS,.inr vS,.inr vS,.inr (fun u h => by first | exact h.kb ((KB.refl wF [bx]).setCell (by simp) cb s1.nl _) | exact OneI.setx h hbq (i := 1) rfl s1.nl | exact RuV.setx h BLT hbq (i := 1) rfl s1.nl),.inr (fun u h => by first | exact h.kb ((KB.refl wF [bx]).setCell (by simp) cb s1.nl _) | exact OneI.setx h hbq (i := 1) rfl s1.nl | exact RuV.setx h BLT hbq (i := 1) rfl s1.nl),.inr (fun u h => by first | exact h.kb ((KB.refl wF [bx]).setCell (by simp) cb s1.nl _) | exact OneI.setx h hbq (i := 1) rfl s1.nl | exact RuV.setx h BLT hbq (i := 1) rfl s1.nl),.inr vS,.inr (fun u h => h),.inr vS,.inl rfl,trivial⟩) trivial (RuG.put19 FV.g ((cell_eq hbq (by simp) _).trans (congrArg some (e8s.symm.trans (FV.eq 15 102 (by kernel_rfl) rfl)))) (fun x hx => cell_ne (by decide) hx))),
     trivial⟩) ?_
   intro u w5 L1 hL j1 hu hg
   obtain ⟨hg1,hg2,hg3⟩ := hg
   obtain ⟨q5,j1⟩ := j1
   have p93 := hp hu 6
   have p94 := hp hu 7
   have p95 := hp hu 8
   have p100 := hp hu 13
   have p101 := hp hu 14
   have p102 := hp hu 15
   simp only [puts,slotOf,if_true,Act.put,z1,z2,z3,z4,z5,z6,z7,hv hu 0,hv hu 1,hv hu 2,hv hu 3,hv hu 4,hv hu 5,hv hu 9,hv hu 10,hv hu 11,hv hu 12,hv hu 16,hv hu 18]
   clear hu
   generalize u 6 = v93 at *
   generalize u 7 = v94 at *
   generalize u 8 = v95 at *
   generalize u 13 = v100 at *
   generalize u 14 = v101 at *
   generalize u 15 = v102 at *
   obtain ⟨c0,c1,hbq,-,-⟩ := RuJ.box j1
   have ec0 : c0 = v95 := by
    have h1 := cell_of_block hbq 0 _ rfl
    rw [hg2 (hL 17 (by decide))] at h1
    exact (Option.some.inj h1).symm
   have ec1 : c1 = v102 := by
    have h1 := cell_of_block hbq 1 _ rfl
    rw [hg3 (hL 19 (by decide))] at h1
    exact (Option.some.inj h1).symm
   rw [ec0,ec1] at hbq
   have hap' := hg1 (hL 8 (by decide)) (hL 15 (by decide))
   have XLE : ∀ x ∈ (bx :: (ownB (.slice A0 n0' c0') ++ ownB (.slice A9 n9' c9'))),w.heap.size ≤ x := by
    intro x hx
    simp only [List.mem_cons,List.mem_append,mem_ownB] at hx
    have h1 := HBX.out
    rcases hx with hx | hx | hx
    ·omega
    ·have := G0.out _ hx;omega
    ·have := G1.out _ hx;omega
   obtain ⟨xs5,g5,ho5,-⟩ := (show RuV BB wc.heap.size (.slice A0 n0' c0') ra' v95 w5 from p95)
   obtain ⟨xs6,g6,ho6,-⟩ := (show RuV BB wc.heap.size (.slice A9 n9' c9') rb' v102 w5 from p102)
   have S5 := hid (show RuS BB bx w (fA a) (fB b) (i + 1) w5 from ⟨⟨v95,v102,xs5,xs6,hbq,by rw [HRA.out];exact ho5,by rw [HRB.out];exact ho6,fun h => by omega,hap'⟩,KB.kept S2.out.k q5 XLE⟩)
   clear hbq ec0 ec1 hap' XLE ho5 ho6 p93 p94 p95 p100 p101 p102 hg1 hg2 hg3 j1 q5 NU NV
   go_wp2_with fail
   go_roundw
   case rel => exact ⟨i + 1,HI5.out,by go_num,S5.out⟩
   case measure => simp [intOf];have := HI5.out;omega
  ·obtain rfl : i = 5 := by omega
   have FA := hid (fA_b a)
   have FBb := hid (fB_b b)
   obtain ⟨r4,r5,r7,q4,q5,q7,l4,l5,l7,hsv⟩ := rules_c (p := bits) (by omega) (by omega) FA.out FBb.out (fB_0 b)
   have SV := hid hsv
   have C4 := hid q4
   have C5 := hid q5
   have C7 := hid q7
   have LL := hid (And.intro l4 (And.intro l5 l7))
   have RX := hid S1.out.rws5
   have KX := hid S1.out.k
   clear hsv q4 q5 q7 l4 l5 l7 S1 SW
   have hlim : Lim (wr.alloc (.cells #[.int .u64 1] 60)) (.slice (some ⟨wr.heap.size,0,none⟩) 1 1) [1] := lim_newJ (n := 1) (T := 60) (by decide) (heap_alloc_new _ _)
   go_wp2_with fail
   refine (iof_c (r := ⟨false,[1],0⟩) ⟨_,rfl,hlim,by decide,by decide⟩).mono ?_
   rintro e w1 ⟨q1,v,rfl,hv⟩
   obtain ⟨P1,l1,d1,P2,l2,d2,rfl,-,-⟩ := ivR_split hv
   have K1 := hid ((kept_alloc _ _).trans q1)
   have HV1 := hid hv
   clear hlim hv q1
   simp only [] at HV1 ⊢
   obtain ⟨V1,hV1,kV1,bV1⟩ := boxi1 w1 (.bool false) (.slice P1 l1 d1) (.int .i64 0) (.bool false) (.slice P2 l2 d2) (.int .i64 0)
   have HV := hid hV1
   have B14 := hid bV1
   have I14 := hid (HV1.out.kept kV1)
   have K2 := hid (K1.out.trans kV1)
   clear hV1 kV1 bV1 HV1 K1
   go_upto_region 16 with fail
   rw [← HV.out]
   clear HV
   generalize w1.heap.size = n14 at *
   obtain ⟨V2,hV2,kV2,b2,htp⟩ := boxTR V1 (.bool false) (.slice P1 l1 d1) (.int .i64 0) (.bool false) (.slice P2 l2 d2) (.int .i64 0)
   have HV := hid hV2
   have BT := hid b2
   have TP := hid (htp (by rw [← one10];exact I14.out))
   have K3 := hid (K2.out.trans kV2)
   obtain ⟨-,c0,c1,c2,c3,c4,c5⟩ := B14.out.facts
   clear hV2 kV2 b2 htp K2
   go_upto_region 17 with fail
   rw [← HV.out]
   clear HV c0 c1 c2 c3 c4 c5 B14 I14
   generalize V1.heap.size + 1 + 1 = n3 at *
   generalize V1.heap.size + 1 = n2 at *
   generalize V1.heap.size = n1 at *
   have hmk := mk5
   refine region_lin (m := 10) (V := VL [(vE (.agg #[.slice (some ⟨n1,0,none⟩) 8 8,.slice (some ⟨n2,0,none⟩) 5 5])),(fun v wv => IvS wv v [rzI,rzI,rzI,rzI,rzI]),(vE (.slice (some ⟨bx,0,none⟩) 2 2)),(vE (.int .i64 (bits : Int))),(fun v wv => ∃ vv,v = .tuple #[vv,.int .i64 0] ∧ Rws wv vv [rowE (fA a),rowE (fA a),r4,r5,r7]),(fun v wv => ∃ vv,v = .tuple #[vv,.int .i64 0] ∧ Rws wv vv [rowE (fA a),rowE (fA a),r4,r5,r7]),(fun v wv => Rws wv v [rowE (fA a),rowE (fA a),r4,r5,r7]),(vE (.int .i64 0)),(fun v wv => Rws wv v [rowE (fA a),rowE (fA a),r4,r5,r7]),(vE (.int .i64 0))])
    (by kernel_rfl) rfl (by kernel_rfl) (by kernel_rfl) (by kernel_rfl) (mono_of _ ⟨mE,fun v w w' k h => by first | exact h | exact h.kept k | exact ⟨h.1,h.2.kept k⟩,mE,mE,fun v w w' k h => by obtain ⟨d,h1,h2⟩ := h;exact ⟨d,h1,h2.kept k⟩,fun v w w' k h => by obtain ⟨d,h1,h2⟩ := h;exact ⟨d,h1,h2.kept k⟩,fun v w w' k h => by first | exact h | exact h.kept k | exact ⟨h.1,h.2.kept k⟩,mE,fun v w w' k h => by first | exact h | exact h.kept k | exact ⟨h.1,h.2.kept k⟩,mE,trivial⟩) (steps_of ⟨
      (fun aF wF F => by have s15 : aF.tmps.getD 15 undef = (.pointer (some ⟨n3,0,none⟩)) := F.o 15;have c0 := cell_at BT.out F.kept 0 _ rfl;have c1 := cell_at BT.out F.kept 1 _ rfl;exact sv rfl),(fun aF wF F => by exact step_new (by simp [Region.wanted]) (by first | (go_simp;done) | (go_simp;rfl)) (kept_alloc _ _) (ivS5 _)),(fun aF wF F => by have s8 : aF.tmps.getD 8 undef = (.slice (some ⟨bx,0,none⟩) 2 2) := F.o 8;exact sv rfl),(fun aF wF F => by have s7 : aF.tmps.getD 7 undef = (.int .i64 (bits : Int)) := F.o 7;exact sv rfl),(fun aF wF F => by have s121 := F.v 0 121;have s122 := F.p 1 122;have s123 := F.v 2 123;have s124 := F.v 3 124;exact step_good (by simp [Region.wanted]) (by go_simp) (SV.out _ _ _ _ (TP.out.kept F.kept) s122 (RX.out.kept (K3.out.trans F.kept)) (T.out.kept (KX.out.trans (K3.out.trans F.kept)))) (fun _ _ h => by obtain ⟨k9,v9,e9,r9⟩ := h;exact ⟨_,e9,k9,v9,rfl,r9⟩) (fun _ _ h => h)),(fun aF wF F => by have s125 := F.p 4 125;exact step_val (by simp [Region.wanted]) rfl s125),(fun aF wF F => by have s120 := F.p 5 120;obtain ⟨d,ee,h1⟩ := s120;exact step_val (by simp [Region.wanted]) (by go_simp) h1),(fun aF wF F => by have s120 := F.p 5 120;exact sw (by obtain ⟨d,ee,h1⟩ := s120;go_simp) rfl),(fun aF wF F => by have s126 := F.p 6 126;exact step_val (by simp [Region.wanted]) rfl s126),(fun aF wF F => by have s127 := F.v 7 127;exact sv rfl),
      trivial⟩) ?_
   intro u w3 q3 hu
   have p122 := hp hu 1
   have p125 := hp hu 4
   have p120 := hp hu 5
   have p126 := hp hu 6
   have p16 := hp hu 8
   simp only [puts,slotOf,if_true,Act.put,z1,z2,z3,z4,z5,z6,z7,hv hu 0,hv hu 2,hv hu 3,hv hu 7,hv hu 9]
   clear hu
   generalize u 1 = v122 at *
   generalize u 4 = v125 at *
   generalize u 5 = v120 at *
   generalize u 6 = v126 at *
   generalize u 8 = v16 at *
   clear p120 p122 p125 p126 hmk
   obtain ⟨b3,o3,c3,s0,rfl,-,-,-⟩ := p16.row (i := 0) (by simp)
   have ROW : ∀ (j : Nat) (r : List RawI),[rowE (fA a),rowE (fA a),r4,r5,r7][j]? = some r → Gd r → r.length = 5 → ∃ br orr cr,w3.cell? ⟨b3,o3 + j,none⟩ = some (.slice (some ⟨br,orr,none⟩) 5 cr) ∧ ∀ w1,Kept w3 w1 → ∀ i,i < 5 → IvAt w1 br (orr + i * 6) (gI r i).raw := by
    intro j r hj gr lr
    have hlt := (List.getElem?_eq_some_iff.1 hj).1
    obtain ⟨b4,o4,c4,s4,e4,-,cell4,hs4⟩ := p16.row hlt
    injection e4 with e4 e5 e6
    injection e4 with e4
    injection e4 with e7 e8
    subst e7
    subst e8
    rw [List.getD_eq_getElem?_getD,hj,Option.getD_some] at hs4
    obtain ⟨br,orr,cr,rfl,-,hRG⟩ := hs4.place gr (by omega)
    rw [lr] at cell4
    exact ⟨br,orr,cr,cell4,fun w1 k i hi => hRG w1 k i (by omega)⟩
   have L5 := LL.out
   have cE := rowE_cf FA.out
   obtain ⟨x0,y0,z0,e0,g0⟩ := ROW 0 (rowE (fA a)) rfl cE.gd (rowE_len _)
   obtain ⟨x1,y1,z1',e1,g1⟩ := ROW 1 (rowE (fA a)) rfl cE.gd (rowE_len _)
   obtain ⟨x2,y2,z2',e2,g2⟩ := ROW 2 r4 rfl C4.out.gd L5.1
   obtain ⟨x3,y3,z3',e3,g3⟩ := ROW 3 r5 rfl C5.out.gd L5.2.1
   obtain ⟨x4,y4,z4',e4,g4⟩ := ROW 4 r7 rfl C7.out.gd L5.2.2
   rw [Nat.add_zero] at e0
   have E0 := hid e0
   have E1 := hid e1
   have E2 := hid e2
   have E3 := hid e3
   have E4 := hid e4
   have I0 := hid g0
   have I1 := hid g1
   have I2 := hid g2
   have I3 := hid g3
   have I4 := hid g4
   have EK := hid (fun (w1 : World) (k : Kept w3 w1) (j : Nat) (hj : j < 5) => show ∃ br orr cr,w1.cell? ⟨b3,o3 + j,none⟩ = some (.slice (some ⟨br,orr,none⟩) 5 cr) by
    have : j = 0 ∨ j = 1 ∨ j = 2 ∨ j = 3 ∨ j = 4 := by omega
    rcases this with rfl | rfl | rfl | rfl | rfl
    ·exact ⟨_,_,_,cellKJ e0 k⟩
    ·exact ⟨_,_,_,cellKJ e1 k⟩
    ·exact ⟨_,_,_,cellKJ e2 k⟩
    ·exact ⟨_,_,_,cellKJ e3 k⟩
    ·exact ⟨_,_,_,cellKJ e4 k⟩)
   have M1 := hid (fun i (hi : i < 5) w1 va vb (hv : IvR w1 va (gI r4 i).raw) (hu : IvR w1 vb (gI r5 i).raw) => show Calls Tryz.prog 28 #[va,vb] w1 (RetIE ⟨(meetI (gI r4 i) (gI r5 i)).raw,0⟩ w1) from
    meet_c hv hu (gI_ok C4.out.gd i) (gI_ok C5.out.gd i) (meet_ok (gI_ok C4.out.gd i) (gI_ok C5.out.gd i) (C4.out i (by have := LL.out;omega)).2.2 (C5.out i (by have := LL.out;omega)).2.2))
   have M2 := hid (fun i (hi : i < 5) w1 va vb (hv : IvR w1 va (gI (rowE (fA a)) i).raw) (hu : IvR w1 vb (gI r7 i).raw) => show Calls Tryz.prog 28 #[va,vb] w1 (RetIE ⟨(meetI (gI (rowE (fA a)) i) (gI r7 i)).raw,0⟩ w1) from
    meet_c hv hu (gI_ok cE.gd i) (gI_ok C7.out.gd i) (meet_ok (gI_ok cE.gd i) (gI_ok C7.out.gd i) (cE i (by rw [rowE_len];exact hi)).2.2 (C7.out i (by have := LL.out;omega)).2.2))
   have M3 := hid (fun i w1 va vb (hv : IvR w1 va (gI (rowE (fA a)) i).raw) (hu : IvR w1 vb (gI (rowE (fA a)) i).raw) => show Calls Tryz.prog 29 #[va,vb] w1 (RetK (.bool true) w1) from
    rsameI_c hv hu ⟨by have := dy_len (gI_ok cE.gd i).lo;show (gI (rowE (fA a)) i).lo.raw.m.length ≤ _;omega,by have := dy_len (gI_ok cE.gd i).hi;show (gI (rowE (fA a)) i).hi.raw.m.length ≤ _;omega⟩)
   have K4 := hid (KX.out.trans (K3.out.trans q3))
   clear q3 TP BT SV RX K3 KX ROW L5 cE e0 e1 e2 e3 e4 g0 g1 g2 g3 g4 p16 C4 C5 C7 LL FA FBb HA HB A5 B5 HBX
   generalize rowE (fA a) = rE at *
   go_wp2_with fail
   go_loopw [18] (fun vi wr => ∃ i : Nat,i ≤ 5 ∧ vi = .int .i64 i ∧ Kept w3 wr) (fun vi _ => (5 - intOf vi).toNat)
   case atStart => exact ⟨0,by decide,rfl,Below.refl _ _⟩
   case round =>
    obtain ⟨i,hi,rfl,hkr⟩ := hrel
    have KR := hid hkr
    clear hkr
    by_cases hi5 : i < 5
    ·have HI := hid hi5
     obtain ⟨U,hU⟩ : ∃ U,U = wr := ⟨wr,rfl⟩
     subst hU
     go_wp2_with fail
     clear hi5
     go_loopw [19] (fun vk wr => ∃ k : Nat,k ≤ 5 ∧ vk = .int .i64 k ∧ Kept w3 wr) (fun vk _ => (5 - intOf vk).toNat)
     case atStart => exact ⟨0,by decide,rfl,KR.out⟩
     case round =>
      obtain ⟨k,hk,rfl,hkr⟩ := hrel
      have KR2 := hid hkr
      clear hkr
      by_cases hk5 : k < 5
      ·obtain ⟨bk, ok, ck, ek⟩ := EK.out _ KR2.out k hk5
       go_wp2_with fail
       go_roundw
       case rel => exact ⟨k + 1,hk5,by go_num,KR2.out⟩
       case measure => simp [intOf];omega
      ·obtain rfl : k = 5 := by omega
       clear hk5 hk KR
       go_wp2_with fail
       have K5 := hid KR2.out
       refine region_lin2e (e := 15) (m := 17) (V := VL [(vE (.slice (some ⟨b3,o3,none⟩) 5 c3)),(vE (.pointer (some ⟨b3,o3 + 2,none⟩))),(vE (.slice (some ⟨x2,y2,none⟩) 5 z2')),(vE (.int .i64 (i : Int))),(vE (.pointer (some ⟨x2,y2 + i * 6,none⟩))),(fun v wv => IvR wv v ((gI r4 i).raw)),(vE (.slice (some ⟨b3,o3,none⟩) 5 c3)),(vE (.pointer (some ⟨b3,o3 + 3,none⟩))),(vE (.slice (some ⟨x3,y3,none⟩) 5 z3')),(vE (.int .i64 (i : Int))),(vE (.pointer (some ⟨x3,y3 + i * 6,none⟩))),(fun v wv => IvR wv v ((gI r5 i).raw)),(fun v wv => ∃ d,v = .tuple #[d,.int .i64 (⟨(meetI (gI r4 i) (gI r5 i)).raw,0⟩ : Outc RawI).k] ∧ IvR wv d (⟨(meetI (gI r4 i) (gI r5 i)).raw,0⟩ : Outc RawI).v),(fun v wv => ∃ d,v = .tuple #[d,.int .i64 (⟨(meetI (gI r4 i) (gI r5 i)).raw,0⟩ : Outc RawI).k] ∧ IvR wv d (⟨(meetI (gI r4 i) (gI r5 i)).raw,0⟩ : Outc RawI).v),(fun v wv => IvR wv v (⟨(meetI (gI r4 i) (gI r5 i)).raw,0⟩ : Outc RawI).v),(vE (.int .i64 (⟨(meetI (gI r4 i) (gI r5 i)).raw,0⟩ : Outc RawI).k)),(fun v wv => ∃ b,v = .pointer (some ⟨b,0,none⟩) ∧ wr.heap.size ≤ b ∧ BlkI wv b (.bool false) (.slice none 0 0) (.int .i64 0) (.bool false) (.slice none 0 0) (.int .i64 0))])
        (by kernel_rfl) rfl rfl rfl rfl rfl rfl rfl (by decide) (by kernel_rfl) (by kernel_rfl) (by kernel_rfl) (by kernel_rfl) (by kernel_rfl) (by kernel_rfl) (mono_of _ ⟨mE,mE,mE,mE,mE,fun v w w' k h => by first | exact h | exact h.kept k | exact ⟨h.1,h.2.kept k⟩,mE,mE,mE,mE,mE,fun v w w' k h => by first | exact h | exact h.kept k | exact ⟨h.1,h.2.kept k⟩,fun v w w' k h => by obtain ⟨d,h1,h2⟩ := h;exact ⟨d,h1,h2.kept k⟩,fun v w w' k h => by obtain ⟨d,h1,h2⟩ := h;exact ⟨d,h1,h2.kept k⟩,fun v w w' k h => by first | exact h | exact h.kept k | exact ⟨h.1,h.2.kept k⟩,mE,fun v w w' k h => by obtain ⟨b,h1,h2,h3⟩ := h;exact ⟨b,h1,h2,h3.kept k⟩,trivial⟩) (steps_of ⟨
          (fun aF wF F => by have s16 : aF.tmps.getD 16 undef = (.slice (some ⟨b3,o3,none⟩) 5 c3) := F.o 16;exact sv rfl),(fun aF wF F => by have s150 := F.v 0 150;exact sv rfl),(fun aF wF F => by have s151 := F.v 1 151;exact sw (by (have n0 := cellKJ E2.out (K5.out.trans F.kept);go_simp)) rfl),(fun aF wF F => by have s18 : aF.tmps.getD 18 undef = (.int .i64 (i : Int)) := F.o 18;exact sv rfl),(fun aF wF F => by have s152 := F.v 2 152;have s153 := F.v 3 153;exact sw (by (have hi9 := HI.out;first | (go_simp;done) | (go_simp;omega))) rfl),(fun aF wF F => by have s154 := F.v 4 154;obtain ⟨xx,yy,zz,xx',yy',zz',h0,h1,h2,h3,h4,h5,hI⟩ := (I2.out _ (K5.out.trans F.kept) i HI.out);exact step_val (by simp [Region.wanted]) (by go_simp) hI),(fun aF wF F => by have s16 : aF.tmps.getD 16 undef = (.slice (some ⟨b3,o3,none⟩) 5 c3) := F.o 16;exact sv rfl),(fun aF wF F => by have s156 := F.v 6 156;exact sv rfl),(fun aF wF F => by have s157 := F.v 7 157;exact sw (by (have n0 := cellKJ E3.out (K5.out.trans F.kept);go_simp)) rfl),(fun aF wF F => by have s18 : aF.tmps.getD 18 undef = (.int .i64 (i : Int)) := F.o 18;exact sv rfl),(fun aF wF F => by have s158 := F.v 8 158;have s159 := F.v 9 159;exact sw (by (have hi9 := HI.out;first | (go_simp;done) | (go_simp;omega))) rfl),(fun aF wF F => by have s160 := F.v 10 160;obtain ⟨xx,yy,zz,xx',yy',zz',h0,h1,h2,h3,h4,h5,hI⟩ := (I3.out _ (K5.out.trans F.kept) i HI.out);exact step_val (by simp [Region.wanted]) (by go_simp) hI),(fun aF wF F => by have s155 := F.p 5 155;have s161 := F.p 11 161;exact sP (M1.out i HI.out _ _ _ s155 s161) fun _ _ h => h),(fun aF wF F => by have s162 := F.p 12 162;exact step_val (by simp [Region.wanted]) rfl s162),(fun aF wF F => by have s149 := F.p 13 149;obtain ⟨dd,ee,hh⟩ := s149;exact step_val (by simp [Region.wanted]) (by go_simp) hh),(fun aF wF F => by have s149 := F.p 13 149;exact sw (by obtain ⟨dd,ee,hh⟩ := s149;go_simp) rfl),(fun aF wF F => by exact step_new (by simp [Region.wanted]) (by go_simp) (kept_alloc _ _) ⟨_,rfl,F.kept.size,blkI_zero _⟩),
          trivial⟩) ?_
       intro u w5 q5 hu
       have e150 : u 0 = (.slice (some ⟨b3,o3,none⟩) 5 c3) := hu 0 (by decide) (by decide)
       have e151 : u 1 = (.pointer (some ⟨b3,o3 + 2,none⟩)) := hu 1 (by decide) (by decide)
       have e152 : u 2 = (.slice (some ⟨x2,y2,none⟩) 5 z2') := hu 2 (by decide) (by decide)
       have e153 : u 3 = (.int .i64 (i : Int)) := hu 3 (by decide) (by decide)
       have e154 : u 4 = (.pointer (some ⟨x2,y2 + i * 6,none⟩)) := hu 4 (by decide) (by decide)
       have p155 := hu 5 (by decide) (by decide)
       obtain ⟨v155,e155⟩ : ∃ v,u 5 = v := ⟨_,rfl⟩
       rw [e155] at p155
       try simp only [VL,List.getD_cons_zero,List.getD_cons_succ] at p155
       have e156 : u 6 = (.slice (some ⟨b3,o3,none⟩) 5 c3) := hu 6 (by decide) (by decide)
       have e157 : u 7 = (.pointer (some ⟨b3,o3 + 3,none⟩)) := hu 7 (by decide) (by decide)
       have e158 : u 8 = (.slice (some ⟨x3,y3,none⟩) 5 z3') := hu 8 (by decide) (by decide)
       have e159 : u 9 = (.int .i64 (i : Int)) := hu 9 (by decide) (by decide)
       have e160 : u 10 = (.pointer (some ⟨x3,y3 + i * 6,none⟩)) := hu 10 (by decide) (by decide)
       have p161 := hu 11 (by decide) (by decide)
       obtain ⟨v161,e161⟩ : ∃ v,u 11 = v := ⟨_,rfl⟩
       rw [e161] at p161
       try simp only [VL,List.getD_cons_zero,List.getD_cons_succ] at p161
       have p162 := hu 12 (by decide) (by decide)
       obtain ⟨v162,e162⟩ : ∃ v,u 12 = v := ⟨_,rfl⟩
       rw [e162] at p162
       try simp only [VL,List.getD_cons_zero,List.getD_cons_succ] at p162
       have p149 := hu 13 (by decide) (by decide)
       obtain ⟨v149,e149⟩ : ∃ v,u 13 = v := ⟨_,rfl⟩
       rw [e149] at p149
       try simp only [VL,List.getD_cons_zero,List.getD_cons_succ] at p149
       have p163 := hu 14 (by decide) (by decide)
       obtain ⟨v163,e163⟩ : ∃ v,u 14 = v := ⟨_,rfl⟩
       rw [e163] at p163
       try simp only [VL,List.getD_cons_zero,List.getD_cons_succ] at p163
       have p20 := hu 16 (by decide) (by decide)
       obtain ⟨v20,e20⟩ : ∃ v,u 16 = v := ⟨_,rfl⟩
       rw [e20] at p20
       try simp only [VL,List.getD_cons_zero,List.getD_cons_succ] at p20
       clear hu
       obtain ⟨bn20,rfl,hbn,hxn⟩ := p20
       obtain ⟨Pn,tn,kn,Qn,un,ln,rfl,-,-⟩ := ivR_split p163
       obtain ⟨-,u0,u1,u2,u3,u4,u5⟩ := hxn.facts
       obtain ⟨f0,f1,f2,f3,f4,f5⟩ := hxn.free
       clear p155 p161 p162
       obtain ⟨dd,rfl,-⟩ := p149
       apply dup
       ·intro G he
        simp only [VL,vE,List.getD_cons_zero,List.getD_cons_succ] at he
        simp only [if_true,puts,slotOf,Act.put,List.setIfInBounds_toArray,List.set_cons_zero,List.set_cons_succ,List.getElem?_toArray,List.getElem?_cons_zero,List.getElem?_cons_succ,Option.bind_some,e150,e151,e152,e153,e154,e155,e156,e157,e158,e159,e160,e161,e162,e149,e163,e20,he]
        go_simp
        exact G
       ·intro G
        simp only [puts,slotOf,Act.put,List.setIfInBounds_toArray,List.set_cons_zero,List.set_cons_succ,List.getElem?_toArray,List.getElem?_cons_zero,List.getElem?_cons_succ,Option.bind_some,e150,e151,e152,e153,e154,e155,e156,e157,e158,e159,e160,e161,e162,e149,e163,e20]
        go_simp
        exact G
       clear e150 e151 e152 e153 e154 e155 e156 e157 e158 e159 e160 e161 e162 e149 e163 e20
       go_upto_region 29 with fail
       change Code.wp _ _ _ _ (ivW w5 bn20 _ _ _ _ _ _)
       have szz := K5.out.size
       have K6 := hid (ivW_kept (x := .bool (meetI (gI r4 i) (gI r5 i)).raw.lo.neg) (y := .slice Pn tn kn) (z := .int .i64 (meetI (gI r4 i) (gI r5 i)).raw.lo.e) (x' := .bool (meetI (gI r4 i) (gI r5 i)).raw.hi.neg) (y' := .slice Qn un ln) (z' := .int .i64 (meetI (gI r4 i) (gI r5 i)).raw.hi.e) (K5.out.trans q5) (show w3.heap.size ≤ bn20 by omega))
       clear hxn hbn szz q5 u0 u1 u2 u3 u4 u5 f0 f1 f2 f3 f4 f5
       generalize ivW w5 bn20 (.bool (meetI (gI r4 i) (gI r5 i)).raw.lo.neg) (.slice Pn tn kn) (.int .i64 (meetI (gI r4 i) (gI r5 i)).raw.lo.e) (.bool (meetI (gI r4 i) (gI r5 i)).raw.hi.neg) (.slice Qn un ln) (.int .i64 (meetI (gI r4 i) (gI r5 i)).raw.hi.e) = Y5 at *
       refine region_lin2e (e := 15) (m := 17) (V := VL [(vE (.slice (some ⟨b3,o3,none⟩) 5 c3)),(vE (.pointer (some ⟨b3,o3 + 0,none⟩))),(vE (.slice (some ⟨x0,y0,none⟩) 5 z0)),(vE (.int .i64 (i : Int))),(vE (.pointer (some ⟨x0,y0 + i * 6,none⟩))),(fun v wv => IvR wv v ((gI rE i).raw)),(vE (.slice (some ⟨b3,o3,none⟩) 5 c3)),(vE (.pointer (some ⟨b3,o3 + 4,none⟩))),(vE (.slice (some ⟨x4,y4,none⟩) 5 z4')),(vE (.int .i64 (i : Int))),(vE (.pointer (some ⟨x4,y4 + i * 6,none⟩))),(fun v wv => IvR wv v ((gI r7 i).raw)),(fun v wv => ∃ d,v = .tuple #[d,.int .i64 (⟨(meetI (gI rE i) (gI r7 i)).raw,0⟩ : Outc RawI).k] ∧ IvR wv d (⟨(meetI (gI rE i) (gI r7 i)).raw,0⟩ : Outc RawI).v),(fun v wv => ∃ d,v = .tuple #[d,.int .i64 (⟨(meetI (gI rE i) (gI r7 i)).raw,0⟩ : Outc RawI).k] ∧ IvR wv d (⟨(meetI (gI rE i) (gI r7 i)).raw,0⟩ : Outc RawI).v),(fun v wv => IvR wv v (⟨(meetI (gI rE i) (gI r7 i)).raw,0⟩ : Outc RawI).v),(vE (.int .i64 (⟨(meetI (gI rE i) (gI r7 i)).raw,0⟩ : Outc RawI).k)),(fun v wv => ∃ b,v = .pointer (some ⟨b,0,none⟩) ∧ Y5.heap.size ≤ b ∧ BlkI wv b (.bool false) (.slice none 0 0) (.int .i64 0) (.bool false) (.slice none 0 0) (.int .i64 0))])
        (by kernel_rfl) rfl rfl rfl rfl rfl rfl rfl (by decide) (by kernel_rfl) (by kernel_rfl) (by kernel_rfl) (by kernel_rfl) (by kernel_rfl) (by kernel_rfl) (mono_of _ ⟨mE,mE,mE,mE,mE,fun v w w' k h => by first | exact h | exact h.kept k | exact ⟨h.1,h.2.kept k⟩,mE,mE,mE,mE,mE,fun v w w' k h => by first | exact h | exact h.kept k | exact ⟨h.1,h.2.kept k⟩,fun v w w' k h => by obtain ⟨d,h1,h2⟩ := h;exact ⟨d,h1,h2.kept k⟩,fun v w w' k h => by obtain ⟨d,h1,h2⟩ := h;exact ⟨d,h1,h2.kept k⟩,fun v w w' k h => by first | exact h | exact h.kept k | exact ⟨h.1,h.2.kept k⟩,mE,fun v w w' k h => by obtain ⟨b,h1,h2,h3⟩ := h;exact ⟨b,h1,h2,h3.kept k⟩,trivial⟩) (steps_of ⟨
          (fun aF wF F => by have s16 : aF.tmps.getD 16 undef = (.slice (some ⟨b3,o3,none⟩) 5 c3) := F.o 16;exact sv rfl),(fun aF wF F => by have s166 := F.v 0 166;exact sv rfl),(fun aF wF F => by have s167 := F.v 1 167;exact sw (by (have n0 := cellKJ E0.out (K6.out.trans F.kept);go_simp)) rfl),(fun aF wF F => by have s18 : aF.tmps.getD 18 undef = (.int .i64 (i : Int)) := F.o 18;exact sv rfl),(fun aF wF F => by have s168 := F.v 2 168;have s169 := F.v 3 169;exact sw (by (have hi9 := HI.out;first | (go_simp;done) | (go_simp;omega))) rfl),(fun aF wF F => by have s170 := F.v 4 170;obtain ⟨xx,yy,zz,xx',yy',zz',h0,h1,h2,h3,h4,h5,hI⟩ := (I0.out _ (K6.out.trans F.kept) i HI.out);exact step_val (by simp [Region.wanted]) (by go_simp) hI),(fun aF wF F => by have s16 : aF.tmps.getD 16 undef = (.slice (some ⟨b3,o3,none⟩) 5 c3) := F.o 16;exact sv rfl),(fun aF wF F => by have s172 := F.v 6 172;exact sv rfl),(fun aF wF F => by have s173 := F.v 7 173;exact sw (by (have n0 := cellKJ E4.out (K6.out.trans F.kept);go_simp)) rfl),(fun aF wF F => by have s18 : aF.tmps.getD 18 undef = (.int .i64 (i : Int)) := F.o 18;exact sv rfl),(fun aF wF F => by have s174 := F.v 8 174;have s175 := F.v 9 175;exact sw (by (have hi9 := HI.out;first | (go_simp;done) | (go_simp;omega))) rfl),(fun aF wF F => by have s176 := F.v 10 176;obtain ⟨xx,yy,zz,xx',yy',zz',h0,h1,h2,h3,h4,h5,hI⟩ := (I4.out _ (K6.out.trans F.kept) i HI.out);exact step_val (by simp [Region.wanted]) (by go_simp) hI),(fun aF wF F => by have s171 := F.p 5 171;have s177 := F.p 11 177;exact sP (M2.out i HI.out _ _ _ s171 s177) fun _ _ h => h),(fun aF wF F => by have s178 := F.p 12 178;exact step_val (by simp [Region.wanted]) rfl s178),(fun aF wF F => by have s165 := F.p 13 165;obtain ⟨dd,ee,hh⟩ := s165;exact step_val (by simp [Region.wanted]) (by go_simp) hh),(fun aF wF F => by have s165 := F.p 13 165;exact sw (by obtain ⟨dd,ee,hh⟩ := s165;go_simp) rfl),(fun aF wF F => by exact step_new (by simp [Region.wanted]) (by go_simp) (kept_alloc _ _) ⟨_,rfl,F.kept.size,blkI_zero _⟩),
          trivial⟩) ?_
       intro u w6 q5 hu
       have e166 : u 0 = (.slice (some ⟨b3,o3,none⟩) 5 c3) := hu 0 (by decide) (by decide)
       have e167 : u 1 = (.pointer (some ⟨b3,o3 + 0,none⟩)) := hu 1 (by decide) (by decide)
       have e168 : u 2 = (.slice (some ⟨x0,y0,none⟩) 5 z0) := hu 2 (by decide) (by decide)
       have e169 : u 3 = (.int .i64 (i : Int)) := hu 3 (by decide) (by decide)
       have e170 : u 4 = (.pointer (some ⟨x0,y0 + i * 6,none⟩)) := hu 4 (by decide) (by decide)
       have p171 := hu 5 (by decide) (by decide)
       obtain ⟨v171,e171⟩ : ∃ v,u 5 = v := ⟨_,rfl⟩
       rw [e171] at p171
       try simp only [VL,List.getD_cons_zero,List.getD_cons_succ] at p171
       have e172 : u 6 = (.slice (some ⟨b3,o3,none⟩) 5 c3) := hu 6 (by decide) (by decide)
       have e173 : u 7 = (.pointer (some ⟨b3,o3 + 4,none⟩)) := hu 7 (by decide) (by decide)
       have e174 : u 8 = (.slice (some ⟨x4,y4,none⟩) 5 z4') := hu 8 (by decide) (by decide)
       have e175 : u 9 = (.int .i64 (i : Int)) := hu 9 (by decide) (by decide)
       have e176 : u 10 = (.pointer (some ⟨x4,y4 + i * 6,none⟩)) := hu 10 (by decide) (by decide)
       have p177 := hu 11 (by decide) (by decide)
       obtain ⟨v177,e177⟩ : ∃ v,u 11 = v := ⟨_,rfl⟩
       rw [e177] at p177
       try simp only [VL,List.getD_cons_zero,List.getD_cons_succ] at p177
       have p178 := hu 12 (by decide) (by decide)
       obtain ⟨v178,e178⟩ : ∃ v,u 12 = v := ⟨_,rfl⟩
       rw [e178] at p178
       try simp only [VL,List.getD_cons_zero,List.getD_cons_succ] at p178
       have p165 := hu 13 (by decide) (by decide)
       obtain ⟨v165,e165⟩ : ∃ v,u 13 = v := ⟨_,rfl⟩
       rw [e165] at p165
       try simp only [VL,List.getD_cons_zero,List.getD_cons_succ] at p165
       have p179 := hu 14 (by decide) (by decide)
       obtain ⟨v179,e179⟩ : ∃ v,u 14 = v := ⟨_,rfl⟩
       rw [e179] at p179
       try simp only [VL,List.getD_cons_zero,List.getD_cons_succ] at p179
       have p22 := hu 16 (by decide) (by decide)
       obtain ⟨v22,e22⟩ : ∃ v,u 16 = v := ⟨_,rfl⟩
       rw [e22] at p22
       try simp only [VL,List.getD_cons_zero,List.getD_cons_succ] at p22
       clear hu
       obtain ⟨bn22,rfl,hbn,hxn⟩ := p22
       obtain ⟨Pn,tn,kn,Qn,un,ln,rfl,-,-⟩ := ivR_split p179
       obtain ⟨-,u0,u1,u2,u3,u4,u5⟩ := hxn.facts
       obtain ⟨f0,f1,f2,f3,f4,f5⟩ := hxn.free
       clear p171 p177 p178
       obtain ⟨dd,rfl,-⟩ := p165
       apply dup
       ·intro G he
        simp only [VL,vE,List.getD_cons_zero,List.getD_cons_succ] at he
        simp only [if_true,puts,slotOf,Act.put,List.setIfInBounds_toArray,List.set_cons_zero,List.set_cons_succ,List.getElem?_toArray,List.getElem?_cons_zero,List.getElem?_cons_succ,Option.bind_some,e166,e167,e168,e169,e170,e171,e172,e173,e174,e175,e176,e177,e178,e165,e179,e22,he]
        go_simp
        exact G
       ·intro G
        simp only [puts,slotOf,Act.put,List.setIfInBounds_toArray,List.set_cons_zero,List.set_cons_succ,List.getElem?_toArray,List.getElem?_cons_zero,List.getElem?_cons_succ,Option.bind_some,e166,e167,e168,e169,e170,e171,e172,e173,e174,e175,e176,e177,e178,e165,e179,e22]
        go_simp
        exact G
       clear e166 e167 e168 e169 e170 e171 e172 e173 e174 e175 e176 e177 e178 e165 e179 e22
       go_upto_region 30 with fail
       change Code.wp _ _ _ _ (ivW w6 bn22 _ _ _ _ _ _)
       have szz := K6.out.size
       have K7 := hid (ivW_kept (x := .bool (meetI (gI rE i) (gI r7 i)).raw.lo.neg) (y := .slice Pn tn kn) (z := .int .i64 (meetI (gI rE i) (gI r7 i)).raw.lo.e) (x' := .bool (meetI (gI rE i) (gI r7 i)).raw.hi.neg) (y' := .slice Qn un ln) (z' := .int .i64 (meetI (gI rE i) (gI r7 i)).raw.hi.e) (K6.out.trans q5) (show w3.heap.size ≤ bn22 by omega))
       clear hxn hbn szz q5 u0 u1 u2 u3 u4 u5 f0 f1 f2 f3 f4 f5
       generalize ivW w6 bn22 (.bool (meetI (gI rE i) (gI r7 i)).raw.lo.neg) (.slice Pn tn kn) (.int .i64 (meetI (gI rE i) (gI r7 i)).raw.lo.e) (.bool (meetI (gI rE i) (gI r7 i)).raw.hi.neg) (.slice Qn un ln) (.int .i64 (meetI (gI rE i) (gI r7 i)).raw.hi.e) = Y6 at *
       go_wp2_with fail
       refine region_lin (m := 22) (V := VL [(vE (.slice (some ⟨b3,o3,none⟩) 5 c3)),(vE (.pointer (some ⟨b3,o3,none⟩))),(vE (.slice (some ⟨x0,y0,none⟩) 5 z0)),(vE (.int .i64 (i : Int))),(vE (.pointer (some ⟨x0,y0 + i * 6,none⟩))),(fun v wv => IvR wv v ((gI rE i).raw)),(vE (.slice (some ⟨b3,o3,none⟩) 5 c3)),(vE (.pointer (some ⟨b3,o3 + 1,none⟩))),(vE (.slice (some ⟨x1,y1,none⟩) 5 z1')),(vE (.int .i64 (i : Int))),(vE (.pointer (some ⟨x1,y1 + i * 6,none⟩))),(fun v wv => IvR wv v ((gI rE i).raw)),(vE (.bool true)),(vE (.bool false)),(vE (.bool false)),(vE (.int .i64 0)),(vE (.bool false)),(vE (.bool false)),(vE (.bool false)),(vE (.int .i64 0)),(vE (.bool false)),(vE (.bool false))])
        (by kernel_rfl) rfl (by kernel_rfl) (by kernel_rfl) (by kernel_rfl) (mono_of _ ⟨mE,mE,mE,mE,mE,fun v w w' k h => by first | exact h | exact h.kept k | exact ⟨h.1,h.2.kept k⟩,mE,mE,mE,mE,mE,fun v w w' k h => by first | exact h | exact h.kept k | exact ⟨h.1,h.2.kept k⟩,mE,mE,mE,mE,mE,mE,mE,mE,mE,mE,trivial⟩) (steps_of ⟨
          (fun aF wF F => by have s16 : aF.tmps.getD 16 undef = (.slice (some ⟨b3,o3,none⟩) 5 c3) := F.o 16;exact sv rfl),(fun aF wF F => by have s181 := F.v 0 181;exact sv rfl),(fun aF wF F => by have s182 := F.v 1 182;exact sw (by (have n0 := cellKJ E0.out (K7.out.trans F.kept);go_simp)) rfl),(fun aF wF F => by have s18 : aF.tmps.getD 18 undef = (.int .i64 (i : Int)) := F.o 18;exact sv rfl),(fun aF wF F => by have s183 := F.v 2 183;have s184 := F.v 3 184;exact sw (by (have hi9 := HI.out;first | (go_simp;done) | (go_simp;omega))) rfl),(fun aF wF F => by have s185 := F.v 4 185;obtain ⟨xx,yy,zz,xx',yy',zz',h0,h1,h2,h3,h4,h5,hI⟩ := (I0.out _ (K7.out.trans F.kept) i HI.out);exact step_val (by simp [Region.wanted]) (by go_simp) hI),(fun aF wF F => by have s16 : aF.tmps.getD 16 undef = (.slice (some ⟨b3,o3,none⟩) 5 c3) := F.o 16;exact sv rfl),(fun aF wF F => by have s187 := F.v 6 187;exact sv rfl),(fun aF wF F => by have s188 := F.v 7 188;exact sw (by (have n0 := cellKJ E1.out (K7.out.trans F.kept);go_simp)) rfl),(fun aF wF F => by have s18 : aF.tmps.getD 18 undef = (.int .i64 (i : Int)) := F.o 18;exact sv rfl),(fun aF wF F => by have s189 := F.v 8 189;have s190 := F.v 9 190;exact sw (by (have hi9 := HI.out;first | (go_simp;done) | (go_simp;omega))) rfl),(fun aF wF F => by have s191 := F.v 10 191;obtain ⟨xx,yy,zz,xx',yy',zz',h0,h1,h2,h3,h4,h5,hI⟩ := (I1.out _ (K7.out.trans F.kept) i HI.out);exact step_val (by simp [Region.wanted]) (by go_simp) hI),(fun aF wF F => by have s186 := F.p 5 186;have s192 := F.p 11 192;exact sK (M3.out i _ _ _ s186 s192) fun _ _ h => h),(fun aF wF F => by have s193 := F.v 12 193;exact sv rfl),(fun aF wF F => by have s194 := F.v 13 194;exact sv rfl),(fun aF wF F => by have s21 : aF.tmps.getD 21 undef = (.int .i64 0) := F.o 21;have sg := F.v 14 195;exact step_val ((wanted_guard rfl rfl sg).trans rfl) (by go_simp) rfl),(fun aF wF F => by have s196 := F.v 15 196;have sg := F.v 14 195;exact step_val ((wanted_guard rfl rfl sg).trans rfl) (by go_simp) rfl),(fun aF wF F => by have s195 := F.v 14 195;have s197 := F.v 16 197;exact sv rfl),(fun aF wF F => by have s198 := F.v 17 198;exact sv rfl),(fun aF wF F => by have s23 : aF.tmps.getD 23 undef = (.int .i64 0) := F.o 23;have sg := F.v 18 199;exact step_val ((wanted_guard rfl rfl sg).trans rfl) (by go_simp) rfl),(fun aF wF F => by have s200 := F.v 19 200;have sg := F.v 18 199;exact step_val ((wanted_guard rfl rfl sg).trans rfl) (by go_simp) rfl),(fun aF wF F => by have s199 := F.v 18 199;have s201 := F.v 20 201;exact sv rfl),
          trivial⟩) ?_
       intro u w7 q7 hu
       have p186 := hp hu 5
       have p192 := hp hu 11
       simp only [puts,slotOf,if_true,Act.put,z1,z2,z3,z4,z5,z6,z7,hv hu 0,hv hu 1,hv hu 2,hv hu 3,hv hu 4,hv hu 6,hv hu 7,hv hu 8,hv hu 9,hv hu 10,hv hu 12,hv hu 13,hv hu 14,hv hu 15,hv hu 16,hv hu 17,hv hu 18,hv hu 19,hv hu 20,hv hu 21]
       clear hu
       generalize u 5 = v186 at *
       generalize u 11 = v192 at *
       clear p186 p192
       have K8 := hid (K7.out.trans q7)
       clear q7 K7 K6
       go_wp2_with fail
       go_roundw
       case rel =>
        (repeat apply Exists.intro)
        refine ⟨?_,rfl⟩
        exact ⟨i + 1,HI.out,by go_num,K8.out⟩
       case measure => simp [intOf];have := HI.out;omega
    ·obtain rfl : i = 5 := by omega
     go_wp2_with fail
     refine (told9_c opsR (.inr (.inr (.inr (.inl rfl)))) (T.out.kept (K4.out.trans KR.out))).mono ?_
     rintro e w14 ⟨rfl,q⟩
     simp only []
     go_wp2_with fail
     go_ret
     exact ⟨rfl,K4.out.trans (KR.out.trans q)⟩
end Go.Proofs.YtgododcbmkpbjaaGreatDoor
