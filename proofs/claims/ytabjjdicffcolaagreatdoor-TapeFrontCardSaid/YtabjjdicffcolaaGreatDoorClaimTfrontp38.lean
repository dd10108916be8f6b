/- Plain mathematics, no program: of greater intervals, or of fewer bits, each operation of a tape makes no less; its errors are limbs and exponents alone, where the greater one has none. -/
import Derived.Test.YtabjjdicffcolaaGreatDoorClaimTfrontp22
import Derived.Test.YtabjjdicffcolaaGreatDoorClaimTfrontp28
import Derived.Test.YtabjjdicffcolaaGreatDoorClaimTfrontp37
set_option maxRecDepth 100000
set_option maxHeartbeats 16000000
namespace Go.Proofs.YtabjjdicffcolaaGreatDoor
open Go.Lib (hid)
open Go.RowKit
theorem dyR_dz (w:World):DyR w (.agg #[.bool false,.slice none 0 0,.int .i64 0]) (bad 2:Outc Dy).raw.v:=by
 have h:(bad 2:Outc Dy).raw.v=rz:=dz_raw
 rw [h];exact dyR_zero w
theorem xexpL_c {w:World}{v:Value}{d:Dy}{p:Nat}{up:Bool}(hv:DyR w v d.raw)(ok:d.Ok)(p1:1≤p)(p2:p≤300)(hT:Tab w)(h0:mayX d.raw p=0)(hz:d.m≠0)
 (hB:∀ wk:Nat,1≤wk→wk≤2000→∀ w1,Kept w w1→Calls Tryz.prog 184 #[v,.int .i64 (wk:Int)] w1 (RetDD (bnE d wk).1.raw (bnE d wk).2.raw w1))
 (hO:∀ wk,(bnE d wk).1.Ok∧(bnE d wk).2.Ok) :
 Calls Tryz.prog 144 #[v,.int .i64 (p:Int),.bool up] w (RetE (expL d p up 2000 (p+40)).raw w):=by
 have C:=hid (fun w1 (k:Kept w w1)=>xmay_c (p:=(p:Int)) (hv.kept k) (by have:=dy_len ok;omega) (hT.kept k))
 rw [h0] at C
 have CB:=hid hB
 have C1:=hid (fun (wk:Nat) w1 v (k:Kept w w1) (h:DyR w1 v (bnE d wk).1.raw)=>show Calls Tryz.prog 185 #[.agg #[.int .i64 (p:Int),.bool up],v] w1 (RetD (exX d p wk up).raw w1) from xround_c h (hO wk).1 p1 (by omega) (hT.kept k))
 have C2:=hid (fun (wk:Nat) w1 v (k:Kept w w1) (h:DyR w1 v (bnE d wk).2.raw)=>show Calls Tryz.prog 185 #[.agg #[.int .i64 (p:Int),.bool up],v] w1 (RetD (exY d p wk up).raw w1) from xround_c h (hO wk).2 p1 (by omega) (hT.kept k))
 have CS:=hid (fun (wk:Nat) w1 v u (h:DyR w1 v (exX d p wk up).raw) (h2:DyR w1 u (exY d p wk up).raw)=>show Calls Tryz.prog 35 #[v,u] w1 (RetK (.bool (sameR (exX d p wk up).raw (exY d p wk up).raw)) w1) from
  dsame_c h h2 (by have:=dy_len (exX_ok d p wk up);omega))
 obtain ⟨A,l,c,rfl,hl,-,-,-⟩:=hv.shape
 have hl0:((l:Int)==0)=false:=by
  have:=length_limbs_pos d.m hz
  rw [beq_eq_false_iff_ne,hl]
  show ((limbs d.m).length:Int)≠0
  omega
 clear hv hl hT ok hz h0 hB hO
 obtain ⟨fu,hf0⟩:∃ f,f=2000:=⟨_,rfl⟩
 rw [←hf0]
 obtain ⟨o,ho⟩:∃ o,o=expL d p up fu (p+40):=⟨_,rfl⟩
 rw [←ho]
 have HO:=hid ho
 have HF:=hid hf0
 clear ho hf0
 generalize hn1:d.raw.neg=n1 at *
 generalize he1:d.raw.e=e1 at *
 clear hn1 he1
 obtain ⟨W,hW,kW,BA,BR⟩:=boxes1r w (.bool n1) (.slice A l c) (.int .i64 e1)
 have HW:=hid hW
 have K:=hid kW
 have HA:=hid BA
 have HB:=hid BR
 obtain ⟨-,a0,a1,a2,-⟩:=BA.facts
 clear hW kW BA BR
 go_enter Tryz.func144,Tryz.ntmps144
 go_upto_region 1 with fail
 rw [←HW.out]
 go_step3
 go_wp2_with fail
 refine (C.out _ K.out).mono ?_
 rintro ee w1 ⟨rfl,q⟩
 simp only []
 replace K:=hid (K.out.trans q)
 replace HA:=hid (HA.out.kept q)
 replace HB:=hid (HB.out.kept q)
 clear q a0 a1 a2 HW C
 obtain ⟨-,a0,a1,a2,-⟩:=HA.out.facts
 go_wp2_with fail
 go_step3
 go_wp2_with fail
 clear a0 a1 a2 hl0
 go_loopw [9] (fun j wr=>∃ f wk:Nat,j=.int .i64 (wk:Int)∧2≤wk∧2000<wk+f∧expL d p up f wk=o∧wk≤3000∧Kept w wr∧Blk wr w.heap.size (.bool n1) (.slice A l c) (.int .i64 e1) ∧
  Blk wr (w.heap.size+1) (.bool false) (.slice none 0 0) (.int .i64 0)) (fun j _=>(3001-intOf j).toNat)
 case atStart=>exact ⟨fu,p+40,by simp,by omega,by have:=HF.out;omega,HO.out.symm,by omega,K.out,HA.out,HB.out⟩
 case round =>
  clear HO K HA HB
  obtain ⟨f,wk,rfl,hw1,hw2,hE,hw3,hK,hA,hB⟩:=hrel
  have K:=hid hK
  have HA:=hid hA
  have HB:=hid hB
  have HE:=hid hE
  clear hK hA hB hE
  obtain ⟨-,a0,a1,a2,-⟩:=HA.out.facts
  obtain ⟨-,x0,x1,x2,y0,y1,y2⟩:=HB.out.facts
  cases f with
  | zero =>
    have hwk:2000<wk:=by omega
    have ho:o=bad 2:=HE.out.symm
    subst ho
    clear HE
    go_wp2_with fail
    exact ret_dy2 (HB.out.laid _ _ _) rfl rfl rfl ⟨dyW_kept K.out (by omega),_,rfl,dyR_dz _⟩
  | succ f =>
    have hE:=HE.out
    rw [expL] at hE
    by_cases hwk:2000<wk
    ·rw [if_pos hwk] at hE
     subst hE
     clear HE
     go_wp2_with fail
     exact ret_dy2 (HB.out.laid _ _ _) rfl rfl rfl ⟨dyW_kept K.out (by omega),_,rfl,dyR_dz _⟩
    ·rw [if_neg hwk] at hE
     replace HE:=hid hE
     have hwk':wk≤2000:=by omega
     clear hE hwk
     have CBw:=hid (CB.out wk (by omega) hwk')
     go_wp2_with fail
     refine (CBw.out _ K.out).mono ?_
     rintro ee w2 ⟨q,va,vb,rfl,h1,h2⟩
     obtain ⟨A1,j1,c1,rfl,h1⟩:=dyR_split h1
     obtain ⟨A2,j2,c2,rfl,h2⟩:=dyR_split h2
     simp only []
     obtain ⟨W2,hW2,kW2,BL,BH⟩:=boxes2 w2 (.bool (bnE d wk).1.neg) (.slice A1 j1 c1) (.int .i64 (bnE d wk).1.e) (.bool (bnE d wk).2.neg) (.slice A2 j2 c2) (.int .i64 (bnE d wk).2.e)
     have HW2:=hid hW2
     have kk:=q.trans kW2
     have lR:w.heap.size+1<w2.heap.size:=Nat.lt_of_lt_of_le HB.out.facts.1 q.size
     have lW:w2.heap.size≤W2.heap.size:=kW2.size
     replace K:=hid (K.out.trans kk)
     replace HA:=hid (HA.out.kept kk)
     replace HB:=hid (HB.out.kept kk)
     have HL:=hid BL
     have HH:=hid BH
     have ZL:=hid (h1.kept kW2)
     have ZH:=hid (h2.kept kW2)
     clear hW2 kW2 BL BH q h1 h2 kk CBw a0 a1 a2 x0 x1 x2 y0 y1 y2
     replace C1:=hid (C1.out wk)
     replace C2:=hid (C2.out wk)
     replace CS:=hid (CS.out wk)
     generalize bnE d wk=lh at *
     obtain ⟨lo,hi⟩:=lh
     generalize hxe:exX d p wk up=x at *
     generalize hye:exY d p wk up=y at *
     clear hxe hye
     go_upto_region 10 with fail
     rw [←HW2.out]
     clear HW2
     generalize w2.heap.size=b10 at *
     have NN:∀ b:Nat,b∉([]:List Nat):=fun b=>by simp
     refine region_linY (m:=14) (E:=fun i=>i==10||i==11||i==12||i==13) (G:=fun L u w'=>ExG W2.heap.size x y L u w') (J:=fun L w=>KB W2 [] w∧(fun L w'=>True) L w) (l:=[
      (vE (.int .i64 (p:Int))),
      (vE (.bool up)),
      (vE (.agg #[.int .i64 (p:Int),.bool up])),
      (vE (.agg #[.bool lo.neg,.slice A1 j1 c1,.int .i64 lo.e])),
      (fun v wv=>DyR wv v x.raw),
      (vE (.int .i64 (p:Int))),
      (vE (.bool up)),
      (vE (.agg #[.int .i64 (p:Int),.bool up])),
      (vE (.agg #[.bool hi.neg,.slice A2 j2 c2,.int .i64 hi.e])),
      (fun v wv=>DyR wv v y.raw),
      (fun v _=>∃ b,v=.pointer (some ⟨b,0,none⟩)),
      (fun v _=>∃ b,v=.pointer (some ⟨b,0,none⟩)),
      (fun v _=>True),
      (fun v _=>True)])
      (by kernel_rfl) (fun i hE L u v w w' k h=>by exact ExG.keep hE k h) (by exact ⟨fun e=>(by cases e),fun e=>(by cases e),fun e=>(by cases e),fun _=>rfl,fun _=>rfl⟩) rfl (by kernel_rfl) (by kernel_rfl) (by kernel_rfl) ⟨mE,mE,mE,mE,mD,mE,mE,mE,mE,mD,fun v w w' k h=>by first | exact h | exact h.kept k | exact ⟨h.1,h.2.kept k⟩,fun v w w' k h=>by first | exact h | exact h.kept k | exact ⟨h.1,h.2.kept k⟩,fun v w w' k h=>by first | exact h | exact h.kept k | exact ⟨h.1,h.2.kept k⟩,fun v w w' k h=>by first | exact h | exact h.kept k | exact ⟨h.1,h.2.kept k⟩,trivial⟩ ⟨(KB.refl _ _).drew,(by trivial)⟩ (⟨
        (.inl ⟨rfl,fun LF aF wF F=>by
      have FK:KB W2 [] wF:=F.frame.1
      have fj:=F.frame.2
      refine ⟨fun wq kq=>⟨FK.step kq,by trivial⟩,?_⟩
      have s1:aF.tmps.getD 1 undef=.int .i64 (p:Int):=F.o 1
      exact sv rfl⟩),
       (.inl ⟨rfl,fun LF aF wF F=>by
      have FK:KB W2 [] wF:=F.frame.1
      have fj:=F.frame.2
      refine ⟨fun wq kq=>⟨FK.step kq,by trivial⟩,?_⟩
      have s2:aF.tmps.getD 2 undef=.bool up:=F.o 2
      exact sv rfl⟩),
       (.inl ⟨rfl,fun LF aF wF F=>by
      have FK:KB W2 [] wF:=F.frame.1
      have fj:=F.frame.2
      refine ⟨fun wq kq=>⟨FK.step kq,by trivial⟩,?_⟩
      have s42:=F.v 0 42
      have s43:=F.v 1 43
      simp only [Array.getD_eq_getD_getElem?] at s42
      simp only [Array.getD_eq_getD_getElem?] at s43
      exact sv rfl⟩),
       (.inl ⟨rfl,fun LF aF wF F=>by
      have FK:KB W2 [] wF:=F.frame.1
      have fj:=F.frame.2
      refine ⟨fun wq kq=>⟨FK.step kq,by trivial⟩,?_⟩
      have s10:aF.tmps.getD 10 undef=(.pointer (some ⟨b10,0,none⟩)):=F.o 10
      have c0:=cell_atX HL.out FK (NN _) 0 _ rfl
      have c1:=cell_atX HL.out FK (NN _) 1 _ rfl
      have c2:=cell_atX HL.out FK (NN _) 2 _ rfl
      exact sv rfl⟩),
       (.inl ⟨rfl,fun LF aF wF F=>by
      have FK:KB W2 [] wF:=F.frame.1
      have fj:=F.frame.2
      refine ⟨fun wq kq=>⟨FK.step kq,by trivial⟩,?_⟩
      have s44:=F.v 2 44
      have s45:=F.v 3 45
      exact step_good (by simp [Region.wanted]) (by go_simp) (C1.out _ _ (K.out.trans FK.nil) (ZL.out.kept FK.nil)) (fun _ _ h=>RetD.good h) (fun _ _ h=>h)⟩),
       (.inl ⟨rfl,fun LF aF wF F=>by
      have FK:KB W2 [] wF:=F.frame.1
      have fj:=F.frame.2
      refine ⟨fun wq kq=>⟨FK.step kq,by trivial⟩,?_⟩
      have s1:aF.tmps.getD 1 undef=.int .i64 (p:Int):=F.o 1
      exact sv rfl⟩),
       (.inl ⟨rfl,fun LF aF wF F=>by
      have FK:KB W2 [] wF:=F.frame.1
      have fj:=F.frame.2
      refine ⟨fun wq kq=>⟨FK.step kq,by trivial⟩,?_⟩
      have s2:aF.tmps.getD 2 undef=.bool up:=F.o 2
      exact sv rfl⟩),
       (.inl ⟨rfl,fun LF aF wF F=>by
      have FK:KB W2 [] wF:=F.frame.1
      have fj:=F.frame.2
      refine ⟨fun wq kq=>⟨FK.step kq,by trivial⟩,?_⟩
      have s47:=F.v 5 47
      have s48:=F.v 6 48
      simp only [Array.getD_eq_getD_getElem?] at s47
      simp only [Array.getD_eq_getD_getElem?] at s48
      exact sv rfl⟩),
       (.inl ⟨rfl,fun LF aF wF F=>by
      have FK:KB W2 [] wF:=F.frame.1
      have fj:=F.frame.2
      refine ⟨fun wq kq=>⟨FK.step kq,by trivial⟩,?_⟩
      have s11:aF.tmps.getD 11 undef=(.pointer (some ⟨b10+1,0,none⟩)):=F.o 11
      have c0:=cell_atX HH.out FK (NN _) 0 _ rfl
      have c1:=cell_atX HH.out FK (NN _) 1 _ rfl
      have c2:=cell_atX HH.out FK (NN _) 2 _ rfl
      exact sv rfl⟩),
       (.inl ⟨rfl,fun LF aF wF F=>by
      have FK:KB W2 [] wF:=F.frame.1
      have fj:=F.frame.2
      refine ⟨fun wq kq=>⟨FK.step kq,by trivial⟩,?_⟩
      have s49:=F.v 7 49
      have s50:=F.v 8 50
      exact step_good (by simp [Region.wanted]) (by go_simp) (C2.out _ _ (K.out.trans FK.nil) (ZH.out.kept FK.nil)) (fun _ _ h=>RetD.good h) (fun _ _ h=>h)⟩),
       (.inr fun LF uF aF wF F FV=>by
      have FK:KB W2 [] wF:=F.frame.1
      have fj:=F.frame.2
      exact stepGU_set (by simp [Region.wanted]) (by go_simp) ⟨(FK.nil.trans (kept_alloc _ _)).kb [],trivial⟩ (stab_of _ ⟨.inr vS,.inr vS,.inr vS,.inr vS,.inr (fun u h=>by first | exact h.kept (kept_alloc _ _) | exact h),.inr vS,.inr vS,.inr vS,.inr vS,.inr (fun u h=>by first | exact h.kept (kept_alloc _ _) | exact h),.inl rfl,.inr (fun u h=>by first | exact h.kept (kept_alloc _ _) | exact h),.inr (fun u h=>h),.inr (fun u h=>h),trivial⟩) ⟨_,rfl⟩ (FV.g.put10 FK.size F.yet)),
       (.inr fun LF uF aF wF F FV=>by
      have FK:KB W2 [] wF:=F.frame.1
      have fj:=F.frame.2
      exact stepGU_set (by simp [Region.wanted]) (by go_simp) ⟨(FK.nil.trans (kept_alloc _ _)).kb [],trivial⟩ (stab_of _ ⟨.inr vS,.inr vS,.inr vS,.inr vS,.inr (fun u h=>by first | exact h.kept (kept_alloc _ _) | exact h),.inr vS,.inr vS,.inr vS,.inr vS,.inr (fun u h=>by first | exact h.kept (kept_alloc _ _) | exact h),.inr (fun u h=>by first | exact h.kept (kept_alloc _ _) | exact h),.inl rfl,.inr (fun u h=>h),.inr (fun u h=>h),trivial⟩) ⟨_,rfl⟩ (FV.g.put11 FK.size F.yet)),
       (.inr fun LF uF aF wF F FV=>by
      have FK:KB W2 [] wF:=F.frame.1
      have fj:=F.frame.2
      have s12:=F.p 10 12
      have s46:=F.p 4 46
      obtain ⟨b,hb,hS,B0,-⟩:=FV.g.1 (F.wait 10 (by kernel_rfl));replace B0:=B0 F.yet;have e12:=(FV.eq 10 12 (by kernel_rfl) rfl).trans hb;clear s12;obtain ⟨A3,j3,c3,e46,z1⟩:=dyR_split s46;obtain ⟨-,y0,y1,y2,g0,g1,g2⟩:=B0.facts;exact stepGU_store (w':=dyW wF b (.bool x.neg) (.slice A3 j3 c3) (.int .i64 x.e)) (by simp [Region.wanted]) (by go_simp;rfl) ⟨(dyW_kept FK.nil hS).kb [],trivial⟩ (stab_of _ ⟨.inr vS,.inr vS,.inr vS,.inr vS,.inr (fun u h=>by first | exact h.dyW B0 (noLimb_bool _) (noLimb_slice _ _ _) (noLimb_i64 _) _ _ _ | exact h),.inr vS,.inr vS,.inr vS,.inr vS,.inr (fun u h=>by first | exact h.dyW B0 (noLimb_bool _) (noLimb_slice _ _ _) (noLimb_i64 _) _ _ _ | exact h),.inr (fun u h=>by first | exact h.dyW B0 (noLimb_bool _) (noLimb_slice _ _ _) (noLimb_i64 _) _ _ _ | exact h),.inr (fun u h=>by first | exact h.dyW B0 (noLimb_bool _) (noLimb_slice _ _ _) (noLimb_i64 _) _ _ _ | exact h),.inl rfl,.inr (fun u h=>h),trivial⟩) trivial (FV.g.put12 (F.wait 10 (by kernel_rfl)) hb hS B0 z1)),
       (.inr fun LF uF aF wF F FV=>by
      have FK:KB W2 [] wF:=F.frame.1
      have fj:=F.frame.2
      have s13:=F.p 11 13
      have s51:=F.p 9 51
      obtain ⟨b,hb,hS,B0,-⟩:=FV.g.2.1 (F.wait 11 (by kernel_rfl));replace B0:=B0 F.yet;have e13:=(FV.eq 11 13 (by kernel_rfl) rfl).trans hb;clear s13;obtain ⟨A3,j3,c3,e51,z1⟩:=dyR_split s51;obtain ⟨-,y0,y1,y2,g0,g1,g2⟩:=B0.facts;exact stepGU_store (w':=dyW wF b (.bool y.neg) (.slice A3 j3 c3) (.int .i64 y.e)) (by simp [Region.wanted]) (by go_simp;rfl) ⟨(dyW_kept FK.nil hS).kb [],trivial⟩ (stab_of _ ⟨.inr vS,.inr vS,.inr vS,.inr vS,.inr (fun u h=>by first | exact h.dyW B0 (noLimb_bool _) (noLimb_slice _ _ _) (noLimb_i64 _) _ _ _ | exact h),.inr vS,.inr vS,.inr vS,.inr vS,.inr (fun u h=>by first | exact h.dyW B0 (noLimb_bool _) (noLimb_slice _ _ _) (noLimb_i64 _) _ _ _ | exact h),.inr (fun u h=>by first | exact h.dyW B0 (noLimb_bool _) (noLimb_slice _ _ _) (noLimb_i64 _) _ _ _ | exact h),.inr (fun u h=>by first | exact h.dyW B0 (noLimb_bool _) (noLimb_slice _ _ _) (noLimb_i64 _) _ _ _ | exact h),.inr (fun u h=>h),.inl rfl,trivial⟩) trivial (FV.g.put13 (F.wait 11 (by kernel_rfl)) hb hS B0 z1)),
       trivial⟩) ?_
     intro u w5 L1 hL j1 hu hg
     obtain ⟨hgx,hgy,hgn,-,-⟩:=hg;replace hgx:=hgx (hL 10 (by decide));replace hgy:=hgy (hL 11 (by decide));rw [hL 12 (by decide)] at hgx;rw [hL 13 (by decide)] at hgy
     obtain ⟨q5,j1⟩:=j1
     have p46:=hp hu 4
     have p51:=hp hu 9
     have p12:=hp hu 10
     have p13:=hp hu 11
     simp only [puts,slotOf,if_true,Act.put,z1,z2,z3,z4,z5,z6,z7,hv hu 0,hv hu 1,hv hu 2,hv hu 3,hv hu 5,hv hu 6,hv hu 7,hv hu 8]
     clear hu
     generalize u 4=v46 at *
     generalize u 9=v51 at *
     generalize u 10=v12 at *
     generalize u 11=v13 at *
     obtain ⟨b12,rfl,hb12,-,hx⟩:=hgx
     obtain ⟨b13,rfl,hb13,-,hy⟩:=hgy
     obtain ⟨A3,j3,c3,BX,Z3⟩:=hx rfl
     obtain ⟨A4,j4,c4,BY,Z4⟩:=hy rfl
     have lX:w.heap.size+1<b12:=by omega
     replace K:=hid (K.out.trans q5.nil)
     replace HA:=hid (HA.out.kept q5.nil)
     replace HB:=hid (HB.out.kept q5.nil)
     have HX:=hid BX
     have HY:=hid BY
     replace Z3:=hid Z3
     replace Z4:=hid Z4
     clear hx hy BX BY q5 j1 hL hgn p46 p51 p12 p13 HL HH ZL ZH C1 C2
     obtain ⟨-,a0,a1,a2,-⟩:=HX.out.facts
     obtain ⟨-,x0,x1,x2,-⟩:=HY.out.facts
     go_wp2_with fail
     refine (CS.out _ _ _ Z3.out Z4.out).mono ?_
     rintro ee w6 ⟨rfl,q⟩
     simp only []
     replace K:=hid (K.out.trans q)
     replace HA:=hid (HA.out.kept q)
     replace HB:=hid (HB.out.kept q)
     replace HX:=hid (HX.out.kept q)
     replace Z3:=hid (Z3.out.kept q)
     clear q a0 a1 a2 x0 x1 x2 HY Z4 CS
     cases hsm:sameR x.raw y.raw with
     | true =>
       rw [hsm,if_pos rfl] at HE
       have ho:=HE.out
       subst ho
       clear HE
       obtain ⟨-,a0,a1,a2,-⟩:=HX.out.facts
       obtain ⟨-,x0,x1,x2,y0,y1,y2⟩:=HB.out.facts
       go_wp2_with fail
       rw [Exit.noGoto_ret]
       exact ret_dy2 (HB.out.laid _ _ _) rfl rfl rfl ⟨dyW_kept K.out (by omega),_,rfl,Z3.out.dyW HB.out (noLimb_bool _) (noLimb_slice _ _ _) (noLimb_i64 _) _ _ _⟩
     | false =>
       rw [hsm,if_neg (by decide)] at HE
       go_wp2_with fail
       exact ⟨⟨f,wk+wk/2,congrArg (Value.int .i64) (by omega),by omega,by omega,HE.out,by omega,K.out,HA.out,HB.out⟩,by simp [intOf];omega⟩
theorem far_q:far.q=64:=by
 have h:pw 6=((2^6:Nat):Rat):=pw_nat 6
 show (1:Rat)*pw 6=64
 rw [h,Rat.one_mul]
 rfl
theorem top_of_q {m:Nat}{e:Int}(h0:m≠0)(h:(m:Rat)*pw e≤64):(bl m:Int)+e≤7:=by
 by_cases hc:(bl m:Int)+e≤7
 ·exact hc
 ·exfalso
  have hp:=bl_pos m h0
  have h2:pw ((bl m-1:Nat):Int)≤(m:Rat):=by rw [pw_nat];exact Rat.natCast_le_natCast.2 (two_bl_le m h0)
  have h3:pw ((bl m-1:Nat):Int)*pw e≤(m:Rat)*pw e:=Rat.mul_le_mul_of_nonneg_right h2 (pw_nonneg e)
  rw [←pw_add] at h3
  have h4:pw 7≤pw (((bl m-1:Nat):Int)+e):=pw_mono (by omega)
  have h5:pw 7=128:=(pw_nat 7).trans (by rfl)
  grind
theorem mayX_facts {d:Dy}{p:Int}(h:mayX d.raw p=0):-400≤d.e∧(d.m≠0→topD (absD d)≤7):=by
 unfold mayX at h
 split at h
 ·split at h
  ·rename_i h1 h2
   split at h
   ·exact absurd h (by decide)
   ·rename_i h3
    refine ⟨by have:d.raw.e=d.e:=rfl;omega,fun h0=>?_⟩
    simp only [Bool.and_eq_true,decide_eq_true_eq,Dy.raw_dy] at h2
    have a:=cmpQ_le.1 h2.1
    have b:=cmpQ_ge.1 h2.2
    rw [negD_q] at b
    rw [far_q] at a b
    refine top_of_q h0 ?_
    show (d.m:Rat)*pw d.e≤64
    unfold Dy.q sq at a b
    cases hn:d.neg<;>simp only [hn] at a b<;>grind
  ·exact absurd h (by decide)
 ·exact absurd h (by decide)
theorem near_of {d:Dy}(ok:d.Ok)(hz:d.m≠0)(h:-400≤d.e∧(d.m≠0→topD (absD d)≤7)){wk:Nat}(h1:1≤wk)(h2:wk≤2000)(up:Bool):nearG wk up (bndR (absD d)) 400 1 one one=some (nearO wk up d):=by
 obtain ⟨a,b,c⟩:=bndR_facts (d:=absD d) hz (bl_of_len d.m 64 ok.len) h.1 (h.2 hz)
 obtain ⟨o,ho⟩:=nearG_ends (up:=up) h1 h2 a b c
 unfold nearO
 rw [ho]
 rfl
theorem nearO_ok (p:Nat)(up:Bool)(d:Dy):(nearO p up d).1.Ok∧(nearO p up d).2.Ok:=by
 unfold nearO
 cases h:nearG p up (bndR (absD d)) 400 1 one one with
 | none=>exact ⟨d1_ok,d1_ok⟩
 | some o=>exact nearG_ok _ _ _ _ h d1_ok d1_ok
theorem bnE_ok (d:Dy)(w:Nat):(bnE d w).1.Ok∧(bnE d w).2.Ok:=by
 have h:∀ up,(bndD w up d (nearO w up d)).Ok:=fun up=>sqrN_ok _ _ _ _ (nearD_ok (nearO_ok _ _ _))
 unfold bnE bndsD
 split
 ·exact ⟨(quotZ_ok _ _ _ _).1,(quotZ_ok _ _ _ _).1⟩
 ·exact ⟨h _,h _⟩
theorem xexpG_c {w:World}{v:Value}{d:Dy}{p:Nat}{up:Bool}(hv:DyR w v d.raw)(ok:d.Ok)(p1:1≤p)(p2:p≤300)(hT:Tab w) :
 Calls Tryz.prog 144 #[v,.int .i64 (p:Int),.bool up] w (RetE (expD d p up).raw w):=by
 unfold expD
 by_cases h0:mayX d.raw p=0
 ·rw [if_neg (by simpa using h0)]
  by_cases hz:d.m=0
  ·rw [if_pos hz]
   exact xexp0_c hv ok hT h0 hz
  ·rw [if_neg hz]
   have hm:=mayX_facts h0
   exact xexpL_c hv ok p1 p2 hT h0 hz (fun wk a b w1 k=>xbounds_c (hv.kept k) ok a b (hT.kept k) (near_of ok hz hm a b false) (near_of ok hz hm a b true) (by decide)) (bnE_ok d)
 ·rw [if_pos h0]
  have h:=xexpE_c (up:=up) hv (by have:=dy_len ok;omega) hT h0
  have e:(bad (mayX d.raw p):Outc Dy).raw=⟨rz,mayX d.raw p⟩:=by show Outc.mk dz.raw _=_;rw [dz_raw];rfl
  rw [e]
  exact h
end Go.Proofs.YtabjjdicffcolaaGreatDoor
namespace Go.Proofs.YtabjjdicffcolaaGreatDoor
def sqn (x:Rat):Nat→Rat
 | 0=>x
 | k+1=>sqn (x*x) k
theorem sqn_mono:∀ (k:Nat) {x y:Rat},0≤x→x≤y→sqn x k≤sqn y k
 | 0,_,_,_,h=>h
 | k + 1, x, y, h0, h => by
   refine sqn_mono k (Rat.mul_nonneg h0 h0) ?_
   have h1:=Rat.mul_le_mul_of_nonneg_left h h0
   have h2:=Rat.mul_le_mul_of_nonneg_right h (Rat.le_trans h0 h)
   exact Rat.le_trans h1 h2
theorem sqn_one:∀ k,sqn 1 k=1
 | 0=>rfl
 | k + 1 => by
   show sqn (1*1) k=1
   rw [Rat.mul_one]
   exact sqn_one k
theorem sqn_ge {x:Rat}(k:Nat)(h:1≤x):1≤sqn x k:=by
 have h2:=sqn_mono k (show (0:Rat)≤1 by decide) h
 rwa [sqn_one] at h2
theorem eS_half {x:Rat}(h:0≤x)(n:Nat):eS x n≤eS (x*pw (-1)) n*eS (x*pw (-1)) n:=by
 have e:=pw_m1
 have h1:0≤x*pw (-1):=Rat.mul_nonneg h (pw_nonneg _)
 have h2:=eS_add h1 h1 n
 have h3:x*pw (-1)+x*pw (-1)=x:=by rw [e];grind
 rwa [h3] at h2
theorem eS_halves {x:Rat}(h:0≤x)(n k:Nat):∀ i:Nat,sqn (eS x n) k≤sqn (eS (x*pw (-(i:Int))) n) (k+i)
 | 0 => by
   have e:x*pw (-((0:Nat):Int))=x:=by
    rw [show (-((0:Nat):Int))=0 from rfl,pw_zero,Rat.mul_one]
   rw [e]
   exact Rat.le_refl
 | i + 1 => by
   have h1:=eS_halves h n k i
   have h0:0≤x*pw (-(i:Int)):=Rat.mul_nonneg h (pw_nonneg _)
   have h2:=sqn_mono (k+i) (eS_nonneg h0 n) (eS_half h0 n)
   have e:x*pw (-(i:Int))*pw (-1)=x*pw (-((i+1:Nat):Int)):=by
    rw [Rat.mul_assoc,←pw_add]
    congr 2
    omega
   rw [e] at h2
   exact Rat.le_trans h1 h2
theorem bndR_q {d:Dy}(h0:d.m≠0)(hl:bl d.m≤4096)(h1:-400≤d.e)(h2:topD d≤7):(bndR d).q=d.q*pw (-(bndK d:Int))∧(bndR d).neg=d.neg∧topD (bndR d)=topD d-(bndK d:Int):=by
 have hp:=bl_pos _ h0
 have h2':=h2
 unfold topD at h2'
 have hK:(bndK d:Int)=max (topD d+8) 0:=by unfold bndK;omega
 have hz:=tz_lt _ _ h0 (lt_two_bl d.m)
 have ek:(shiftD d (-(bndK d:Int)))=fitD d.neg d.m (d.e+-(bndK d:Int)):=by
  unfold shiftD
  rw [if_neg h0,if_neg (by omega)]
 obtain ⟨a,b⟩:=fitD_k (neg:=d.neg) (n:=d.m) (e:=d.e+-(bndK d:Int)) h0 (by omega) (by omega) (by omega)
 obtain ⟨c,f,g⟩:=fitD_top (neg:=d.neg) (n:=d.m) (e:=d.e+-(bndK d:Int)) h0 (by omega) (by omega) (by omega)
 refine ⟨shiftD_q (by rw [ek];exact a),?_,?_⟩
 ·unfold bndR
  rw [ek]
  exact b
 ·unfold bndR
  rw [ek,f]
  unfold topD
  omega
def eP (a:Dy) (n:Nat):Rat:=sqn (eS (bndR a).q n) (bndK a)
structure ExN (a:Dy):Prop where
 m:a.m≠0
 neg:a.neg=false
 len:bl a.m≤4096
 e:-400≤a.e
 top:topD a≤7
theorem ExN.r {a:Dy}(h:ExN a):(bndR a).q=a.q*pw (-(bndK a:Int))∧(bndR a).neg=false∧topD (bndR a)=topD a-(bndK a:Int)∧(bndR a).m≠0∧-500≤(bndR a).e∧topD (bndR a)≤-8:=by
 obtain ⟨b1,b2,b3⟩:=bndR_q h.m h.len h.e h.top
 obtain ⟨c1,c2,c3⟩:=bndR_facts h.m h.len h.e h.top
 exact ⟨b1,b2.trans h.neg,b3,c1,c2,c3⟩
theorem ExN.pos {a:Dy}(h:ExN a):0<a.q:=q_gt h.m h.neg
theorem ExN.rpos {a:Dy}(h:ExN a):0≤(bndR a).q:=by
 rw [h.r.1]
 exact Rat.mul_nonneg (Rat.le_of_lt h.pos) (pw_nonneg _)
theorem eP_ge {a:Dy}(h:ExN a){n:Nat}(hn:1≤n):1≤eP a n:=sqn_ge _ (eS_pos h.rpos hn)
theorem eP_mono {a b:Dy}(ha:ExN a)(hb:ExN b)(h:a.q≤b.q)(n:Nat):eP a n≤eP b n:=by
 have ht:topD a≤topD b:=by
  have h1:=(q_top ha.m ha.neg).1
  have h2:=(q_top hb.m hb.neg).2
  have h3:pw (topD a-1)<pw (topD b):=by grind
  have:=pw_lt_inv h3
  omega
 have hk:bndK a≤bndK b:=by unfold bndK;omega
 unfold eP
 obtain ⟨i,hi⟩:∃ i:Nat,bndK b=bndK a+i:=⟨bndK b-bndK a,by omega⟩
 rw [ha.r.1,hb.r.1,hi]
 have h1:a.q*pw (-(bndK a:Int))≤b.q*pw (-(bndK a:Int)):=Rat.mul_le_mul_of_nonneg_right h (pw_nonneg _)
 have h0:0≤a.q*pw (-(bndK a:Int)):=Rat.mul_nonneg (Rat.le_of_lt ha.pos) (pw_nonneg _)
 have h2:=sqn_mono (bndK a) (eS_nonneg h0 n) (eS_mono h0 h1 n)
 have h3:=eS_halves (Rat.le_trans h0 h1) n (bndK a) i
 have e:b.q*pw (-(bndK a:Int))*pw (-(i:Int))=b.q*pw (-((bndK a+i:Nat):Int)):=by
  rw [Rat.mul_assoc,←pw_add]
  congr 2
  omega
 rw [e] at h3
 exact Rat.le_trans h2 h3
def EL (d:Dy) (y:Rat):Prop:=if d.m=0 then y≤1 else if d.neg then ∃ c,1≤c∧(∀ n,eP (absD d) n≤c)∧y*c≤1 else ∃ n,1≤n∧y≤eP (absD d) n
def EU (d:Dy) (y:Rat):Prop:=if d.m=0 then 1≤y else if d.neg then 0<y∧∃ n,1≤y*eP (absD d) n else ∀ n,eP (absD d) n≤y
theorem absD_q {d:Dy}:d.q=if d.neg then -(absD d).q else (absD d).q:=by
 unfold Dy.q sq absD
 cases d.neg
 ·simp
 ·simp [Rat.neg_mul]
def ExM (d:Dy):Prop:=d.m≠0→ExN (absD d)
theorem EL_EU {d d':Dy}{y y':Rat}(hd:ExM d)(hd':ExM d')(h:d.q≤d'.q)(hl:EL d y)(hu:EU d' y'):y≤y':=by
 have q0:∀ {d:Dy},d.m=0→d.q=0:=fun h=>zero_q h
 unfold EL at hl
 unfold EU at hu
 by_cases h1:d.m=0
 ·rw [if_pos h1] at hl
  by_cases h2:d'.m=0
  ·rw [if_pos h2] at hu
   exact Rat.le_trans hl hu
  ·rw [if_neg h2] at hu
   have n2:=hd' h2
   cases hn:d'.neg with
   | true =>
     exfalso
     have e:=absD_q (d:=d')
     rw [hn,if_pos rfl] at e
     have:=n2.pos
     rw [q0 h1,e] at h
     grind
   | false =>
     rw [hn,if_neg (by decide)] at hu
     exact Rat.le_trans hl (Rat.le_trans (eP_ge n2 (Nat.le_refl 1)) (hu 1))
 ·rw [if_neg h1] at hl
  have n1:=hd h1
  have e1:=absD_q (d:=d)
  have p1:=n1.pos
  cases hn1:d.neg with
  | true =>
    rw [hn1,if_pos rfl] at hl e1
    obtain ⟨c,c1,c2,c3⟩:=hl
    have hy:y≤1:=by
     rcases Rat.le_total (a:=y) (b:=0) with hy0 | hy0
     ·exact Rat.le_trans hy0 (by decide)
     ·have := Rat.mul_le_mul_of_nonneg_left c1 hy0
      rw [Rat.mul_one] at this
      exact Rat.le_trans this c3
    by_cases h2:d'.m=0
    ·rw [if_pos h2] at hu
     exact Rat.le_trans hy hu
    ·rw [if_neg h2] at hu
     have n2:=hd' h2
     cases hn:d'.neg with
     | true =>
       rw [hn,if_pos rfl] at hu
       obtain ⟨u1,n,u2⟩:=hu
       have e2:=absD_q (d:=d')
       rw [hn,if_pos rfl] at e2
       have h3:(absD d').q≤(absD d).q:=by
        rw [e1,e2] at h
        grind
       have h4:=Rat.le_trans (eP_mono n2 n1 h3 n) (c2 n)
       have h5:=Rat.mul_le_mul_of_nonneg_left h4 (Rat.le_of_lt u1)
       have h6:y*c≤y'*c:=Rat.le_trans c3 (Rat.le_trans u2 h5)
       have h7:0<c:=by grind
       have h8:0<c⁻¹:=Rat.inv_pos.2 h7
       have h9:c*c⁻¹=1:=Rat.mul_inv_cancel _ (by grind)
       have h10:=Rat.mul_le_mul_of_nonneg_right h6 (Rat.le_of_lt h8)
       rwa [Rat.mul_assoc,Rat.mul_assoc,h9,Rat.mul_one,Rat.mul_one] at h10
     | false =>
       rw [hn,if_neg (by decide)] at hu
       exact Rat.le_trans hy (Rat.le_trans (eP_ge n2 (Nat.le_refl 1)) (hu 1))
  | false =>
    rw [hn1,if_neg (by decide)] at hl e1
    obtain ⟨n,hn0,hl⟩:=hl
    by_cases h2:d'.m=0
    ·exfalso
     rw [q0 h2,e1] at h
     grind
    ·rw [if_neg h2] at hu
     have n2:=hd' h2
     have e2:=absD_q (d:=d')
     have p2:=n2.pos
     cases hn:d'.neg with
     | true =>
       exfalso
       rw [hn,if_pos rfl] at e2
       rw [e1,e2] at h
       grind
     | false =>
       rw [hn,if_neg (by decide)] at hu e2
       rw [e1,e2] at h
       exact Rat.le_trans hl (Rat.le_trans (eP_mono n1 n2 h n) (hu n))
def ExpS (d:Dy) (p:Nat) (up:Bool) (z:Dy):Prop:=∃ lo hi,EL d lo∧EU d hi∧IsDir up p lo z.q∧IsDir up p hi z.q
theorem ExpS.order {d d':Dy}{p p':Nat}{z z':Dy}(hd:ExM d)(hd':ExM d')(h:d.q≤d'.q)(a:ExpS d p false z)(b:ExpS d' p' true z'):z.q≤z'.q:=by
 obtain ⟨lo,hi,a1,a2,a3,a4⟩:=a
 obtain ⟨lo',hi',b1,b2,b3,b4⟩:=b
 exact Rat.le_trans (IsDown.le a3) (Rat.le_trans (EL_EU hd hd' h a1 b2) (IsUp.le b4))
theorem ExpS.down {d d':Dy}{p p':Nat}{z z':Dy}(hd:ExM d)(hd':ExM d')(h:d.q≤d'.q)(hp:p≤p')(a:ExpS d p false z)(b:ExpS d' p' false z'):z.q≤z'.q:=by
 obtain ⟨lo,hi,a1,a2,a3,a4⟩:=a
 obtain ⟨lo',hi',b1,b2,b3,b4⟩:=b
 exact IsDown.mono a3 b4 hp (EL_EU hd hd' h a1 b2)
theorem ExpS.up {d d':Dy}{p p':Nat}{z z':Dy}(hd:ExM d)(hd':ExM d')(h:d.q≤d'.q)(hp:p'≤p)(a:ExpS d p true z)(b:ExpS d' p' true z'):z.q≤z'.q:=by
 obtain ⟨lo,hi,a1,a2,a3,a4⟩:=a
 obtain ⟨lo',hi',b1,b2,b3,b4⟩:=b
 exact IsUp.mono b4 a3 hp (EL_EU hd hd' h a1 b2)
structure Nm (p:Nat) (B:Int) (x:Dy):Prop where
 m:x.m≠0
 neg:x.neg=false
 b:bl x.m≤p
 lo:-B≤topD x
 hi:topD x≤B
theorem Nm.pos {p:Nat}{B:Int}{x:Dy}(h:Nm p B x):0<x.q:=q_gt h.m h.neg
theorem rnd_nm {p:Nat}{B:Int}{up:Bool}{d:Dy}(p1:1≤p)(p2:p≤2000)(h0:d.m≠0)(hn:d.neg=false)(h1:-1000000≤d.e)(h2:topD d≤B)(h3:-B≤topD d)(hB:B≤1000000) :
 Nm p (B+1) (rndS p up d)∧IsDir up p d.q (rndS p up d).q:=by
 obtain ⟨a,b,c,e⟩:=rndS_dir (up:=up) p1 p2 h0 h1 (by omega)
 obtain ⟨t1,t2⟩:=q_top h0 hn
 have hb:=b.trans hn
 have u1:=dir_ge a (fits_pw p1 (topD d-1)) t1
 have u2:=dir_le a (fits_pw p1 (topD d)) (Rat.le_of_lt t2)
 have:=top_ge c hb u1
 have:=top_le c hb u2
 exact ⟨⟨c,hb,e,by omega,by omega⟩,a⟩
theorem mul_nm {p:Nat}{x:Dy}{B:Int}(p2:p≤2000)(h:Nm p B x)(hB:B≤200000):(mulD x x).v.m≠0∧(mulD x x).v.neg=false∧(mulD x x).v.q=x.q*x.q∧topD (mulD x x).v≤2*topD x∧2*topD x-1≤topD (mulD x x).v∧-900000≤(mulD x x).v.e:=by
 have hlo:=h.lo
 have hhi:=h.hi
 have hb:=h.b
 have hp:=bl_pos _ h.m
 unfold topD at hlo hhi
 have hz:=Nat.mul_ne_zero h.m h.m
 have h1:=mul_lt_bl (Nat.le_refl (bl x.m)) (Nat.le_refl (bl x.m))
 have h2:=mul_bl_ge h.m h.m
 have h3:=tz_lt _ _ hz (lt_two_bl _)
 obtain ⟨a,b⟩:=fitD_k (neg:=x.neg != x.neg) (e:=x.e+x.e) hz (by omega) (by omega) (by omega)
 obtain ⟨c,f,g⟩:=fitD_top (neg:=x.neg != x.neg) (e:=x.e+x.e) hz (by omega) (by omega) (by omega)
 have f':topD (mulD x x).v=(bl (x.m*x.m):Int)+(x.e+x.e):=f
 have g':bl (mulD x x).v.m=bl (x.m*x.m)-tz (x.m*x.m):=g
 refine ⟨c,?_,mulD_q a,?_,?_,?_⟩
 ·refine Eq.trans b ?_
  cases x.neg<;>rfl
 ·rw [f'];unfold topD;omega
 ·rw [f'];unfold topD;omega
 ·unfold topD at f'
  omega
theorem sqr_step {p:Nat}{up:Bool}{x:Dy}{B:Int}(p1:1≤p)(p2:p≤2000)(h:Nm p B x)(hB:B≤200000):Nm p (2*B+2) (sqrS p up x)∧IsDir up p (x.q*x.q) (sqrS p up x).q:=by
 obtain ⟨a,b,c,d,e,f⟩:=mul_nm p2 h hB
 have hlo:=h.lo
 have hhi:=h.hi
 obtain ⟨g1,g2⟩:=rnd_nm (B:=2*B+1) (up:=up) p1 p2 a b (by omega) (by omega) (by omega) (by omega)
 rw [c] at g2
 exact ⟨⟨g1.m,g1.neg,g1.b,by have:=g1.lo;show _≤topD (rndS p up (mulD x x).v);omega,by have:=g1.hi;show topD (rndS p up (mulD x x).v)≤_;omega⟩,g2⟩
theorem sqr_all {p:Nat}{up:Bool}(p1:1≤p)(p2:p≤2000):∀ (k:Nat) (x:Dy) (B:Int),k≤15→B+2≤2^(17-k)→Nm p B x→1≤x.q →
 Nm p 200000 (sqrN p up k x)∧1≤(sqrN p up k x).q∧(if up then sqn x.q k≤(sqrN p up k x).q else (sqrN p up k x).q≤sqn x.q k)
 | 0, x, B, _, hB, h, h1 => by
   have hB':B+2≤131072:=by simpa using hB
   refine ⟨⟨h.m,h.neg,h.b,?_,?_⟩,h1,?_⟩
   ·have := h.lo
    show _≤topD x
    omega
   ·have := h.hi
    show topD x≤_
    omega
   ·cases up
    ·exact Rat.le_refl
    ·exact Rat.le_refl
 | k + 1, x, B, hk, hB, h, h1 => by
   have e:(17-k:Nat)=17-(k+1)+1:=by omega
   have hB2:(2*B+2)+2≤2^(17-k):=by
    rw [e,Int.pow_succ]
    omega
   have hBm:B≤200000:=by
    have h2:(2:Int)^(17-(k+1))≤2^17:=by
     have:=Nat.pow_le_pow_right (show 0<2 by decide) (show 17-(k+1)≤17 by omega)
     exact_mod_cast this
    have h3:(2:Int)^17=131072:=by decide
    omega
   obtain ⟨g1,g2⟩:=sqr_step (up:=up) p1 p2 h hBm
   have hx:1≤x.q*x.q:=by
    have:=Rat.mul_le_mul_of_nonneg_left h1 (Rat.le_trans (show (0:Rat)≤1 by decide) h1)
    grind
   have h1':=dir_ge g2 (fits_one p1) hx
   obtain ⟨i1,i2,i3⟩:=sqr_all p1 p2 k (sqrS p up x) (2*B+2) (by omega) hB2 g1 h1'
   refine ⟨i1,i2,?_⟩
   cases up with
   | true =>
     have i3':sqn (sqrS p true x).q k≤(sqrN p true k (sqrS p true x)).q:=i3
     show sqn (x.q*x.q) k≤(sqrN p true k (sqrS p true x)).q
     exact Rat.le_trans (sqn_mono k (Rat.le_trans (show (0:Rat)≤1 by decide) hx) (IsUp.le g2)) i3'
   | false =>
     have i3':(sqrN p false k (sqrS p false x)).q≤sqn (sqrS p false x).q k:=i3
     show (sqrN p false k (sqrS p false x)).q≤sqn (x.q*x.q) k
     exact Rat.le_trans i3' (sqn_mono k (Rat.le_trans (show (0:Rat)≤1 by decide) h1') (IsDown.le g2))
theorem bnd_lo {p:Nat}{d:Dy}(p1:17≤p)(p2:p≤2000)(h:ExN (absD d))(hn:nearG p false (bndR (absD d)) 400 1 one one=some (nearO p false d)) :
 (bndD p false d (nearO p false d)=dz)∨(Nm p 200000 (bndD p false d (nearO p false d))∧1≤(bndD p false d (nearO p false d)).q∧∃ n,1≤n∧(bndD p false d (nearO p false d)).q≤eP (absD d) n):=by
 obtain ⟨r1,r2,r3,r4,r5,r6⟩:=h.r
 have hg:NearLo p (bndR (absD d)) (nearD p false (nearO p false d)):=near_go (up:=false) p1 p2 r4 r2 r5 r6 400 1 one one _ (NI.start (by omega)) (by decide) (by decide) hn
 obtain ⟨g,n,hn1,hn2⟩:=hg
 unfold bndD
 have hK:bndK (absD d)≤15:=by have:=h.top;unfold bndK;omega
 generalize nearD p false (nearO p false d)=x at *
 rcases g with ⟨g1,g2⟩ | ⟨g1,g2,g3,g4,g5⟩
 ·left
  have hk0:bndK (absD d)=0:=by
   have hk:(bndK (absD d):Int)=max (topD (absD d)+8) 0:=by unfold bndK;omega
   omega
  rw [hk0,g1]
  rfl
 ·right
  have ht:=top_one g1 g2 g4 g5
  have hB:(2:Int)+2≤2^(17-bndK (absD d)):=by
   have:=Nat.pow_le_pow_right (show 0<2 by decide) (show 2≤17-bndK (absD d) by omega)
   have h2:((2^2:Nat):Int)≤((2^(17-bndK (absD d)):Nat):Int):=by exact_mod_cast this
   have h3:((2^(17-bndK (absD d)):Nat):Int)=(2:Int)^(17-bndK (absD d)):=by norm_cast
   omega
  obtain ⟨i1,i2,i3⟩:=sqr_all (up:=false) (by omega) p2 (bndK (absD d)) x 2 hK hB ⟨g1,g2,g3,by omega,by omega⟩ g4
  refine ⟨i1,i2,n,hn1,?_⟩
  have i3':(sqrN p false (bndK (absD d)) x).q≤sqn x.q (bndK (absD d)):=i3
  exact Rat.le_trans i3' (sqn_mono _ (Rat.le_trans (show (0:Rat)≤1 by decide) g4) hn2)
theorem bnd_hi {p:Nat}{d:Dy}(p1:17≤p)(p2:p≤2000)(h:ExN (absD d))(hn:nearG p true (bndR (absD d)) 400 1 one one=some (nearO p true d)) :
 Nm p 200000 (bndD p true d (nearO p true d))∧((bndD p true d (nearO p true d)).q≤1/2∨(1≤(bndD p true d (nearO p true d)).q∧∀ n,eP (absD d) n≤(bndD p true d (nearO p true d)).q)):=by
 obtain ⟨r1,r2,r3,r4,r5,r6⟩:=h.r
 have hg:NearHi p (bndR (absD d)) (nearD p true (nearO p true d)):=near_go (up:=true) p1 p2 r4 r2 r5 r6 400 1 one one _ (NI.start (by omega)) (by decide) (by decide) hn
 obtain ⟨g1,g2,g3,g⟩:=hg
 unfold bndD
 have hK:bndK (absD d)≤15:=by have:=h.top;unfold bndK;omega
 generalize nearD p true (nearO p true d)=x at *
 rcases g with ⟨g4,g5,g6⟩ | ⟨g4,g5,g6⟩
 ·have hk0 : bndK (absD d) = 0 := by
   have hk:(bndK (absD d):Int)=max (topD (absD d)+8) 0:=by unfold bndK;omega
   omega
  rw [hk0]
  have ht:topD x≤0:=by
   have e:=pw_m1
   have:=top_le (c:=-1) g1 g2 (by rw [e];exact g5)
   omega
  refine ⟨⟨g1,g2,g3,?_,?_⟩,.inl g5⟩
  ·show _ ≤ topD x
   omega
  ·show topD x ≤ _
   omega
 ·have ht := top_one g1 g2 g4 g5
  have hB:(2:Int)+2≤2^(17-bndK (absD d)):=by
   have:=Nat.pow_le_pow_right (show 0<2 by decide) (show 2≤17-bndK (absD d) by omega)
   have h2:((2^2:Nat):Int)≤((2^(17-bndK (absD d)):Nat):Int):=by exact_mod_cast this
   have h3:((2^(17-bndK (absD d)):Nat):Int)=(2:Int)^(17-bndK (absD d)):=by norm_cast
   omega
  obtain ⟨i1,i2,i3⟩:=sqr_all (up:=true) (by omega) p2 (bndK (absD d)) x 2 hK hB ⟨g1,g2,g3,by omega,by omega⟩ g4
  refine ⟨i1,.inr ⟨i2,fun n=>?_⟩⟩
  have i3':sqn x.q (bndK (absD d))≤(sqrN p true (bndK (absD d)) x).q:=i3
  exact Rat.le_trans (sqn_mono _ (eS_nonneg h.rpos n) (g6 n)) i3'
end Go.Proofs.YtabjjdicffcolaaGreatDoor
namespace Go.Proofs.YtabjjdicffcolaaGreatDoor
theorem inv_le {a b:Rat}(h0:0<a)(h:a≤b):1/b≤1/a:=by
 have hb:0<b:=by grind
 have ia:0<a⁻¹:=Rat.inv_pos.2 h0
 have ib:0<b⁻¹:=Rat.inv_pos.2 hb
 have ea:a*a⁻¹=1:=Rat.mul_inv_cancel _ (by grind)
 have eb:b*b⁻¹=1:=Rat.mul_inv_cancel _ (by grind)
 have h1:=Rat.mul_le_mul_of_nonneg_right h (Rat.le_of_lt (Rat.mul_pos ia ib))
 rw [Rat.div_def,Rat.div_def,Rat.one_mul,Rat.one_mul]
 have e1:a*(a⁻¹*b⁻¹)=b⁻¹:=by rw [←Rat.mul_assoc,ea,Rat.one_mul]
 have e2:b*(a⁻¹*b⁻¹)=a⁻¹:=by rw [Rat.mul_comm a⁻¹ b⁻¹,←Rat.mul_assoc,eb,Rat.one_mul]
 rwa [e1,e2] at h1
theorem inv_pw (c:Int):1/pw c=pw (-c):=by
 have h:=pw_neg c
 have h0:=pw_pos c
 have e:pw c*(pw c)⁻¹=1:=Rat.mul_inv_cancel _ (by grind)
 rw [Rat.div_def,Rat.one_mul]
 have h1:pw c*(pw c)⁻¹=pw c*pw (-c):=by rw [e,h]
 grind
theorem quot1 {p:Nat}{up:Bool}{b:Dy}(p1:1≤p)(p2:p≤2000)(h:Nm p 200000 b) :
 Nm p 200010 (quotZ one b p up).v∧IsDir up p (1/b.q) (quotZ one b p up).v.q∧-300000≤(quotZ one b p up).v.e:=by
 have b1:=h.m
 have hlo:=h.lo
 have hhi:=h.hi
 have hb:=h.b
 have hbb:=bl_pos _ b1
 have o1:one.m≠0:=by decide
 have ob:bl one.m=1:=by decide
 have oe:one.e=0:=rfl
 unfold topD at hlo hhi
 have ez:quotZ one b p up=quotD one b p up:=by
  unfold quotZ
  rw [if_neg b1]
 rw [ez]
 have hK:quotK one b p=p+1+bl b.m-bl one.m:=rfl
 have hq:=quot_bl one.m b.m p o1 b1 (quotK one b p) (by omega)
 have hk:bl (2^quotK one b p)≤quotK one b p+1:=bl_le _ _ (Nat.pow_lt_pow_right (by decide) (by omega))
 have hm2:=mul_lt_bl (Nat.le_refl (bl one.m)) hk
 have hd:=bl_quot (x:=one.m*2^quotK one b p) b1
 have hz:one.m*2^quotK one b p/b.m≠0:=by intro h;rw [h,bl_zero] at hq;omega
 obtain ⟨x,y,z⟩:=cutD_k (neg:=one.neg != b.neg) (rest:=decide (¬one.m*2^quotK one b p%b.m=0)) (up:=up) (e:=one.e-b.e-quotK one b p) hz p1 p2 (by omega) (by omega)
 obtain ⟨x',y',z'⟩:=cutD_top (neg:=one.neg != b.neg) (rest:=decide (¬one.m*2^quotK one b p%b.m=0)) (up:=up) (e:=one.e-b.e-quotK one b p) hz p1 p2 (by omega) (by omega)
 have hneg:(quotD one b p up).v.neg=false:=by
  refine Eq.trans y ?_
  rw [h.neg]
  rfl
 have hdir:IsDir up p (1/b.q) (quotD one b p up).v.q:=by
  have:=quotD_dir (up:=up) p1 b1 x
  rwa [one_q] at this
 have hm':(quotD one b p up).v.m≠0:=x'
 have hb':bl (quotD one b p up).v.m≤p:=y'
 obtain ⟨t1,t2⟩:=q_top b1 h.neg
 have u1:=inv_le (pw_pos _) t1
 have u2:=inv_le h.pos (Rat.le_of_lt t2)
 rw [inv_pw] at u1 u2
 have v1:=top_ge hm' hneg (dir_ge hdir (fits_pw p1 _) u2)
 have v2:=top_le hm' hneg (dir_le hdir (fits_pw p1 _) u1)
 have hlo':=h.lo
 have hhi':=h.hi
 have e3:topD (quotD one b p up).v=(bl (quotD one b p up).v.m:Int)+(quotD one b p up).v.e:=rfl
 exact ⟨⟨hm',hneg,hb',by omega,by omega⟩,hdir,by omega⟩
theorem sameR_eq {a b:Dy}(h:sameR a.raw b.raw=true):a=b:=by
 unfold sameR Dy.raw at h
 simp only [Bool.and_eq_true,beq_iff_eq] at h
 obtain ⟨⟨h1,h2⟩,h3⟩:=h
 have h4:a.m=b.m:=by
  have:=congrArg val h3
  rwa [val_limbs,val_limbs] at this
 cases a
 cases b
 simp only at h1 h2 h4
 subst h1 h2 h4
 rfl
theorem Nm.e {p:Nat}{B:Int}{x:Dy}(h:Nm p B x):-B-p≤x.e:=by
 have h1:=h.lo
 have h2:=h.b
 unfold topD at h1
 omega
theorem round_spec {d:Dy}{p w:Nat}{up:Bool}(ok:d.Ok)(p1:1≤p)(p2:p≤300)(w1:17≤w)(w2:w≤2000)(hz:d.m≠0)(hd:-400≤d.e∧(d.m≠0→topD (absD d)≤7))(hs:exX d p w up=exY d p w up):ExpS d p up (exX d p w up):=by
 have hN:ExN (absD d):=⟨hz,rfl,bl_of_len d.m 64 ok.len,hd.1,hd.2 hz⟩
 have lo:=bnd_lo w1 w2 hN (near_of ok hz hd (by omega) w2 false)
 have hi:=bnd_hi w1 w2 hN (near_of ok hz hd (by omega) w2 true)
 have eX:exX d p w up=rndS p up (bnE d w).1:=rfl
 have eY:exY d p w up=rndS p up (bnE d w).2:=rfl
 have eB:bnE d w=bndsD w d (bndD w false d (nearO w false d)) (bndD w true d (nearO w true d)):=rfl
 generalize bndD w false d (nearO w false d)=L at *
 generalize bndD w true d (nearO w true d)=H at *
 obtain ⟨hH,hi⟩:=hi
 have two:pw 1=2:=pw_one
 have half:pw (-1)=1/2:=pw_m1
 cases hn:d.neg with
 | false =>
   have eb:bnE d w=(L,H):=by
    rw [eB]
    unfold bndsD
    rw [hn]
    rfl
   rw [eb] at eX eY
   have eX:exX d p w up=rndS p up L:=eX
   have eY:exY d p w up=rndS p up H:=eY
   obtain ⟨g1,g2⟩:=rnd_nm (B:=200000) (up:=up) p1 (by omega) hH.m hH.neg (by have:=hH.e;omega) hH.hi hH.lo (by decide)
   rw [←eY,←hs] at g1 g2
   rcases lo with lo | ⟨lo1,lo2,lo3⟩
   ·exfalso
    rw [lo,rndS_zero] at eX
    rw [eX] at g1
    exact g1.m rfl
   ·obtain ⟨f1, f2⟩ := rnd_nm (B := 200000) (up := up) p1 (by omega) lo1.m lo1.neg (by have := lo1.e; omega) lo1.hi lo1.lo (by decide)
    rw [←eX] at f1 f2
    rcases hi with hi | ⟨hi1,hi2⟩
    ·exfalso
     have a:=dir_ge f2 (fits_one p1) lo2
     have b:=dir_le g2 (fits_pw p1 (-1)) (by rw [half];exact hi)
     rw [half] at b
     grind
    ·refine ⟨L.q, H.q, ?_, ?_, f2, g2⟩
     ·unfold EL
      rw [if_neg hz,hn,if_neg (by decide)]
      exact lo3
     ·unfold EU
      rw [if_neg hz,hn,if_neg (by decide)]
      exact hi2
 | true =>
   have eb:bnE d w=((quotZ one H w false).v,(quotZ one L w true).v):=by
    rw [eB]
    unfold bndsD
    rw [hn]
    rfl
   rw [eb] at eX eY
   have eX:exX d p w up=rndS p up (quotZ one H w false).v:=eX
   have eY:exY d p w up=rndS p up (quotZ one L w true).v:=eY
   obtain ⟨qH,dH,tH⟩:=quot1 (up:=false) (by omega) w2 hH
   obtain ⟨f1,f2⟩:=rnd_nm (B:=200010) (up:=up) p1 (by omega) qH.m qH.neg (by omega) qH.hi qH.lo (by decide)
   rw [←eX] at f1 f2
   rcases lo with lo | ⟨lo1,lo2,n,lo3,lo4⟩
   ·exfalso
    have e:(quotZ one L w true).v=dz:=by
     rw [lo]
     rfl
    rw [e,rndS_zero] at eY
    rw [hs,eY] at f1
    exact f1.m rfl
   ·obtain ⟨qL, dL, tL⟩ := quot1 (up := true) (by omega) w2 lo1
    obtain ⟨g1,g2⟩:=rnd_nm (B:=200010) (up:=up) p1 (by omega) qL.m qL.neg (by omega) qL.hi qL.lo (by decide)
    rw [←eY,←hs] at g1 g2
    have L0:=lo1.pos
    have H0:=hH.pos
    have iL:L.q*(L.q)⁻¹=1:=Rat.mul_inv_cancel _ (by grind)
    have iH:H.q*(H.q)⁻¹=1:=Rat.mul_inv_cancel _ (by grind)
    rcases hi with hi | ⟨hi1,hi2⟩
    ·exfalso
     have a:pw 1≤1/H.q:=by
      have:=inv_le H0 hi
      rw [two]
      have e:(1:Rat)/(1/2)=2:=by decide +kernel
      rwa [e] at this
     have a1:=dir_ge dH (fits_pw (by omega) 1) a
     have a2:=dir_ge f2 (fits_pw p1 1) a1
     have b:1/L.q≤1:=by
      have:=inv_le (show (0:Rat)<1 by decide) lo2
      have e:(1:Rat)/1=1:=by decide +kernel
      rwa [e] at this
     have b1:=dir_le dL (fits_one (by omega)) b
     have b2:=dir_le g2 (fits_one p1) b1
     rw [two] at a2
     grind
    ·refine ⟨(quotZ one H w false).v.q, (quotZ one L w true).v.q, ?_, ?_, f2, g2⟩
     ·unfold EL
      rw [if_neg hz,hn,if_pos rfl]
      refine ⟨H.q,hi1,hi2,?_⟩
      have:=Rat.mul_le_mul_of_nonneg_right (IsDown.le dH) (Rat.le_of_lt H0)
      rw [Rat.div_def,Rat.one_mul,Rat.mul_comm (H.q)⁻¹,iH] at this
      exact this
     ·unfold EU
      rw [if_neg hz,hn,if_pos rfl]
      refine ⟨qL.pos,n,?_⟩
      have h1:=Rat.mul_le_mul_of_nonneg_right (IsUp.le dL) (Rat.le_of_lt L0)
      rw [Rat.div_def,Rat.one_mul,Rat.mul_comm (L.q)⁻¹,iL] at h1
      exact Rat.le_trans h1 (Rat.mul_le_mul_of_nonneg_left lo4 (Rat.le_of_lt qL.pos))
theorem expL_spec {d:Dy}{p:Nat}{up:Bool}(ok:d.Ok)(p1:1≤p)(p2:p≤300)(hz:d.m≠0)(hd:-400≤d.e∧(d.m≠0→topD (absD d)≤7)):∀ (f w:Nat),17≤w→(expL d p up f w).k=0→ExpS d p up (expL d p up f w).v
 | 0, _, _, h => by
   rw [expL] at h
   exact absurd h (by decide)
 | f + 1, w, hw, h => by
   rw [expL] at h ⊢
   split at h
   ·exact absurd h (by decide)
   ·rename_i h1
    rw [if_neg h1]
    split at h
    ·rename_i h2
     rw [if_pos h2]
     exact round_spec ok p1 p2 hw (by omega) hz hd (sameR_eq h2)
    ·rename_i h2
     rw [if_neg h2]
     exact expL_spec ok p1 p2 hz hd f _ (by omega) h
theorem expS_zero {d:Dy}{p:Nat}{up:Bool}(p1:1≤p)(hz:d.m=0):ExpS d p up one:=by
 refine ⟨1,1,?_,?_,?_,?_⟩
 ·unfold EL;rw [if_pos hz];exact Rat.le_refl
 ·unfold EU;rw [if_pos hz];exact Rat.le_refl
 ·rw [one_q]; cases up
  ·exact IsDown.of_fits (fits_one p1)
  ·exact IsUp.of_fits (fits_one p1)
 ·rw [one_q]; cases up
  ·exact IsDown.of_fits (fits_one p1)
  ·exact IsUp.of_fits (fits_one p1)
theorem mayX_p {r:Raw}{p:Int}(h:mayX r p=0):mayD r=true∧1≤p∧p≤300:=by
 unfold mayX at h
 split at h
 ·rename_i h1
  simp only [Bool.and_eq_true,Bool.not_eq_true',decide_eq_false_iff_not] at h1
  exact ⟨h1.1.1,by omega,by omega⟩
 ·exact absurd h (by decide)
theorem expM_of {d:Dy}{p:Int}(ok:d.Ok)(h:mayX d.raw p=0):ExM d:=fun hz=>by
 have hd:=mayX_facts h
 exact ⟨hz,rfl,bl_of_len d.m 64 ok.len,hd.1,hd.2 hz⟩
theorem expD_spec {d:Dy}{p:Nat}{up:Bool}(ok:d.Ok)(h:(expD d p up).k=0):ExM d∧ExpS d p up (expD d p up).v∧mayX d.raw p=0∧1≤p∧p≤300:=by
 unfold expD at h ⊢
 split at h
 ·rename_i h0
  exact absurd h h0
 ·rename_i h0
  have h0':mayX d.raw p=0:=by omega
  obtain ⟨-,p1,p2⟩:=mayX_p h0'
  rw [if_neg h0]
  split at h
  ·rename_i hz
   rw [if_pos hz]
   exact ⟨expM_of ok h0',expS_zero (by omega) hz,h0',by omega,by omega⟩
  ·rename_i hz
   rw [if_neg hz]
   exact ⟨expM_of ok h0',expL_spec ok (by omega) (by omega) hz (mayX_facts h0') _ _ (by omega) h,h0',by omega,by omega⟩
def ovE (a b:Int):Int:=if a=1∨b=1 then 1 else if a=4∨b=4 then 4 else if a=2∨b=2 then 2 else 0
def ovI (a:Iv) (p:Nat):Outc Iv :=
 if ovE (mayX a.lo.raw p) (mayX a.hi.raw p)≠0 then ⟨iz,ovE (mayX a.lo.raw p) (mayX a.hi.raw p)⟩
 else if (expD a.lo p false).k≠0∨(expD a.hi p true).k≠0 then ⟨iz,max (expD a.lo p false).k (expD a.hi p true).k⟩
 else ⟨⟨(expD a.lo p false).v,(expD a.hi p true).v⟩,0⟩
theorem mayX_cases (r:Raw)(p:Int):mayX r p=0∨mayX r p=1∨mayX r p=2∨mayX r p=4:=by
 unfold mayX
 split
 ·split
  ·split<;>simp
  ·simp
 ·simp
theorem ovE_zero {a b:Int}(ha:a=0∨a=1∨a=2∨a=4)(hb:b=0∨b=1∨b=2∨b=4):ovE a b=0↔a=0∧b=0:=by
 unfold ovE
 rcases ha with rfl | rfl | rfl | rfl<;>rcases hb with rfl | rfl | rfl | rfl<;>simp
theorem expL_k (d:Dy)(p:Nat)(up:Bool):∀ f w,(expL d p up f w).k=0∨(expL d p up f w).k=2
 | 0,_=>.inr rfl
 | f + 1, w => by
   rw [expL]
   split
   ·exact .inr rfl
   ·split
    ·exact .inl rfl
    ·exact expL_k d p up f _
theorem expD_k {d:Dy}{p:Nat}{up:Bool}(h:mayX d.raw p=0):(expD d p up).k=0∨(expD d p up).k=2:=by
 unfold expD
 rw [if_neg (by rw [h];decide)]
 split
 ·exact .inl rfl
 ·exact expL_k _ _ _ _ _
theorem ovI_good {a:Iv}{p:Nat}(h:(ovI a p).k=0):(expD a.lo p false).k=0∧(expD a.hi p true).k=0∧(ovI a p).v=⟨(expD a.lo p false).v,(expD a.hi p true).v⟩:=by
 unfold ovI at h ⊢
 split at h
 ·rename_i h0
  exact absurd h h0
 ·rename_i h0
  rw [if_neg h0]
  have h0':=(ovE_zero (mayX_cases a.lo.raw p) (mayX_cases a.hi.raw p)).1 (by omega)
  split at h
  ·rename_i h1
   exfalso
   have h':max (expD a.lo p false).k (expD a.hi p true).k=0:=h
   rcases expD_k (up:=false) h0'.1 with e1 | e1<;>rcases expD_k (up:=true) h0'.2 with e2 | e2<;>omega
  ·rename_i h1
   rw [if_neg h1]
   exact ⟨by omega,by omega,rfl⟩
theorem ovI_ok (a:Iv)(p:Nat)(ha:a.Ok)(_:1≤p)(_:p≤300):OkI (ovI a p):=by
 by_cases hk:(ovI a p).k=0
 ·obtain ⟨a1, a2, a3⟩ := ovI_good hk
  obtain ⟨c1,c2,-⟩:=expD_spec ha.lo a1
  obtain ⟨c3,c4,-⟩:=expD_spec ha.hi a2
  refine ⟨?_,fun h=>absurd hk h⟩
  rw [a3]
  exact ⟨(expD_ok _ _ _).1,(expD_ok _ _ _).1,c2.order c1 c3 ha.le c4⟩
 ·have hz : (ovI a p).v = iz := by
   unfold ovI at hk ⊢
   split
   ·rfl
   ·split
    ·rfl
    ·rename_i h1 h2
     rw [if_neg h1,if_neg h2] at hk
     exact absurd rfl hk
  exact ⟨by rw [hz];exact iz_ok,fun _=>hz⟩
end Go.Proofs.YtabjjdicffcolaaGreatDoor
namespace Go.Proofs.YtabjjdicffcolaaGreatDoor
def Wth (a x:Iv):Prop:=x.lo.q≤a.lo.q∧a.hi.q≤x.hi.q
theorem Wth.refl (a:Iv):Wth a a:=⟨Rat.le_refl,Rat.le_refl⟩
theorem Wth.trans {a b c:Iv}(h:Wth a b)(h':Wth b c):Wth a c:=⟨Rat.le_trans h'.1 h.1,Rat.le_trans h.2 h'.2⟩
theorem IsRootDown.mono {p p':Nat}{x x' d d':Rat}(h:IsRootDown p x d)(h':IsRootDown p' x' d')(hp:p≤p')(hx:x≤x'):d≤d' :=
 h'.best d (h.fits.mono hp) h.nonneg (Rat.le_trans h.le hx)
theorem IsRootUp.mono {p p':Nat}{x x' d d':Rat}(h:IsRootUp p x d)(h':IsRootUp p' x' d')(hp:p≤p')(hx:x'≤x):d'≤d :=
 h'.best d (h.fits.mono hp) h.nonneg (Rat.le_trans hx h.le)
end Go.Proofs.YtabjjdicffcolaaGreatDoor
