/- Contracts of package expo: near. -/
import Derived.Test.YtabjjdicffcolaaGreatDoorClaimTholdsp20
import Derived.Deep.CutRange
import Derived.Deep.DeepCutAuto
set_option maxRecDepth 100000
set_option maxHeartbeats 16000000
namespace Go.Proofs.YtabjjdicffcolaaGreatDoor
open Go.Lib (hid)
open Go.RowKit
def ofN (j:Nat):Dy:=(fitD false j 0).v
def nearT (p:Nat) (up:Bool) (r term:Dy) (j:Nat):Dy:=(quotZ (mulD term r).v (ofN j) p up).v
def nearS (p:Nat) (up:Bool) (sum t:Dy):Dy:=rndS p up (sumD sum t).v
def nearG (p:Nat) (up:Bool) (r:Dy):Nat→Nat→Dy→Dy→Option (Dy × Dy)
 | 0,_,_,_=>none
 | f + 1, j, sum, term =>
   if topD (nearT p up r term j) < -(p:Int)-8 then some (nearS p up sum (nearT p up r term j),nearT p up r term j)
   else nearG p up r f (j+1) (nearS p up sum (nearT p up r term j)) (nearT p up r term j)
def one:Dy:=⟨false,1,0⟩
def nearD (p:Nat) (up:Bool) (o:Dy × Dy):Dy:=if up then nearS p true o.1 o.2 else o.1
theorem wrapS {x:Int}(h1:-9223372036854775808≤x)(h2:x≤9223372036854775807):IntKind.i64.wrap x=x:=by simp [IntKind.wrap_i64];omega
theorem two_new (V:World)(x y z:Value):Kept V ((V.alloc (.cells #[x,y,z] 28)).alloc (.cells #[x,y,z] 28)).drew ∧
 Blk ((V.alloc (.cells #[x,y,z] 28)).alloc (.cells #[x,y,z] 28)).drew V.heap.size x y z ∧
 Blk ((V.alloc (.cells #[x,y,z] 28)).alloc (.cells #[x,y,z] 28)).drew (V.heap.size+1) x y z :=
 ⟨have h := (kept_alloc V (.cells #[x, y, z] 28)).trans (kept_alloc (V.alloc (.cells #[x, y, z] 28)) (.cells #[x, y, z] 28)); ⟨h.os, h.tape, h.output, h.size, h.block⟩,
  show Blk ((V.alloc (.cells #[x,y,z] 28)).alloc (.cells #[x,y,z] 28)) V.heap.size x y z from (blk_new _ _ _ _).kept (kept_alloc _ _),
  show Blk ((V.alloc (.cells #[x,y,z] 28)).alloc (.cells #[x,y,z] 28)) (V.heap.size+1) x y z from blk_new1 _ _ _ _ _⟩
theorem xnear_c {w:World}{v:Value}{p f:Nat}{up:Bool}{r:Dy}{o:Dy × Dy}(hv:DyR w v r.raw)(ok:r.Ok)(p1:1≤p)(p2:p≤2000)(hT:Tab w)(hG:nearG p up r f 1 one one=some o)(hf:f≤1000000) :
 Calls Tryz.prog 208 #[.agg #[.int .i64 (p:Int),.bool up],v] w (RetD (nearD p up o).raw w):=by
 have T:=hid hT
 have CO:=hid (fun w1 (k:Kept w w1)=>show Calls Tryz.prog 20 #[.int .i64 1,.int .i64 0] w1 (RetE ⟨one.raw,0⟩ w1) by
  have h:=Of_pos (w:=w1) (k:=1) (e:=0) (by decide) (by decide) (by decide) (hT.kept k)
  rw [fit_1] at h
  exact h)
 obtain ⟨A,l,c,rfl,hs⟩:=dyR_split hv
 have HS:=hid hs
 have OK:=hid ok
 clear hv hs hT ok
 obtain ⟨n1,hn1⟩:∃ x,r.neg=x:=⟨_,rfl⟩
 obtain ⟨e1,he1⟩:∃ x,r.e=x:=⟨_,rfl⟩
 rw [hn1,he1] at HS ⊢
 clear hn1 he1
 obtain ⟨W,hW,kW,BS,BA,BR⟩:=box_s w p up (.bool n1) (.slice A l c) (.int .i64 e1)
 have HW:=hid hW
 have K:=hid kW
 have HB:=hid BR
 have HA:=hid BA
 have HP:=hid BS
 have HG:=hid hG
 clear hW kW BR BS BA hG
 go_enter Tryz.func208,Tryz.ntmps208
 go_wp2_with fail
 rw [←HW.out]
 clear HW
 go_step3
 go_wp2_with fail
 refine (CO.out _ K.out).mono ?_
 rintro ee w1 ⟨q,u,rfl,hd⟩
 simp only []
 replace K:=hid (K.out.trans q)
 replace HB:=hid (HB.out.kept q)
 replace HA:=hid (HA.out.kept q)
 replace HP:=hid (HP.out.kept q)
 have HD:=hid hd
 clear q hd CO
 go_wp2_with fail
 refine (xsure_c HD.out).mono ?_
 rintro ee w2 ⟨q,v2,rfl,hd2⟩
 obtain ⟨A',l',c',rfl,hd3⟩:=dyR_split hd2
 simp only []
 obtain ⟨V,hV,kV,hb,lV⟩:=boxF w2 (.bool one.neg) (.slice A' l' c') (.int .i64 one.e)
 have HV:=hid hV
 have kk:=q.trans kV
 have l5:w.heap.size+1+1<w2.heap.size:=Nat.lt_of_lt_of_le HB.out.facts.1 q.size
 replace K:=hid (K.out.trans kk)
 replace HB:=hid (HB.out.kept kk)
 replace HA:=hid (HA.out.kept kk)
 replace HP:=hid (HP.out.kept kk)
 have H5:=hid hb
 have Z5:=hid (hd3.kept kV)
 clear hV kV hb kk q hd2 hd3 HD
 go_upto_region 2 with fail
 rw [←HV.out]
 clear HV
 generalize w2.heap.size=b5 at *
 obtain ⟨-,a0,a1,a2,-⟩:=H5.out.facts
 go_cut [6,7] (fun s6 s7 wx=>∃ b6 b7:Nat,s6=.pointer (some ⟨b6,0,none⟩)∧s7=.pointer (some ⟨b7,0,none⟩)∧b5<b6∧b5<b7∧¬b6=b7∧Blk wx b6 (.bool one.neg) (.slice A' l' c') (.int .i64 one.e)∧Blk wx b7 (.bool one.neg) (.slice A' l' c') (.int .i64 one.e)∧Kept V wx)
 case first =>
  go_region
  all_goals
   go_wp2_with fail
   go_meet
   exact ⟨_,_,rfl,rfl,by omega,by omega,by omega,by first | exact (two_new V _ _ _).2.1 | exact (two_new V _ _ _).2.2,by first | exact (two_new V _ _ _).2.1 | exact (two_new V _ _ _).2.2,(two_new V _ _ _).1⟩
 obtain ⟨b6,b7,rfl,rfl,l6,l7,hne,B6,B7,kk⟩:=hcut
 replace K:=hid (K.out.trans kk)
 replace HB:=hid (HB.out.kept kk)
 replace HA:=hid (HA.out.kept kk)
 replace HP:=hid (HP.out.kept kk)
 have H6:=hid B6
 have H7:=hid B7
 have Z6:=hid (Z5.out.kept kk)
 clear B6 B7 kk a0 a1 a2 lV Z5 H5
 go_wp2_with fail
 go_step3
 go_wp2_with fail
 go_loopw [8] (fun j wr=>∃ (g jn:Nat) (s t:Dy) (As At:Option Addr) (ls cs lt ct:Nat),j=.int .i64 (jn:Int)∧jn+g=f+1∧nearG p up r g jn s t=some o∧s.Ok∧t.Ok∧1≤jn∧Kept w wr∧SBlk wr w.heap.size p up∧Blk wr (w.heap.size+1) (.bool n1) (.slice A l c) (.int .i64 e1) ∧
  Blk wr (w.heap.size+1+1) (.bool false) (.slice none 0 0) (.int .i64 0)∧Blk wr b6 (.bool s.neg) (.slice As ls cs) (.int .i64 s.e)∧DyR wr (.agg #[.bool s.neg,.slice As ls cs,.int .i64 s.e]) s.raw ∧
  Blk wr b7 (.bool t.neg) (.slice At lt ct) (.int .i64 t.e)∧DyR wr (.agg #[.bool t.neg,.slice At lt ct,.int .i64 t.e]) t.raw) (fun j _=>(f+2-intOf j).toNat)
 case atStart=>exact ⟨f,1,one,one,A',A',l',c',l',c',rfl,by omega,HG.out,d1_ok,d1_ok,Nat.le_refl _,K.out,HP.out,HA.out,HB.out,H6.out,Z6.out,H7.out,Z6.out⟩
 case round =>
  clear HG K HP HA HB H6 Z6 H7
  obtain ⟨g,jn,s,t,As,At,ls,cs,lt,ct,rfl,hj,hG,os,ot,hj1,hK,hP,hA,hB,h6,hz6,h7,hz7⟩:=hrel
  have K:=hid hK
  have HP:=hid hP
  have HA:=hid hA
  have HB:=hid hB
  have H6:=hid h6
  have H7:=hid h7
  have Z6:=hid hz6
  have Z7:=hid hz7
  have lb:w.heap.size+1+1<b5:=l5
  clear hK hP hA hB h6 hz6 h7 hz7
  cases g with
  | zero=>simp [nearG] at hG
  | succ g =>
    obtain ⟨t',ht'⟩:∃ t',t'=nearT p up r t jn:=⟨_,rfl⟩
    obtain ⟨s',hs'⟩:∃ s',s'=nearS p up s t':=⟨_,rfl⟩
    rw [nearG,←ht',←hs'] at hG
    have ot':t'.Ok:=by rw [ht'];exact (quotZ_ok _ _ _ _).1
    have os':s'.Ok:=by rw [hs'];exact rndS_ok _ _ _
    have oj:(ofN jn).Ok:=(fitD_ok _ _ _).1
    obtain ⟨o1,ho1⟩:∃ o,o=(mulD t r).raw:=⟨_,rfl⟩
    obtain ⟨o2,ho2⟩:∃ o,o=(fitD false jn 0).raw:=⟨_,rfl⟩
    obtain ⟨o3,ho3⟩:∃ o,o=(quotZ (mulD t r).v (ofN jn) p up).raw:=⟨_,rfl⟩
    obtain ⟨o4,ho4⟩:∃ o,o=(sumD s t').raw:=⟨_,rfl⟩
    have C1:=hid (fun w1 v u (k:Kept w w1) (hv:DyR w1 v t.raw) (hu:DyR w1 u r.raw)=>show Calls _ _ _ w1 (RetE o1 w1) by rw [ho1];exact Mul_c hv hu ot OK.out (T.out.kept k))
    have C2:=hid (fun w1 (k:Kept w w1)=>show Calls Tryz.prog 20 #[.int .i64 (jn:Int),.int .i64 0] w1 (RetE o2 w1) by rw [ho2];exact Of_pos (by omega) (by decide) (by decide) (T.out.kept k))
    have C3:=hid (fun w1 v u (k:Kept w w1) (hv:DyR w1 v o1.v) (hu:DyR w1 u o2.v)=>show Calls Tryz.prog 129 #[v,u,.int .i64 (p:Int),.bool up] w1 (RetE o3 w1) by rw [ho3];rw [ho1] at hv;rw [ho2] at hu;exact quot_c hv hu (mulD_ok t r).1 oj (T.out.kept k) p1 p2)
    have R3:Hid (o3.v=t'.raw):=by rw [ho3,ht'];rfl
    have C4:=hid (fun w1 v u (k:Kept w w1) (hv:DyR w1 v s.raw) (hu:DyR w1 u t'.raw)=>show Calls _ _ _ w1 (RetE o4 w1) by rw [ho4];exact Add_c hv hu os ot' (T.out.kept k))
    have C5:=hid (fun w1 v (k:Kept w w1) (hv:DyR w1 v o4.v)=>show Calls Tryz.prog 185 #[.agg #[.int .i64 (p:Int),.bool up],v] w1 (RetD s'.raw w1) by rw [hs'];rw [ho4] at hv;exact xround_c hv (sumD_ok os ot').1 p1 p2 (T.out.kept k))
    have C6:=hid (fun w1 v (hv:DyR w1 v t'.raw)=>xtop_c hv ot')
    obtain ⟨bb,hbb⟩:∃ bb,decide (topD t' < -(p:Int)-8)=bb:=⟨_,rfl⟩
    have HC:=hid hbb
    have HG:=hid hG
    have O1:=hid os'
    have O2:=hid ot'
    clear ho1 ho2 ho3 ho4 hG oj os ot ht' hs' hbb os' ot'
    generalize topD t'=tt at *
    go_wp2_with fail
    refine region_lin1 (m:=19) (V:=VL [(vE (.agg #[.bool t.neg,.slice At lt ct,.int .i64 t.e])),(vE (.agg #[.bool n1,.slice A l c,.int .i64 e1])),(fun v wv=>∃ d,v=.tuple #[d,.int .i64 o1.k]∧DyR wv d o1.v),(fun v wv=>DyR wv v o1.v),(vE (.int .i64 o1.k)),(fun v wv=>DyR wv v o1.v),(vE (.int .i64 (jn:Int))),(fun v wv=>∃ d,v=.tuple #[d,.int .i64 o2.k]∧DyR wv d o2.v),(fun v wv=>DyR wv v o2.v),(vE (.int .i64 o2.k)),(fun v wv=>DyR wv v o2.v),(vP w.heap.size 0),(vE (.int .i64 (p:Int))),(vP w.heap.size 1),(vE (.bool up)),(fun v wv=>∃ d,v=.tuple #[d,.int .i64 o3.k]∧DyR wv d o3.v),(fun v wv=>DyR wv v o3.v),(vE (.int .i64 o3.k)),(fun v wv=>DyR wv v o3.v)])
     (by kernel_rfl) rfl rfl rfl (by kernel_rfl) (by kernel_rfl) (by kernel_rfl) (by kernel_rfl) (mono_of _ ⟨mE,mE,fun v w w' k h=>by obtain ⟨d,h1,h2⟩:=h;exact ⟨d,h1,h2.kept k⟩,mD,mE,mD,mE,fun v w w' k h=>by obtain ⟨d,h1,h2⟩:=h;exact ⟨d,h1,h2.kept k⟩,mD,mE,mD,mE,mE,mE,mE,fun v w w' k h=>by obtain ⟨d,h1,h2⟩:=h;exact ⟨d,h1,h2.kept k⟩,mD,mE,mD,trivial⟩) (steps_of ⟨
       (fun aF wF F=>by have s7:aF.tmps.getD 7 undef=(.pointer (some ⟨b7,0,none⟩)):=F.o 7;have c0:=cell_at H7.out F.kept 0 _ rfl;have c1:=cell_at H7.out F.kept 1 _ rfl;have c2:=cell_at H7.out F.kept 2 _ rfl;exact sv rfl),(fun aF wF F=>by have s3:aF.tmps.getD 3 undef=(.pointer (some ⟨w.heap.size+1,0,none⟩)):=F.o 3;have c0:=cell_at HA.out F.kept 0 _ rfl;have c1:=cell_at HA.out F.kept 1 _ rfl;have c2:=cell_at HA.out F.kept 2 _ rfl;exact sv rfl),(fun aF wF F=>by have s17:=F.v 0 17;have s18:=F.v 1 18;exact sE (C1.out _ _ _ (K.out.trans F.kept) (Z7.out.kept F.kept) (HS.out.kept (K.out.trans F.kept))) fun _ _ h=>h),(fun aF wF F=>by have s19:=F.p 2 19;obtain ⟨dd,ee,hh⟩:=s19;exact step_val (by simp [Region.wanted]) (by go_simp) hh),(fun aF wF F=>by have s19:=F.p 2 19;exact sw (by obtain ⟨dd,ee,hh⟩:=s19;go_simp) rfl),(fun aF wF F=>by have s20:=F.p 3 20;have s21:=F.v 4 21;exact sD (xsure_c (k:=o1.k) s20) fun _ _ h=>h),(fun aF wF F=>by have s8:aF.tmps.getD 8 undef=.int .i64 (jn:Int):=F.o 8;exact sv rfl),(fun aF wF F=>by have s23:=F.v 6 23;exact sE (C2.out _ (K.out.trans F.kept)) fun _ _ h=>h),(fun aF wF F=>by have s24:=F.p 7 24;obtain ⟨dd,ee,hh⟩:=s24;exact step_val (by simp [Region.wanted]) (by go_simp) hh),(fun aF wF F=>by have s24:=F.p 7 24;exact sw (by obtain ⟨dd,ee,hh⟩:=s24;go_simp) rfl),(fun aF wF F=>by have s25:=F.p 8 25;have s26:=F.v 9 26;exact sD (xsure_c (k:=o2.k) s25) fun _ _ h=>h),(fun aF wF F=>by have s2:aF.tmps.getD 2 undef=(.pointer (some ⟨w.heap.size,0,none⟩)):=F.o 2;exact sv rfl),(fun aF wF F=>by have s28:=F.v 11 28;have c0:=cell_at HP.out F.kept 0 _ rfl;exact sv rfl),(fun aF wF F=>by have s2:aF.tmps.getD 2 undef=(.pointer (some ⟨w.heap.size,0,none⟩)):=F.o 2;exact sv rfl),(fun aF wF F=>by have s30:=F.v 13 30;have c0:=cell_at HP.out F.kept 1 _ rfl;exact sv rfl),(fun aF wF F=>by have s22:=F.p 5 22;have s27:=F.p 10 27;have s29:=F.v 12 29;have s31:=F.v 14 31;exact sE (C3.out _ _ _ (K.out.trans F.kept) s22 s27) fun _ _ h=>h),(fun aF wF F=>by have s32:=F.p 15 32;obtain ⟨dd,ee,hh⟩:=s32;exact step_val (by simp [Region.wanted]) (by go_simp) hh),(fun aF wF F=>by have s32:=F.p 15 32;exact sw (by obtain ⟨dd,ee,hh⟩:=s32;go_simp) rfl),(fun aF wF F=>by have s33:=F.p 16 33;have s34:=F.v 17 34;exact sD (xsure_c (k:=o3.k) s33) fun _ _ h=>h),
       trivial⟩) ?_
    intro u w1 k1 hu
    have p19:=hp hu 2
    have p20:=hp hu 3
    have p22:=hp hu 5
    have p24:=hp hu 7
    have p25:=hp hu 8
    have p27:=hp hu 10
    have p32:=hp hu 15
    have p33:=hp hu 16
    have p35:=hp hu 18
    simp only [puts,slotOf,if_true,Act.put,z1,z2,z3,z4,z5,z6,z7,hv hu 0,hv hu 1,hv hu 4,hv hu 6,hv hu 9,hv hu 11,hv hu 12,hv hu 13,hv hu 14,hv hu 17]
    clear hu
    generalize u 2=v19 at *
    generalize u 3=v20 at *
    generalize u 5=v22 at *
    generalize u 7=v24 at *
    generalize u 8=v25 at *
    generalize u 10=v27 at *
    generalize u 15=v32 at *
    generalize u 16=v33 at *
    generalize u 18=v35 at *
    rw [R3.out] at p35
    obtain ⟨A7,j7,c7,rfl,z1⟩:=dyR_split p35
    clear p19 p20 p22 p24 p25 p27 p32 p33 p35 C1 C2 C3 R3
    have hx:=H7.out.kept k1
    obtain ⟨-,x0,x1,x2,f0,f1,f2⟩:=hx.facts
    go_upto_region 6 with fail
    change Code.wp _ _ _ _ (dyW _ b7 _ _ _)
    have UD:Hid (∀ v r,DyR w1 v r→DyR (dyW w1 b7 (.bool t'.neg) (.slice A7 j7 c7) (.int .i64 t'.e)) v r):=fun _ _ h=>h.dyW hx (noLimb_bool _) (noLimb_slice _ _ _) (noLimb_i64 _) _ _ _
    have UB:Hid (∀ b' x y z,Blk w1 b' x y z→¬b'=b7→Blk (dyW w1 b7 (.bool t'.neg) (.slice A7 j7 c7) (.int .i64 t'.e)) b' x y z):=fun _ _ _ _ h hne=>h.laid_other hne _ _ _
    have HX':=hid (hx.laid (.bool t'.neg) (.slice A7 j7 c7) (.int .i64 t'.e))
    replace K:=hid (dyW_kept (x:=.bool t'.neg) (y:=.slice A7 j7 c7) (z:=.int .i64 t'.e) (K.out.trans k1) (show w.heap.size≤b7 by omega))
    replace HP:=hid ((HP.out.kept k1).dyW (show ¬w.heap.size=b7 by omega) (.bool t'.neg) (.slice A7 j7 c7) (.int .i64 t'.e))
    replace HA:=hid (UB.out _ _ _ _ (HA.out.kept k1) (by omega))
    replace HB:=hid (UB.out _ _ _ _ (HB.out.kept k1) (by omega))
    replace H6:=hid (UB.out _ _ _ _ (H6.out.kept k1) (by omega));replace Z6:=hid (UD.out _ _ (Z6.out.kept k1));replace H7:=hid HX'.out;replace Z7:=hid (UD.out _ _ z1)
    clear UD UB HX' hx x0 x1 x2 f0 f1 f2 z1 k1
    generalize dyW w1 b7 (.bool t'.neg) (.slice A7 j7 c7) (.int .i64 t'.e)=X at *
    refine region_lin1 (m:=8) (V:=VL [(vE (.agg #[.int .i64 (p:Int),.bool up])),(vE (.agg #[.bool s.neg,.slice As ls cs,.int .i64 s.e])),(vE (.agg #[.bool t'.neg,.slice A7 j7 c7,.int .i64 t'.e])),(fun v wv=>∃ d,v=.tuple #[d,.int .i64 o4.k]∧DyR wv d o4.v),(fun v wv=>DyR wv v o4.v),(vE (.int .i64 o4.k)),(fun v wv=>DyR wv v o4.v),(fun v wv=>DyR wv v s'.raw)])
     (by kernel_rfl) rfl rfl rfl (by kernel_rfl) (by kernel_rfl) (by kernel_rfl) (by kernel_rfl) (mono_of _ ⟨mE,mE,mE,fun v w w' k h=>by obtain ⟨d,h1,h2⟩:=h;exact ⟨d,h1,h2.kept k⟩,mD,mE,mD,mD,trivial⟩) (steps_of ⟨
       (fun aF wF F=>by have s2:aF.tmps.getD 2 undef=(.pointer (some ⟨w.heap.size,0,none⟩)):=F.o 2;have c0:=cell_at HP.out F.kept 0 _ rfl;have c1:=cell_at HP.out F.kept 1 _ rfl;exact sv rfl),(fun aF wF F=>by have s6:aF.tmps.getD 6 undef=(.pointer (some ⟨b6,0,none⟩)):=F.o 6;have c0:=cell_at H6.out F.kept 0 _ rfl;have c1:=cell_at H6.out F.kept 1 _ rfl;have c2:=cell_at H6.out F.kept 2 _ rfl;exact sv rfl),(fun aF wF F=>by have s7:aF.tmps.getD 7 undef=(.pointer (some ⟨b7,0,none⟩)):=F.o 7;have c0:=cell_at H7.out F.kept 0 _ rfl;have c1:=cell_at H7.out F.kept 1 _ rfl;have c2:=cell_at H7.out F.kept 2 _ rfl;exact sv rfl),(fun aF wF F=>by have s37:=F.v 1 37;have s38:=F.v 2 38;exact sE (C4.out _ _ _ (K.out.trans F.kept) (Z6.out.kept F.kept) (Z7.out.kept F.kept)) fun _ _ h=>h),(fun aF wF F=>by have s39:=F.p 3 39;obtain ⟨dd,ee,hh⟩:=s39;exact step_val (by simp [Region.wanted]) (by go_simp) hh),(fun aF wF F=>by have s39:=F.p 3 39;exact sw (by obtain ⟨dd,ee,hh⟩:=s39;go_simp) rfl),(fun aF wF F=>by have s40:=F.p 4 40;have s41:=F.v 5 41;exact sD (xsure_c (k:=o4.k) s40) fun _ _ h=>h),(fun aF wF F=>by have s36:=F.v 0 36;have s42:=F.p 6 42;exact sD (C5.out _ _ (K.out.trans F.kept) s42) fun _ _ h=>h),
       trivial⟩) ?_
    intro u w1 k1 hu
    have p39:=hp hu 3
    have p40:=hp hu 4
    have p42:=hp hu 6
    have p43:=hp hu 7
    simp only [puts,slotOf,if_true,Act.put,z1,z2,z3,z4,z5,z6,z7,hv hu 0,hv hu 1,hv hu 2,hv hu 5]
    clear hu
    generalize u 3=v39 at *
    generalize u 4=v40 at *
    generalize u 6=v42 at *
    generalize u 7=v43 at *
    obtain ⟨A6,j6,c6,rfl,z1⟩:=dyR_split p43
    clear p39 p40 p42 p43 C4 C5
    have hx:=H6.out.kept k1
    obtain ⟨-,x0,x1,x2,f0,f1,f2⟩:=hx.facts
    go_upto_region 7 with fail
    change Code.wp _ _ _ _ (dyW _ b6 _ _ _)
    have UD:Hid (∀ v r,DyR w1 v r→DyR (dyW w1 b6 (.bool s'.neg) (.slice A6 j6 c6) (.int .i64 s'.e)) v r):=fun _ _ h=>h.dyW hx (noLimb_bool _) (noLimb_slice _ _ _) (noLimb_i64 _) _ _ _
    have UB:Hid (∀ b' x y z,Blk w1 b' x y z→¬b'=b6→Blk (dyW w1 b6 (.bool s'.neg) (.slice A6 j6 c6) (.int .i64 s'.e)) b' x y z):=fun _ _ _ _ h hne=>h.laid_other hne _ _ _
    have HX':=hid (hx.laid (.bool s'.neg) (.slice A6 j6 c6) (.int .i64 s'.e))
    replace K:=hid (dyW_kept (x:=.bool s'.neg) (y:=.slice A6 j6 c6) (z:=.int .i64 s'.e) (K.out.trans k1) (show w.heap.size≤b6 by omega))
    replace HP:=hid ((HP.out.kept k1).dyW (show ¬w.heap.size=b6 by omega) (.bool s'.neg) (.slice A6 j6 c6) (.int .i64 s'.e))
    replace HA:=hid (UB.out _ _ _ _ (HA.out.kept k1) (by omega))
    replace HB:=hid (UB.out _ _ _ _ (HB.out.kept k1) (by omega))
    replace H7:=hid (UB.out _ _ _ _ (H7.out.kept k1) (by omega));replace Z7:=hid (UD.out _ _ (Z7.out.kept k1));replace H6:=hid HX'.out;replace Z6:=hid (UD.out _ _ z1)
    clear UD UB HX' hx x0 x1 x2 f0 f1 f2 z1 k1
    generalize dyW w1 b6 (.bool s'.neg) (.slice A6 j6 c6) (.int .i64 s'.e)=X at *
    refine region_lin (m:=7) (V:=VL [(vE (.agg #[.bool t'.neg,.slice A7 j7 c7,.int .i64 t'.e])),(vE (.int .i64 tt)),(vP w.heap.size 0),(vE (.int .i64 (p:Int))),(vE (.int .i64 (-(p:Int)))),(vE (.int .i64 (-(p:Int)-8))),(vE (.bool bb))])
     (by kernel_rfl) rfl (by kernel_rfl) (by kernel_rfl) (by kernel_rfl) (mono_of _ ⟨mE,mE,mE,mE,mE,mE,mE,trivial⟩) (steps_of ⟨
       (fun aF wF F=>by have s7:aF.tmps.getD 7 undef=(.pointer (some ⟨b7,0,none⟩)):=F.o 7;have c0:=cell_at H7.out F.kept 0 _ rfl;have c1:=cell_at H7.out F.kept 1 _ rfl;have c2:=cell_at H7.out F.kept 2 _ rfl;exact sv rfl),(fun aF wF F=>by have s44:=F.v 0 44;exact sK (C6.out _ _ (Z7.out.kept F.kept)) fun _ _ h=>h),(fun aF wF F=>by have s2:aF.tmps.getD 2 undef=(.pointer (some ⟨w.heap.size,0,none⟩)):=F.o 2;exact sv rfl),(fun aF wF F=>by have s46:=F.v 2 46;have c0:=cell_at HP.out F.kept 0 _ rfl;exact sv rfl),(fun aF wF F=>by have s47:=F.v 3 47;exact sw (by (go_simp;exact wrapS (by omega) (by omega))) rfl),(fun aF wF F=>by have s48:=F.v 4 48;exact sw (by (go_simp;exact wrapS (by omega) (by omega))) rfl),(fun aF wF F=>by have s45:=F.v 1 45;have s49:=F.v 5 49;exact sw (by (go_simp;exact HC.out)) rfl),
       trivial⟩) ?_
    intro u w1 k1 hu
    simp only [puts,slotOf,if_true,Act.put,z1,z2,z3,z4,z5,z6,z7,hv hu 0,hv hu 1,hv hu 2,hv hu 3,hv hu 4,hv hu 5,hv hu 6]
    clear hu
    replace K:=hid (K.out.trans k1)
    replace HP:=hid (HP.out.kept k1)
    replace HA:=hid (HA.out.kept k1)
    replace HB:=hid (HB.out.kept k1)
    replace H6:=hid (H6.out.kept k1)
    replace H7:=hid (H7.out.kept k1)
    replace Z6:=hid (Z6.out.kept k1)
    replace Z7:=hid (Z7.out.kept k1)
    clear k1 C6
    cases bb with
    | false =>
      have hG:=HG.out
      rw [if_neg (of_decide_eq_false HC.out)] at hG
      have HG2:=hid hG
      clear HG hG HC
      go_wp2_with fail
      go_roundw
      case rel=>exact ⟨g,jn+1,s',t',A6,A7,j6,c6,j7,c7,by go_num,by omega,HG2.out,O1.out,O2.out,by omega,K.out,HP.out,HA.out,HB.out,H6.out,Z6.out,H7.out,Z7.out⟩
      case measure=>simp [intOf];omega
    | true =>
      have hG:=HG.out
      rw [if_pos (of_decide_eq_true HC.out)] at hG
      obtain rfl:(s',t')=o:=Option.some.inj hG
      clear HG HC hG
      obtain ⟨-,s0,s1⟩:=HP.out.facts
      cases up with
      | false =>
        obtain ⟨-,y0,y1,y2,-⟩:=H6.out.facts
        obtain ⟨-,x0,x1,x2,f0,f1,f2⟩:=HB.out.facts
        go_wp2_with fail
        exact ret_dy (HB.out.laid _ _ _) rfl rfl rfl ⟨dyW_kept K.out (by omega),_,rfl,Z6.out.dyW HB.out (noLimb_bool _) (noLimb_slice _ _ _) (noLimb_i64 _) _ _ _⟩
      | true =>
        obtain ⟨o5,ho5⟩:∃ o,o=(sumD s' t').raw:=⟨_,rfl⟩
        obtain ⟨s2,hs2⟩:∃ s2,s2=nearS p true s' t':=⟨_,rfl⟩
        have C7:=hid (fun w1 v u (k:Kept w w1) (hv:DyR w1 v s'.raw) (hu:DyR w1 u t'.raw)=>show Calls _ _ _ w1 (RetE o5 w1) by rw [ho5];exact Add_c hv hu O1.out O2.out (T.out.kept k))
        have C8:=hid (fun w1 v (k:Kept w w1) (hv:DyR w1 v o5.v)=>show Calls Tryz.prog 185 #[.agg #[.int .i64 (p:Int),.bool true],v] w1 (RetD s2.raw w1) by rw [hs2];rw [ho5] at hv;exact xround_c hv (sumD_ok O1.out O2.out).1 p1 p2 (T.out.kept k))
        have hres:nearD p true (s',t')=s2:=by rw [hs2];rfl
        have HS2:=hid hres
        clear ho5 hs2 hres
        go_wp2_with fail
        clear s0 s1
        refine region_lin1 (m:=8) (V:=VL [(vE (.agg #[.int .i64 (p:Int),.bool true])),(vE (.agg #[.bool s'.neg,.slice A6 j6 c6,.int .i64 s'.e])),(vE (.agg #[.bool t'.neg,.slice A7 j7 c7,.int .i64 t'.e])),(fun v wv=>∃ d,v=.tuple #[d,.int .i64 o5.k]∧DyR wv d o5.v),(fun v wv=>DyR wv v o5.v),(vE (.int .i64 o5.k)),(fun v wv=>DyR wv v o5.v),(fun v wv=>DyR wv v s2.raw)])
         (by kernel_rfl) rfl rfl rfl (by kernel_rfl) (by kernel_rfl) (by kernel_rfl) (by kernel_rfl) (mono_of _ ⟨mE,mE,mE,fun v w w' k h=>by obtain ⟨d,h1,h2⟩:=h;exact ⟨d,h1,h2.kept k⟩,mD,mE,mD,mD,trivial⟩) (steps_of ⟨
           (fun aF wF F=>by have s2:aF.tmps.getD 2 undef=(.pointer (some ⟨w.heap.size,0,none⟩)):=F.o 2;have c0:=cell_at HP.out F.kept 0 _ rfl;have c1:=cell_at HP.out F.kept 1 _ rfl;exact sv rfl),(fun aF wF F=>by have s6:aF.tmps.getD 6 undef=(.pointer (some ⟨b6,0,none⟩)):=F.o 6;have c0:=cell_at H6.out F.kept 0 _ rfl;have c1:=cell_at H6.out F.kept 1 _ rfl;have c2:=cell_at H6.out F.kept 2 _ rfl;exact sv rfl),(fun aF wF F=>by have s7:aF.tmps.getD 7 undef=(.pointer (some ⟨b7,0,none⟩)):=F.o 7;have c0:=cell_at H7.out F.kept 0 _ rfl;have c1:=cell_at H7.out F.kept 1 _ rfl;have c2:=cell_at H7.out F.kept 2 _ rfl;exact sv rfl),(fun aF wF F=>by have s54:=F.v 1 54;have s55:=F.v 2 55;exact sE (C7.out _ _ _ (K.out.trans F.kept) (Z6.out.kept F.kept) (Z7.out.kept F.kept)) fun _ _ h=>h),(fun aF wF F=>by have s56:=F.p 3 56;obtain ⟨dd,ee,hh⟩:=s56;exact step_val (by simp [Region.wanted]) (by go_simp) hh),(fun aF wF F=>by have s56:=F.p 3 56;exact sw (by obtain ⟨dd,ee,hh⟩:=s56;go_simp) rfl),(fun aF wF F=>by have s57:=F.p 4 57;have s58:=F.v 5 58;exact sD (xsure_c (k:=o5.k) s57) fun _ _ h=>h),(fun aF wF F=>by have s53:=F.v 0 53;have s59:=F.p 6 59;exact sD (C8.out _ _ (K.out.trans F.kept) s59) fun _ _ h=>h),
           trivial⟩) ?_
        intro u w1 k1 hu
        have p56:=hp hu 3
        have p57:=hp hu 4
        have p59:=hp hu 6
        have p60:=hp hu 7
        simp only [puts,slotOf,if_true,Act.put,z1,z2,z3,z4,z5,z6,z7,hv hu 0,hv hu 1,hv hu 2,hv hu 5]
        clear hu
        generalize u 3=v56 at *
        generalize u 4=v57 at *
        generalize u 6=v59 at *
        generalize u 7=v60 at *
        obtain ⟨A8,j8,c8,rfl,z1⟩:=dyR_split p60
        clear p56 p57 p59 p60 C7 C8
        have hx:=H6.out.kept k1
        obtain ⟨-,x0,x1,x2,f0,f1,f2⟩:=hx.facts
        go_upto_region 10 with fail
        change Code.wp _ _ _ _ (dyW _ b6 _ _ _)
        have UD:Hid (∀ v r,DyR w1 v r→DyR (dyW w1 b6 (.bool s2.neg) (.slice A8 j8 c8) (.int .i64 s2.e)) v r):=fun _ _ h=>h.dyW hx (noLimb_bool _) (noLimb_slice _ _ _) (noLimb_i64 _) _ _ _
        have UB:Hid (∀ b' x y z,Blk w1 b' x y z→¬b'=b6→Blk (dyW w1 b6 (.bool s2.neg) (.slice A8 j8 c8) (.int .i64 s2.e)) b' x y z):=fun _ _ _ _ h hne=>h.laid_other hne _ _ _
        have HX':=hid (hx.laid (.bool s2.neg) (.slice A8 j8 c8) (.int .i64 s2.e))
        replace K:=hid (dyW_kept (x:=.bool s2.neg) (y:=.slice A8 j8 c8) (z:=.int .i64 s2.e) (K.out.trans k1) (show w.heap.size≤b6 by omega))
        replace HP:=hid ((HP.out.kept k1).dyW (show ¬w.heap.size=b6 by omega) (.bool s2.neg) (.slice A8 j8 c8) (.int .i64 s2.e))
        replace HA:=hid (UB.out _ _ _ _ (HA.out.kept k1) (by omega))
        replace HB:=hid (UB.out _ _ _ _ (HB.out.kept k1) (by omega))
        replace H6:=hid HX'.out;replace Z6:=hid (UD.out _ _ z1)
        clear UD UB HX' hx x0 x1 x2 f0 f1 f2 z1 k1
        generalize dyW w1 b6 (.bool s2.neg) (.slice A8 j8 c8) (.int .i64 s2.e)=X at *
        obtain ⟨-,y0,y1,y2,-⟩:=H6.out.facts
        obtain ⟨-,x0,x1,x2,f0,f1,f2⟩:=HB.out.facts
        go_wp2_with fail
        exact ret_dy (HB.out.laid _ _ _) rfl rfl rfl ⟨dyW_kept K.out (by omega),_,rfl,by rw [HS2.out];exact Z6.out.dyW HB.out (noLimb_bool _) (noLimb_slice _ _ _) (noLimb_i64 _) _ _ _⟩
end Go.Proofs.YtabjjdicffcolaaGreatDoor
