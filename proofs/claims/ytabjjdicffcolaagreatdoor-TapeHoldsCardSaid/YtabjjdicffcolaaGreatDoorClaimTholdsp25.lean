/- Contracts of package arith, seventh part: Sqr. -/
import Derived.Test.YtabjjdicffcolaaGreatDoorClaimTholdsp09
import Derived.Test.YtabjjdicffcolaaGreatDoorClaimTholdsp24
set_option maxRecDepth 100000
set_option maxHeartbeats 16000000
namespace Go.Proofs.YtabjjdicffcolaaGreatDoor
open Go.Lib (hid)
open Go.RowKit
def BoxD (w:World) (b:Nat) (r:Raw):Prop:=∃ A l c,Blk w b (.bool r.neg) (.slice A l c) (.int .i64 r.e)∧DyR w (.agg #[.bool r.neg,.slice A l c,.int .i64 r.e]) r
theorem BoxD.kept {w w':World}{b:Nat}{r:Raw}(h:BoxD w b r)(k:Kept w w'):BoxD w' b r:=by
 obtain ⟨A,l,c,h1,h2⟩:=h
 exact ⟨A,l,c,h1.kept k,h2.kept k⟩
theorem BoxD.other {w:World}{b b':Nat}{r:Raw}{x y z:Value}(h:BoxD w b r)(hne:¬b=b')(h0:Blk w b' x y z)(hx:NoLimb x)(hy:NoLimb y)(hz:NoLimb z)(x' y' z':Value):BoxD (dyW w b' x' y' z') b r:=by
 obtain ⟨A,l,c,h1,h2⟩:=h
 exact ⟨A,l,c,h1.laid_other hne _ _ _,h2.dyW h0 hx hy hz _ _ _⟩
theorem BoxD.made {w:World}{b:Nat}{r:Raw}{A:Option Addr}{l c:Nat}{x y z:Value}(h0:Blk w b x y z)(hx:NoLimb x)(hy:NoLimb y)(hz:NoLimb z)(h:DyR w (.agg #[.bool r.neg,.slice A l c,.int .i64 r.e]) r) :
 BoxD (dyW w b (.bool r.neg) (.slice A l c) (.int .i64 r.e)) b r:=⟨A,l,c,h0.laid _ _ _,h.dyW h0 hx hy hz _ _ _⟩
theorem bind_chain6 (o1 o2:Outc Dy)(f:Dy→Dy→Outc Dy)(g:Dy→Dy→Outc Dy) :
 (o1.bind iz fun x=>o2.bind iz fun y=>ends (f x y) (g x y))=chainL ⟨(f o1.v o2.v).v,(g o1.v o2.v).v⟩ [o1.k,o2.k,(f o1.v o2.v).k,(g o1.v o2.v).k]:=by
 rw [show (fun x=>o2.bind iz fun y=>ends (f x y) (g x y))=fun x=>o2.bind iz fun y=>chainL ⟨(f x y).v,(g x y).v⟩ [(f x y).k,(g x y).k] from by funext x;congr 1;funext y;exact ends_chain2 _ _]
 unfold Outc.bind
 simp only [chainL]
 by_cases h1:o1.k=0
 ·simp only [h1, if_true, ne_eq, not_true_eq_false, if_false]
  by_cases h2:o2.k=0
  ·simp only [h2,if_true,not_true_eq_false,if_false]
  ·simp only [h2,if_false,not_false_eq_true,if_true]
 ·simp only [h1,if_false,ne_eq,not_false_eq_true,if_true]
theorem sqr1_c {w:World}{a:Iv}{p ba bp:Nat}(ha:a.Ok)(hT:Tab w)(p1:1≤p)(p2:p≤2000)(ca:BlkIv w ba a)(cp:w.cell? ⟨bp,0,none⟩=some (.int .i64 p)) :
 Calls Tryz.prog 140 #[.pointer (some ⟨ba,0,none⟩),.pointer (some ⟨bp,0,none⟩)] w (Goes2 166 (rawO (sqrI a p)) w):=by
 obtain ⟨A,l,c,A',l',c',hba,x1,x2⟩:=ca
 obtain ⟨o1,ho1⟩:∃ o,o=mulD a.lo a.lo:=⟨_,rfl⟩
 obtain ⟨o2,ho2⟩:∃ o,o=mulD a.hi a.hi:=⟨_,rfl⟩
 obtain ⟨m0,hm0⟩:∃ m,m=leastD o1.v [o1.v,o2.v]:=⟨_,rfl⟩
 obtain ⟨hz,hhz⟩:∃ z,z=hasZero a:=⟨_,rfl⟩
 obtain ⟨m,hm⟩:∃ m,m=if hz then dz else m0:=⟨_,rfl⟩
 obtain ⟨g,hg⟩:∃ g,g=greatestD o1.v [o1.v,o2.v]:=⟨_,rfl⟩
 obtain ⟨o3,ho3⟩:∃ o,o=dirD m p false:=⟨_,rfl⟩
 obtain ⟨o4,ho4⟩:∃ o,o=dirD g p true:=⟨_,rfl⟩
 have hres:sqrI a p=chainL ⟨o3.v,o4.v⟩ [o1.k,o2.k,o3.k,o4.k]:=by
  unfold sqrI
  rw [bind_chain6 (mulD a.lo a.lo) (mulD a.hi a.hi) (fun x y=>dirD (if hasZero a then dz else leastD x [x,y]) p false) (fun x y=>dirD (greatestD x [x,y]) p true)]
  rw [←ho1,←ho2,←hhz,←hm0,←hm,←hg,←ho3,←ho4]
 rw [hres]
 have ok1:o1.Ok:=by rw [ho1];exact mulD_ok _ _
 have ok2:o2.Ok:=by rw [ho2];exact mulD_ok _ _
 have okL2:okL [o1.v,o2.v]:=by intro d hd;simp at hd;rcases hd with rfl | rfl;exact ok1.1;exact ok2.1
 have okm0:m0.Ok:=by rw [hm0];exact leastD_ok ok1.1 okL2
 have okm:m.Ok:=by rw [hm];split;exact dz_ok;exact okm0
 have okg:g.Ok:=by rw [hg];exact greatestD_ok ok1.1 okL2
 have C1:=hid (fun w1 (k:Kept w w1)=>Mul_c (x1.kept k) (x1.kept k) ha.lo ha.lo (hT.kept k))
 have C2:=hid (fun w1 (k:Kept w w1)=>Mul_c (x2.kept k) (x2.kept k) ha.hi ha.hi (hT.kept k))
 have C3:=hid (fun w1 (k:Kept w w1) v (hv:DyR w1 v m.raw)=>Down_c hv okm (hT.kept k) p1 p2)
 have C4:=hid (fun w1 (k:Kept w w1) v (hv:DyR w1 v g.raw)=>Up_c hv okg (hT.kept k) p1 p2)
 have CL:=hid (fun w1 v (hv:DyS w1 v [o1.v,o2.v])=>least_c hv okL2 (by simp))
 have CG:=hid (fun w1 v (hv:DyS w1 v [o1.v,o2.v])=>greatest_c hv okL2 (by simp))
 have CH:=hid (fun w1 (k:Kept w w1) u (hu:DyR w1 u dz.raw)=>has_c (v:=.agg #[.bool a.lo.neg,.slice A l c,.int .i64 a.lo.e,.bool a.hi.neg,.slice A' l' c',.int .i64 a.hi.e]) (a:=a) ⟨_,_,_,_,_,_,rfl,x1.kept k,x2.kept k⟩ hu ha dz_ok)
 have hhas:hasI a dz=hz:=by rw [hhz];unfold hasI hasZero;rw [dz_q]
 rw [hhas] at CH
 rw [←ho1] at C1
 rw [←ho2] at C2
 rw [←ho3] at C3
 rw [←ho4] at C4
 rw [←hm0] at CL
 rw [←hg] at CG
 obtain ⟨W,hW,kW,B3,B4⟩:=box2r w
 have HW:=hid hW
 have K:=hid kW
 have R3:=hid B3
 have R4:=hid B4
 have HA:=hid hba
 have CP:=hid cp
 have HM:=hid hm
 have lp:=lt_of_cell cp
 obtain ⟨la,-⟩:=hba.facts
 simp only at lp
 have hst:=steps_chain ⟨o3.v,o4.v⟩ [o1.raw.k,o2.raw.k,o3.raw.k,o4.raw.k]
 obtain ⟨res,hres'⟩:∃ r,r=rawO (chainL ⟨o3.v,o4.v⟩ [o1.k,o2.k,o3.k,o4.k]):=⟨_,rfl⟩
 have ST:=hid (show StepsR res ⟨o3.raw.v,o4.raw.v⟩ [o1.raw.k,o2.raw.k,o3.raw.k,o4.raw.k] by rw [hres'];exact hst)
 rw [←hres']
 have BAD:Hid (∀ (k:Int) (w1:World),Kept w w1→k≠0→res=⟨rzI,k⟩→Goes2 166 res w (.panicked (failV 166 k)) w1):=fun k w1 kk hk he=>by subst he;exact ⟨kk,.inr ⟨hk,rfl⟩⟩
 clear hW kW B3 B4 hba cp x1 x2 ha hT p1 p2 ho1 ho2 ho3 ho4 hres hres' hst hm0 hm hg hhz ok1 ok2 okL2 okm0 okm okg hhas
 generalize a.lo.neg=n1 at *
 generalize a.lo.e=e1 at *
 generalize a.hi.neg=n2 at *
 generalize a.hi.e=e2 at *
 go_enter Tryz.func140,Tryz.ntmps140
 go_upto_region 1 with fail
 rw [←HW.out]
 refine region_seq1 (m:=9) (V:=VL [(vP ba 0),(vE (.agg #[.bool n1,.slice A l c,.int .i64 e1])),(vP ba 0),(vE (.agg #[.bool n1,.slice A l c,.int .i64 e1])),(fun v wv=>(∃ d,v=.tuple #[d,.int .i64 o1.raw.k]∧DyR wv d o1.raw.v)∧(True)),(fun v wv=>DyR wv v o1.raw.v∧(True)),(vE (.int .i64 o1.raw.k)),(fun v wv=>(o1.raw.k=0∧(True))∧DyR wv v o1.raw.v),(fun v wv=>∃ b,v=.pointer (some ⟨b,0,none⟩)∧W.heap.size≤b∧Blk wv b (.bool false) (.slice none 0 0) (.int .i64 0))])
  rfl rfl rfl (by kernel_rfl) (by kernel_rfl) (by kernel_rfl) (mono_of _ ⟨mE,mE,mE,mE,fun v w w' k h=>by obtain ⟨⟨d,h1,h2⟩,h3⟩:=h;exact ⟨⟨d,h1,h2.kept k⟩,h3⟩,fun v w w' k h=>⟨h.1.kept k,h.2⟩,mE,fun v w w' k h=>by first | exact h | exact h.kept k | exact ⟨h.1,h.2.kept k⟩,fun v w w' k h=>by obtain ⟨b,h1,h2,h3⟩:=h;exact ⟨b,h1,h2,h3.kept k⟩,trivial⟩) (steps_of ⟨
   (fun aF wF F=>by have s0:aF.tmps.getD 0 undef=(.pointer (some ⟨ba,0,none⟩)):=F.o 0;exact sv rfl),(fun aF wF F=>by have s7:=F.v 0 7;have c0:=cell_at (HA.out.kept K.out) F.kept 0 _ rfl;have c1:=cell_at (HA.out.kept K.out) F.kept 1 _ rfl;have c2:=cell_at (HA.out.kept K.out) F.kept 2 _ rfl;exact sv rfl),(fun aF wF F=>by have s0:aF.tmps.getD 0 undef=(.pointer (some ⟨ba,0,none⟩)):=F.o 0;exact sv rfl),(fun aF wF F=>by have s9:=F.v 2 9;have c0:=cell_at (HA.out.kept K.out) F.kept 0 _ rfl;have c1:=cell_at (HA.out.kept K.out) F.kept 1 _ rfl;have c2:=cell_at (HA.out.kept K.out) F.kept 2 _ rfl;exact sv rfl),(fun aF wF F=>by have s8:=F.v 1 8;have s10:=F.v 3 10;have hC:True:=trivial;exact step_good (by simp [Region.wanted]) (by go_simp) (C1.out _ (K.out.trans F.kept)) (fun _ _ h=>RetE.good h) (fun _ _ h=>⟨h,hC⟩)),(fun aF wF F=>by have s11:=F.p 4 11;obtain ⟨⟨dd,ee,hh⟩,hC⟩:=s11;exact step_val (by simp [Region.wanted]) (by go_simp) ⟨hh,hC⟩),(fun aF wF F=>by have s11:=F.p 4 11;exact sw (by obtain ⟨⟨dd,ee,hh⟩,-⟩:=s11;go_simp) rfl),(fun aF wF F=>by have s12:=F.p 5 12;have s13:=F.v 6 13;have hC:=s12.2;exact sG (sure_c (d:=o1.v) (k:=o1.raw.k) s12.1) (fun _ _ _ h0 h=>⟨⟨h0,hC⟩,h⟩) (fun w2 k2 h0=>⟨F.defers,BAD.out _ _ (K.out.trans (F.kept.trans k2)) h0 (ST.out.1 h0)⟩)),(fun aF wF F=>by exact step_new (by simp [Region.wanted]) (by go_simp) (kept_alloc _ _) ⟨_,rfl,F.kept.size,blk_new0 _⟩),
   trivial⟩) ?_
 intro u w1 k1 hu
 have p11:=hp hu 4
 have p12:=hp hu 5
 have p14:=hp hu 7
 have p4:=hp hu 8
 simp only [puts,slotOf,if_true,Act.put,z1,z2,z3,z4,z5,z6,z7,hv hu 0,hv hu 1,hv hu 2,hv hu 3,hv hu 6]
 clear hu
 generalize u 4=v11 at *
 generalize u 5=v12 at *
 generalize u 7=v14 at *
 generalize u 8=v4 at *
 obtain ⟨b4,rfl,hb4,hB5⟩:=p4
 obtain ⟨⟨z1,-⟩,hd2⟩:=p14
 have hsW:=(Array.getElem?_eq_some_iff.1 R4.out).1
 obtain ⟨A5,l5,c5,rfl,hd2⟩:=rawR_split hd2
 obtain ⟨lb5,c0,c1,c2,f0,f1,f2⟩:=hB5.facts
 replace K:=hid (dyW_kept (x:=.bool o1.raw.v.neg) (y:=.slice A5 l5 c5) (z:=.int .i64 o1.raw.v.e) (K.out.trans k1) (show w.heap.size≤b4 by omega))
 replace R3:=hid ((R3.out.kept k1).laid_other (b':=b4) (by omega) (.bool o1.raw.v.neg) (.slice A5 l5 c5) (.int .i64 o1.raw.v.e))
 replace R4:=hid ((R4.out.kept k1).laid_other (b':=b4) (by omega) (.bool o1.raw.v.neg) (.slice A5 l5 c5) (.int .i64 o1.raw.v.e))
 have B4:=hid (BoxD.made hB5 (noLimb_bool _) (noLimb_slice _ _ _) (noLimb_i64 _) hd2)
 have Z1:=hid z1
 clear z1 hd2 hB5 hsW p11 p12 k1
 go_simp
 go_upto_region 2 with fail
 change Code.wp _ _ _ _ (dyW w1 b4 _ _ _)
 generalize dyW w1 b4 (.bool o1.raw.v.neg) (.slice A5 l5 c5) (.int .i64 o1.raw.v.e)=X at *
 clear c0 c1 c2 f0 f1 f2 lb5
 refine region_seq1 (m:=9) (V:=VL [(vP ba 3),(vE (.agg #[.bool n2,.slice A' l' c',.int .i64 e2])),(vP ba 3),(vE (.agg #[.bool n2,.slice A' l' c',.int .i64 e2])),(fun v wv=>(∃ d,v=.tuple #[d,.int .i64 o2.raw.k]∧DyR wv d o2.raw.v)∧(True)),(fun v wv=>DyR wv v o2.raw.v∧(True)),(vE (.int .i64 o2.raw.k)),(fun v wv=>(o2.raw.k=0∧(True))∧DyR wv v o2.raw.v),(fun v wv=>∃ b,v=.pointer (some ⟨b,0,none⟩)∧X.heap.size≤b∧Blk wv b (.bool false) (.slice none 0 0) (.int .i64 0))])
  rfl rfl rfl (by kernel_rfl) (by kernel_rfl) (by kernel_rfl) (mono_of _ ⟨mE,mE,mE,mE,fun v w w' k h=>by obtain ⟨⟨d,h1,h2⟩,h3⟩:=h;exact ⟨⟨d,h1,h2.kept k⟩,h3⟩,fun v w w' k h=>⟨h.1.kept k,h.2⟩,mE,fun v w w' k h=>by first | exact h | exact h.kept k | exact ⟨h.1,h.2.kept k⟩,fun v w w' k h=>by obtain ⟨b,h1,h2,h3⟩:=h;exact ⟨b,h1,h2,h3.kept k⟩,trivial⟩) (steps_of ⟨
   (fun aF wF F=>by have s0:aF.tmps.getD 0 undef=(.pointer (some ⟨ba,0,none⟩)):=F.o 0;exact sv rfl),(fun aF wF F=>by have s15:=F.v 0 15;have c0:=cell_at (HA.out.kept K.out) F.kept 3 _ rfl;have c1:=cell_at (HA.out.kept K.out) F.kept 4 _ rfl;have c2:=cell_at (HA.out.kept K.out) F.kept 5 _ rfl;exact sv rfl),(fun aF wF F=>by have s0:aF.tmps.getD 0 undef=(.pointer (some ⟨ba,0,none⟩)):=F.o 0;exact sv rfl),(fun aF wF F=>by have s17:=F.v 2 17;have c0:=cell_at (HA.out.kept K.out) F.kept 3 _ rfl;have c1:=cell_at (HA.out.kept K.out) F.kept 4 _ rfl;have c2:=cell_at (HA.out.kept K.out) F.kept 5 _ rfl;exact sv rfl),(fun aF wF F=>by have s16:=F.v 1 16;have s18:=F.v 3 18;have hC:True:=trivial;exact step_good (by simp [Region.wanted]) (by go_simp) (C2.out _ (K.out.trans F.kept)) (fun _ _ h=>RetE.good h) (fun _ _ h=>⟨h,hC⟩)),(fun aF wF F=>by have s19:=F.p 4 19;obtain ⟨⟨dd,ee,hh⟩,hC⟩:=s19;exact step_val (by simp [Region.wanted]) (by go_simp) ⟨hh,hC⟩),(fun aF wF F=>by have s19:=F.p 4 19;exact sw (by obtain ⟨⟨dd,ee,hh⟩,-⟩:=s19;go_simp) rfl),(fun aF wF F=>by have s20:=F.p 5 20;have s21:=F.v 6 21;have hC:=s20.2;exact sG (sure_c (d:=o2.v) (k:=o2.raw.k) s20.1) (fun _ _ _ h0 h=>⟨⟨h0,hC⟩,h⟩) (fun w2 k2 h0=>⟨F.defers,BAD.out _ _ (K.out.trans (F.kept.trans k2)) h0 ((ST.out.2 Z1.out).1 h0)⟩)),(fun aF wF F=>by exact step_new (by simp [Region.wanted]) (by go_simp) (kept_alloc _ _) ⟨_,rfl,F.kept.size,blk_new0 _⟩),
   trivial⟩) ?_
 intro u w1 k1 hu
 have p19:=hp hu 4
 have p20:=hp hu 5
 have p22:=hp hu 7
 have p5:=hp hu 8
 simp only [puts,slotOf,if_true,Act.put,z1,z2,z3,z4,z5,z6,z7,hv hu 0,hv hu 1,hv hu 2,hv hu 3,hv hu 6]
 clear hu
 generalize u 4=v19 at *
 generalize u 5=v20 at *
 generalize u 7=v22 at *
 generalize u 8=v5 at *
 obtain ⟨b5,rfl,hb5,hB5⟩:=p5
 obtain ⟨⟨z2,-⟩,hd2⟩:=p22
 have hsW:=(Array.getElem?_eq_some_iff.1 R4.out).1
 have hs4:b4<X.heap.size:=by obtain ⟨_,_,_,hh,-⟩:=B4.out;exact (Array.getElem?_eq_some_iff.1 hh).1
 obtain ⟨A5,l5,c5,rfl,hd2⟩:=rawR_split hd2
 obtain ⟨lb5,c0,c1,c2,f0,f1,f2⟩:=hB5.facts
 replace K:=hid (dyW_kept (x:=.bool o2.raw.v.neg) (y:=.slice A5 l5 c5) (z:=.int .i64 o2.raw.v.e) (K.out.trans k1) (show w.heap.size≤b5 by omega))
 replace R3:=hid ((R3.out.kept k1).laid_other (b':=b5) (by omega) (.bool o2.raw.v.neg) (.slice A5 l5 c5) (.int .i64 o2.raw.v.e))
 replace R4:=hid ((R4.out.kept k1).laid_other (b':=b5) (by omega) (.bool o2.raw.v.neg) (.slice A5 l5 c5) (.int .i64 o2.raw.v.e))
 replace B4:=hid ((B4.out.kept k1).other (b':=b5) (by omega) hB5 (noLimb_bool _) (noLimb_slice _ _ _) (noLimb_i64 _) (.bool o2.raw.v.neg) (.slice A5 l5 c5) (.int .i64 o2.raw.v.e))
 have B5:=hid (BoxD.made hB5 (noLimb_bool _) (noLimb_slice _ _ _) (noLimb_i64 _) hd2)
 have Z2:=hid z2
 clear z2 hd2 hB5 hsW hs4 p19 p20 k1
 go_simp
 go_upto_region 3 with fail
 change Code.wp _ _ _ _ (dyW w1 b5 _ _ _)
 generalize dyW w1 b5 (.bool o2.raw.v.neg) (.slice A5 l5 c5) (.int .i64 o2.raw.v.e)=Y at *
 clear c0 c1 c2 f0 f1 f2 lb5
 obtain ⟨A4,l4,c4,hb4',hd4⟩:=B4.out
 obtain ⟨A6,l6,c6,hb5',hd5⟩:=B5.out
 refine region_seq1 (m:=5) (V:=VL [(vE (.agg #[.bool o1.raw.v.neg,.slice A4 l4 c4,.int .i64 o1.raw.v.e])),(vE (.agg #[.bool o2.raw.v.neg,.slice A6 l6 c6,.int .i64 o2.raw.v.e])),(fun v wv=>DyS wv v [o1.v,o2.v]),(fun v wv=>DyR wv v m0.raw),(fun v wv=>∃ b,v=.pointer (some ⟨b,0,none⟩)∧Y.heap.size≤b∧Blk wv b (.bool false) (.slice none 0 0) (.int .i64 0))])
  rfl rfl rfl (by kernel_rfl) (by kernel_rfl) (by kernel_rfl) (mono_of _ ⟨mE,mE,fun v w w' k h=>by first | exact h | exact h.kept k | exact ⟨h.1,h.2.kept k⟩,mD,fun v w w' k h=>by obtain ⟨b,h1,h2,h3⟩:=h;exact ⟨b,h1,h2,h3.kept k⟩,trivial⟩) (steps_of ⟨
   (fun aF wF F=>by have s4:aF.tmps.getD 4 undef=(.pointer (some ⟨b4,0,none⟩)):=F.o 4;have c0:=cell_at hb4' F.kept 0 _ rfl;have c1:=cell_at hb4' F.kept 1 _ rfl;have c2:=cell_at hb4' F.kept 2 _ rfl;exact sv rfl),(fun aF wF F=>by have s5:aF.tmps.getD 5 undef=(.pointer (some ⟨b5,0,none⟩)):=F.o 5;have c0:=cell_at hb5' F.kept 0 _ rfl;have c1:=cell_at hb5' F.kept 1 _ rfl;have c2:=cell_at hb5' F.kept 2 _ rfl;exact sv rfl),(fun aF wF F=>by have s23:=F.v 0 23;have s24:=F.v 1 24;simp only [Array.getD_eq_getD_getElem?] at s23;simp only [Array.getD_eq_getD_getElem?] at s24;exact step_new (by simp [Region.wanted]) (by first | (go_simp;done) | (go_simp;rfl)) (kept_alloc _ _) (dyS_two (d:=o1.v) (d':=o2.v) rfl (hd4.kept F.kept) (hd5.kept F.kept))),(fun aF wF F=>by have s25:=F.p 2 25;exact sD (CL.out _ _ s25) fun _ _ h=>h),(fun aF wF F=>by exact step_new (by simp [Region.wanted]) (by go_simp) (kept_alloc _ _) ⟨_,rfl,F.kept.size,blk_new0 _⟩),
   trivial⟩) ?_
 intro u w1 k1 hu
 have p25:=hp hu 2
 have p26:=hp hu 3
 have p6:=hp hu 4
 simp only [puts,slotOf,if_true,Act.put,z1,z2,z3,z4,z5,z6,z7,hv hu 0,hv hu 1]
 clear hu
 generalize u 2=v25 at *
 generalize u 3=v26 at *
 generalize u 4=v6 at *
 obtain ⟨b6,rfl,hb6,hB5⟩:=p6
 have hd2:=p26
 have hsW:=(Array.getElem?_eq_some_iff.1 R4.out).1
 have hs4:b4<Y.heap.size:=(Array.getElem?_eq_some_iff.1 hb4').1
 have hs5:b5<Y.heap.size:=(Array.getElem?_eq_some_iff.1 hb5').1
 clear hb4' hb5' hd4 hd5 p25 p26
 obtain ⟨A5,l5,c5,rfl,hd2⟩:=rawR_split hd2
 obtain ⟨lb5,c0,c1,c2,f0,f1,f2⟩:=hB5.facts
 replace K:=hid (dyW_kept (x:=.bool m0.raw.neg) (y:=.slice A5 l5 c5) (z:=.int .i64 m0.raw.e) (K.out.trans k1) (show w.heap.size≤b6 by omega))
 replace R3:=hid ((R3.out.kept k1).laid_other (b':=b6) (by omega) (.bool m0.raw.neg) (.slice A5 l5 c5) (.int .i64 m0.raw.e))
 replace R4:=hid ((R4.out.kept k1).laid_other (b':=b6) (by omega) (.bool m0.raw.neg) (.slice A5 l5 c5) (.int .i64 m0.raw.e))
 replace B4:=hid ((B4.out.kept k1).other (b':=b6) (by omega) hB5 (noLimb_bool _) (noLimb_slice _ _ _) (noLimb_i64 _) (.bool m0.raw.neg) (.slice A5 l5 c5) (.int .i64 m0.raw.e))
 replace B5:=hid ((B5.out.kept k1).other (b':=b6) (by omega) hB5 (noLimb_bool _) (noLimb_slice _ _ _) (noLimb_i64 _) (.bool m0.raw.neg) (.slice A5 l5 c5) (.int .i64 m0.raw.e))
 have B6:=hid (BoxD.made hB5 (noLimb_bool _) (noLimb_slice _ _ _) (noLimb_i64 _) hd2)
 have NE:=hid (show (b4≠b6∧b5≠b6)∧(w.heap.size≠b6∧w.heap.size+1≠b6)∧w.heap.size≤b6 by omega)
 clear hd2 hB5 hsW hs4 hs5 k1 hb4 hb5 hb6
 go_simp
 go_upto_region 4 with fail
 change Code.wp _ _ _ _ (dyW w1 b6 _ _ _)
 generalize dyW w1 b6 (.bool m0.raw.neg) (.slice A5 l5 c5) (.int .i64 m0.raw.e)=V at *
 clear c0 c1 c2 f0 f1 f2 lb5
 refine region_seq (m:=3) (V:=VL [(vE (.agg #[.bool n1,.slice A l c,.int .i64 e1,.bool n2,.slice A' l' c',.int .i64 e2])),(vE (.agg #[.bool false,.slice none 0 0,.int .i64 0])),(vE (.bool hz))])
  rfl (by kernel_rfl) (by kernel_rfl) (by kernel_rfl) (mono_of _ ⟨mE,mE,mE,trivial⟩) (steps_of ⟨
   (fun aF wF F=>by have s0:aF.tmps.getD 0 undef=(.pointer (some ⟨ba,0,none⟩)):=F.o 0;have c0:=cell_at (HA.out.kept K.out) F.kept 0 _ rfl;have c1:=cell_at (HA.out.kept K.out) F.kept 1 _ rfl;have c2:=cell_at (HA.out.kept K.out) F.kept 2 _ rfl;have c3:=cell_at (HA.out.kept K.out) F.kept 3 _ rfl;have c4:=cell_at (HA.out.kept K.out) F.kept 4 _ rfl;have c5:=cell_at (HA.out.kept K.out) F.kept 5 _ rfl;exact sv rfl),(fun aF wF F=>by exact sv rfl),(fun aF wF F=>by have s27:=F.v 0 27;have s28:=F.v 1 28;exact sK (CH.out _ (K.out.trans F.kept) (.agg #[.bool false,.slice none 0 0,.int .i64 0]) (by rw [dz_raw];exact dyR_zero _)) fun _ _ h=>h),
   trivial⟩) ?_
 intro u w1 k1 hu
 simp only [puts,slotOf,if_true,Act.put,z1,z2,z3,z4,z5,z6,z7,hv hu 0,hv hu 1,hv hu 2]
 clear hu
 replace K:=hid (K.out.trans k1)
 replace R3:=hid (R3.out.kept k1)
 replace R4:=hid (R4.out.kept k1)
 replace B4:=hid (B4.out.kept k1)
 replace B5:=hid (B5.out.kept k1)
 replace B6:=hid (B6.out.kept k1)
 clear k1
 -- the box of lo holds m
 have hB6:=B6.out
 obtain ⟨A7,l7,c7,hb7,hd7⟩:=hB6
 obtain ⟨_,c0,c1,c2,f0,f1,f2⟩:=hb7.facts
 cases hz
 ·have hm : m = m0 := HM.out
  subst hm
  clear hb7 hd7
  go_upto_region 6 with fail
  clear c0 c1 c2 f0 f1 f2 A7 l7 c7
  generalize w1=Q at *
  clear hd2
  have hB6:=B6.out
  clear B6
  obtain ⟨A7,l7,c7,hb7,hd7⟩:=hB6
  refine region_seq1 (m:=6) (V:=VL [(vE (.agg #[.bool m.raw.neg,.slice A7 l7 c7,.int .i64 m.raw.e])),(vE (.int .i64 p)),(fun v wv=>(∃ d,v=.tuple #[d,.int .i64 o3.raw.k]∧DyR wv d o3.raw.v)∧(True)),(fun v wv=>DyR wv v o3.raw.v∧(True)),(vE (.int .i64 o3.raw.k)),(fun v wv=>(o3.raw.k=0∧(True))∧DyR wv v o3.raw.v)])
   rfl rfl rfl (by kernel_rfl) (by kernel_rfl) (by kernel_rfl) (mono_of _ ⟨mE,mE,fun v w w' k h=>by obtain ⟨⟨d,h1,h2⟩,h3⟩:=h;exact ⟨⟨d,h1,h2.kept k⟩,h3⟩,fun v w w' k h=>⟨h.1.kept k,h.2⟩,mE,fun v w w' k h=>by first | exact h | exact h.kept k | exact ⟨h.1,h.2.kept k⟩,trivial⟩) (steps_of ⟨
    (fun aF wF F=>by have s6:aF.tmps.getD 6 undef=(.pointer (some ⟨b6,0,none⟩)):=F.o 6;have c0:=cell_at hb7 F.kept 0 _ rfl;have c1:=cell_at hb7 F.kept 1 _ rfl;have c2:=cell_at hb7 F.kept 2 _ rfl;exact sv rfl),(fun aF wF F=>by have s1:aF.tmps.getD 1 undef=(.pointer (some ⟨bp,0,none⟩)):=F.o 1;exact sw (by have cq:=cell_kept (K.out.trans F.kept) CP.out;go_simp) rfl),(fun aF wF F=>by have s31:=F.v 0 31;have s32:=F.v 1 32;have hC:True:=trivial;exact step_good (by simp [Region.wanted]) (by go_simp) (C3.out _ (K.out.trans F.kept) _ (hd7.kept F.kept)) (fun _ _ h=>RetE.good h) (fun _ _ h=>⟨h,hC⟩)),(fun aF wF F=>by have s33:=F.p 2 33;obtain ⟨⟨dd,ee,hh⟩,hC⟩:=s33;exact step_val (by simp [Region.wanted]) (by go_simp) ⟨hh,hC⟩),(fun aF wF F=>by have s33:=F.p 2 33;exact sw (by obtain ⟨⟨dd,ee,hh⟩,-⟩:=s33;go_simp) rfl),(fun aF wF F=>by have s34:=F.p 3 34;have s35:=F.v 4 35;have hC:=s34.2;exact sG (sure_c (d:=o3.v) (k:=o3.raw.k) s34.1) (fun _ _ _ h0 h=>⟨⟨h0,hC⟩,h⟩) (fun w2 k2 h0=>⟨F.defers,BAD.out _ _ (K.out.trans (F.kept.trans k2)) h0 (((ST.out.2 Z1.out).2 Z2.out).1 h0)⟩)),
    trivial⟩) ?_
  intro u w1 k1 hu
  have p33:=hp hu 2
  have p34:=hp hu 3
  have p36:=hp hu 5
  simp only [puts,slotOf,if_true,Act.put,z1,z2,z3,z4,z5,z6,z7,hv hu 0,hv hu 1,hv hu 4]
  clear hu
  generalize u 2=v33 at *
  generalize u 3=v34 at *
  generalize u 5=v36 at *
  obtain ⟨⟨z3,-⟩,hd2⟩:=p36
  have hB5:=hb7.kept k1
  have ne:=NE.out
  obtain ⟨ne1,ne2,ne3⟩:=ne
  obtain ⟨A5,l5,c5,rfl,hd2⟩:=rawR_split hd2
  obtain ⟨lb5,c0,c1,c2,f0,f1,f2⟩:=hB5.facts
  replace K:=hid (dyW_kept (x:=.bool o3.raw.v.neg) (y:=.slice A5 l5 c5) (z:=.int .i64 o3.raw.v.e) (K.out.trans k1) (show w.heap.size≤b6 by omega))
  replace R3:=hid ((R3.out.kept k1).laid_other (b':=b6) ne2.1 (.bool o3.raw.v.neg) (.slice A5 l5 c5) (.int .i64 o3.raw.v.e))
  replace R4:=hid ((R4.out.kept k1).laid_other (b':=b6) ne2.2 (.bool o3.raw.v.neg) (.slice A5 l5 c5) (.int .i64 o3.raw.v.e))
  replace B4:=hid ((B4.out.kept k1).other (b':=b6) ne1.1 hB5 (noLimb_bool _) (noLimb_slice _ _ _) (noLimb_i64 _) (.bool o3.raw.v.neg) (.slice A5 l5 c5) (.int .i64 o3.raw.v.e))
  replace B5:=hid ((B5.out.kept k1).other (b':=b6) ne1.2 hB5 (noLimb_bool _) (noLimb_slice _ _ _) (noLimb_i64 _) (.bool o3.raw.v.neg) (.slice A5 l5 c5) (.int .i64 o3.raw.v.e))
  have B6X:=hid (hB5.laid (.bool o3.raw.v.neg) (.slice A5 l5 c5) (.int .i64 o3.raw.v.e))
  have D6X:=hid (hd2.dyW hB5 (noLimb_bool _) (noLimb_slice _ _ _) (noLimb_i64 _) (.bool o3.raw.v.neg) (.slice A5 l5 c5) (.int .i64 o3.raw.v.e))
  have Z3:=hid z3
  clear z3 hd2 hB5 hb7 hd7 p33 p34 k1 ne1 ne2 ne3
  go_simp
  go_upto_region 7 with fail
  change Code.wp _ _ _ _ (dyW w1 b6 _ _ _)
  generalize dyW w1 b6 (.bool o3.raw.v.neg) (.slice A5 l5 c5) (.int .i64 o3.raw.v.e)=P at *
  clear c0 c1 c2 f0 f1 f2 lb5
  obtain ⟨A4,l4,c4,hb4',hd4⟩:=B4.out
  obtain ⟨A6,l6,c6,hb5',hd5⟩:=B5.out
  refine region_lin2 (m:=10) (V:=VL [(vE (.agg #[.bool o3.raw.v.neg,.slice A5 l5 c5,.int .i64 o3.raw.v.e])),(vE (.agg #[.bool o1.raw.v.neg,.slice A4 l4 c4,.int .i64 o1.raw.v.e])),(vE (.agg #[.bool o2.raw.v.neg,.slice A6 l6 c6,.int .i64 o2.raw.v.e])),(fun v wv=>DyS wv v [o1.v,o2.v]),(fun v wv=>DyR wv v g.raw),(vE (.int .i64 p)),(fun v wv=>(∃ d,v=.tuple #[d,.int .i64 o4.raw.k]∧DyR wv d o4.raw.v)∧(True)),(fun v wv=>DyR wv v o4.raw.v∧(True)),(vE (.int .i64 o4.raw.k)),(fun v wv=>(o4.raw.k=0∧(True))∧DyR wv v o4.raw.v)])
   (by kernel_rfl) rfl rfl rfl rfl rfl (by kernel_rfl) (by kernel_rfl) (by kernel_rfl) (by kernel_rfl) (mono_of _ ⟨mE,mE,mE,fun v w w' k h=>by first | exact h | exact h.kept k | exact ⟨h.1,h.2.kept k⟩,mD,mE,fun v w w' k h=>by obtain ⟨⟨d,h1,h2⟩,h3⟩:=h;exact ⟨⟨d,h1,h2.kept k⟩,h3⟩,fun v w w' k h=>⟨h.1.kept k,h.2⟩,mE,fun v w w' k h=>by first | exact h | exact h.kept k | exact ⟨h.1,h.2.kept k⟩,trivial⟩) (steps_of ⟨
     (fun aF wF F=>by have s6:aF.tmps.getD 6 undef=(.pointer (some ⟨b6,0,none⟩)):=F.o 6;have c0:=cell_at B6X.out F.kept 0 _ rfl;have c1:=cell_at B6X.out F.kept 1 _ rfl;have c2:=cell_at B6X.out F.kept 2 _ rfl;exact sv rfl),(fun aF wF F=>by have s4:aF.tmps.getD 4 undef=(.pointer (some ⟨b4,0,none⟩)):=F.o 4;have c0:=cell_at hb4' F.kept 0 _ rfl;have c1:=cell_at hb4' F.kept 1 _ rfl;have c2:=cell_at hb4' F.kept 2 _ rfl;exact sv rfl),(fun aF wF F=>by have s5:aF.tmps.getD 5 undef=(.pointer (some ⟨b5,0,none⟩)):=F.o 5;have c0:=cell_at hb5' F.kept 0 _ rfl;have c1:=cell_at hb5' F.kept 1 _ rfl;have c2:=cell_at hb5' F.kept 2 _ rfl;exact sv rfl),(fun aF wF F=>by have s38:=F.v 1 38;have s39:=F.v 2 39;simp only [Array.getD_eq_getD_getElem?] at s38;simp only [Array.getD_eq_getD_getElem?] at s39;exact step_new (by simp [Region.wanted]) (by first | (go_simp;done) | (go_simp;rfl)) (kept_alloc _ _) (dyS_two (d:=o1.v) (d':=o2.v) rfl (hd4.kept F.kept) (hd5.kept F.kept))),(fun aF wF F=>by have s40:=F.p 3 40;exact sD (CG.out _ _ s40) fun _ _ h=>h),(fun aF wF F=>by have s1:aF.tmps.getD 1 undef=(.pointer (some ⟨bp,0,none⟩)):=F.o 1;exact sw (by have cq:=cell_kept (K.out.trans F.kept) CP.out;go_simp) rfl),(fun aF wF F=>by have s41:=F.p 4 41;have s42:=F.v 5 42;have hC:True:=trivial;exact step_good (by simp [Region.wanted]) (by go_simp) (C4.out _ (K.out.trans F.kept) _ s41) (fun _ _ h=>RetE.good h) (fun _ _ h=>⟨h,hC⟩)),(fun aF wF F=>by have s43:=F.p 6 43;obtain ⟨⟨dd,ee,hh⟩,hC⟩:=s43;exact step_val (by simp [Region.wanted]) (by go_simp) ⟨hh,hC⟩),(fun aF wF F=>by have s43:=F.p 6 43;exact sw (by obtain ⟨⟨dd,ee,hh⟩,-⟩:=s43;go_simp) rfl),(fun aF wF F=>by have s44:=F.p 7 44;have s45:=F.v 8 45;have hC:=s44.2;exact sG (sure_c (d:=o4.v) (k:=o4.raw.k) s44.1) (fun _ _ _ h0 h=>⟨⟨h0,hC⟩,h⟩) (fun w2 k2 h0=>⟨F.defers,BAD.out _ _ (K.out.trans (F.kept.trans k2)) h0 ((((ST.out.2 Z1.out).2 Z2.out).2 Z3.out).1 h0)⟩)),
     trivial⟩) ?_
  intro u w1 k1 hu
  have p40:=hp hu 3
  have p41:=hp hu 4
  have p43:=hp hu 6
  have p44:=hp hu 7
  have p46:=hp hu 9
  simp only [puts,slotOf,if_true,Act.put,z1,z2,z3,z4,z5,z6,z7,hv hu 0,hv hu 1,hv hu 2,hv hu 5,hv hu 8]
  clear hu
  generalize u 3=v40 at *
  generalize u 4=v41 at *
  generalize u 6=v43 at *
  generalize u 7=v44 at *
  generalize u 9=v46 at *
  obtain ⟨⟨z4,-⟩,hdN⟩:=p46
  obtain ⟨A8,l8,c8,rfl,hdN⟩:=rawR_split hdN
  have hres:=(((ST.out.2 Z1.out).2 Z2.out).2 Z3.out).2 z4
  have r3:=R3.out.kept k1
  have r4:=R4.out.kept k1
  have hk:=K.out.trans k1
  have hdM:=D6X.out.kept k1
  obtain ⟨-,c0,c1,c2,f0,f1,f2⟩:=r3.facts
  obtain ⟨-,d0,d1,d2,g0,g1,g2⟩:=r4.facts
  obtain ⟨t1,t2,t3⟩:=two_laid (T:=166) hk (Nat.le_refl _) (Nat.le_succ _) (by omega) r3 r4 hdM hdN hres
  have T1:=hid t1
  have T2:=hid t2
  have T3:=hid t3
  clear t1 t2 t3 r3 r4 hk hdM hdN hres z4 p40 p41 p43 p44 hb4' hb5' hd4 hd5 B4 B5 B6X D6X NE k1
  refine ⟨?_,?_⟩
  ·go_simp
   go_wp2_with fail
   exact ret_dydy T1.out T2.out rfl rfl rfl rfl T3.out
  ·first
    | exact .inl (by kernel_rfl)
    | (right
       rw [dyW_swap _ (by omega)] at T1 T2 T3
       go_simp
       go_wp2_with fail
       exact ret_dydy T1.out T2.out rfl rfl rfl rfl T3.out)
 ·have hm : m = dz := HM.out
  have HB7:=hid hb7
  clear hb7 hd7
  go_upto_region 6 with fail
  change Code.wp _ _ _ _ (dyW w1 b6 (.bool false) (.slice none 0 0) (.int .i64 0))
  clear c0 c1 c2 f0 f1 f2 hd2
  have ne:=NE.out
  replace K:=hid (dyW_kept (x:=.bool false) (y:=.slice none 0 0) (z:=.int .i64 0) K.out ne.2.2)
  replace R3:=hid (R3.out.laid_other ne.2.1.1 (.bool false) (.slice none 0 0) (.int .i64 0))
  replace R4:=hid (R4.out.laid_other ne.2.1.2 (.bool false) (.slice none 0 0) (.int .i64 0))
  replace B4:=hid (B4.out.other ne.1.1 HB7.out (noLimb_bool _) (noLimb_slice _ _ _) (noLimb_i64 _) (.bool false) (.slice none 0 0) (.int .i64 0))
  replace B5:=hid (B5.out.other ne.1.2 HB7.out (noLimb_bool _) (noLimb_slice _ _ _) (noLimb_i64 _) (.bool false) (.slice none 0 0) (.int .i64 0))
  replace B6:Hid (BoxD (dyW w1 b6 (.bool false) (.slice none 0 0) (.int .i64 0)) b6 m.raw):=by
   rw [hm,dz_raw];exact ⟨none,0,0,HB7.out.laid _ _ _,dyR_zero _⟩
  clear HB7 ne hm A7 l7 c7
  generalize dyW w1 b6 (.bool false) (.slice none 0 0) (.int .i64 0)=Q at *
  have hB6:=B6.out
  clear B6
  obtain ⟨A7,l7,c7,hb7,hd7⟩:=hB6
  refine region_seq1 (m:=6) (V:=VL [(vE (.agg #[.bool m.raw.neg,.slice A7 l7 c7,.int .i64 m.raw.e])),(vE (.int .i64 p)),(fun v wv=>(∃ d,v=.tuple #[d,.int .i64 o3.raw.k]∧DyR wv d o3.raw.v)∧(True)),(fun v wv=>DyR wv v o3.raw.v∧(True)),(vE (.int .i64 o3.raw.k)),(fun v wv=>(o3.raw.k=0∧(True))∧DyR wv v o3.raw.v)])
   rfl rfl rfl (by kernel_rfl) (by kernel_rfl) (by kernel_rfl) (mono_of _ ⟨mE,mE,fun v w w' k h=>by obtain ⟨⟨d,h1,h2⟩,h3⟩:=h;exact ⟨⟨d,h1,h2.kept k⟩,h3⟩,fun v w w' k h=>⟨h.1.kept k,h.2⟩,mE,fun v w w' k h=>by first | exact h | exact h.kept k | exact ⟨h.1,h.2.kept k⟩,trivial⟩) (steps_of ⟨
    (fun aF wF F=>by have s6:aF.tmps.getD 6 undef=(.pointer (some ⟨b6,0,none⟩)):=F.o 6;have c0:=cell_at hb7 F.kept 0 _ rfl;have c1:=cell_at hb7 F.kept 1 _ rfl;have c2:=cell_at hb7 F.kept 2 _ rfl;exact sv rfl),(fun aF wF F=>by have s1:aF.tmps.getD 1 undef=(.pointer (some ⟨bp,0,none⟩)):=F.o 1;exact sw (by have cq:=cell_kept (K.out.trans F.kept) CP.out;go_simp) rfl),(fun aF wF F=>by have s31:=F.v 0 31;have s32:=F.v 1 32;have hC:True:=trivial;exact step_good (by simp [Region.wanted]) (by go_simp) (C3.out _ (K.out.trans F.kept) _ (hd7.kept F.kept)) (fun _ _ h=>RetE.good h) (fun _ _ h=>⟨h,hC⟩)),(fun aF wF F=>by have s33:=F.p 2 33;obtain ⟨⟨dd,ee,hh⟩,hC⟩:=s33;exact step_val (by simp [Region.wanted]) (by go_simp) ⟨hh,hC⟩),(fun aF wF F=>by have s33:=F.p 2 33;exact sw (by obtain ⟨⟨dd,ee,hh⟩,-⟩:=s33;go_simp) rfl),(fun aF wF F=>by have s34:=F.p 3 34;have s35:=F.v 4 35;have hC:=s34.2;exact sG (sure_c (d:=o3.v) (k:=o3.raw.k) s34.1) (fun _ _ _ h0 h=>⟨⟨h0,hC⟩,h⟩) (fun w2 k2 h0=>⟨F.defers,BAD.out _ _ (K.out.trans (F.kept.trans k2)) h0 (((ST.out.2 Z1.out).2 Z2.out).1 h0)⟩)),
    trivial⟩) ?_
  intro u w1 k1 hu
  have p33:=hp hu 2
  have p34:=hp hu 3
  have p36:=hp hu 5
  simp only [puts,slotOf,if_true,Act.put,z1,z2,z3,z4,z5,z6,z7,hv hu 0,hv hu 1,hv hu 4]
  clear hu
  generalize u 2=v33 at *
  generalize u 3=v34 at *
  generalize u 5=v36 at *
  obtain ⟨⟨z3,-⟩,hd2⟩:=p36
  have hB5:=hb7.kept k1
  have ne:=NE.out
  obtain ⟨ne1,ne2,ne3⟩:=ne
  obtain ⟨A5,l5,c5,rfl,hd2⟩:=rawR_split hd2
  obtain ⟨lb5,c0,c1,c2,f0,f1,f2⟩:=hB5.facts
  replace K:=hid (dyW_kept (x:=.bool o3.raw.v.neg) (y:=.slice A5 l5 c5) (z:=.int .i64 o3.raw.v.e) (K.out.trans k1) (show w.heap.size≤b6 by omega))
  replace R3:=hid ((R3.out.kept k1).laid_other (b':=b6) ne2.1 (.bool o3.raw.v.neg) (.slice A5 l5 c5) (.int .i64 o3.raw.v.e))
  replace R4:=hid ((R4.out.kept k1).laid_other (b':=b6) ne2.2 (.bool o3.raw.v.neg) (.slice A5 l5 c5) (.int .i64 o3.raw.v.e))
  replace B4:=hid ((B4.out.kept k1).other (b':=b6) ne1.1 hB5 (noLimb_bool _) (noLimb_slice _ _ _) (noLimb_i64 _) (.bool o3.raw.v.neg) (.slice A5 l5 c5) (.int .i64 o3.raw.v.e))
  replace B5:=hid ((B5.out.kept k1).other (b':=b6) ne1.2 hB5 (noLimb_bool _) (noLimb_slice _ _ _) (noLimb_i64 _) (.bool o3.raw.v.neg) (.slice A5 l5 c5) (.int .i64 o3.raw.v.e))
  have B6X:=hid (hB5.laid (.bool o3.raw.v.neg) (.slice A5 l5 c5) (.int .i64 o3.raw.v.e))
  have D6X:=hid (hd2.dyW hB5 (noLimb_bool _) (noLimb_slice _ _ _) (noLimb_i64 _) (.bool o3.raw.v.neg) (.slice A5 l5 c5) (.int .i64 o3.raw.v.e))
  have Z3:=hid z3
  clear z3 hd2 hB5 hb7 hd7 p33 p34 k1 ne1 ne2 ne3
  go_simp
  go_upto_region 7 with fail
  change Code.wp _ _ _ _ (dyW w1 b6 _ _ _)
  generalize dyW w1 b6 (.bool o3.raw.v.neg) (.slice A5 l5 c5) (.int .i64 o3.raw.v.e)=P at *
  clear c0 c1 c2 f0 f1 f2 lb5
  obtain ⟨A4,l4,c4,hb4',hd4⟩:=B4.out
  obtain ⟨A6,l6,c6,hb5',hd5⟩:=B5.out
  refine region_lin2 (m:=10) (V:=VL [(vE (.agg #[.bool o3.raw.v.neg,.slice A5 l5 c5,.int .i64 o3.raw.v.e])),(vE (.agg #[.bool o1.raw.v.neg,.slice A4 l4 c4,.int .i64 o1.raw.v.e])),(vE (.agg #[.bool o2.raw.v.neg,.slice A6 l6 c6,.int .i64 o2.raw.v.e])),(fun v wv=>DyS wv v [o1.v,o2.v]),(fun v wv=>DyR wv v g.raw),(vE (.int .i64 p)),(fun v wv=>(∃ d,v=.tuple #[d,.int .i64 o4.raw.k]∧DyR wv d o4.raw.v)∧(True)),(fun v wv=>DyR wv v o4.raw.v∧(True)),(vE (.int .i64 o4.raw.k)),(fun v wv=>(o4.raw.k=0∧(True))∧DyR wv v o4.raw.v)])
   (by kernel_rfl) rfl rfl rfl rfl rfl (by kernel_rfl) (by kernel_rfl) (by kernel_rfl) (by kernel_rfl) (mono_of _ ⟨mE,mE,mE,fun v w w' k h=>by first | exact h | exact h.kept k | exact ⟨h.1,h.2.kept k⟩,mD,mE,fun v w w' k h=>by obtain ⟨⟨d,h1,h2⟩,h3⟩:=h;exact ⟨⟨d,h1,h2.kept k⟩,h3⟩,fun v w w' k h=>⟨h.1.kept k,h.2⟩,mE,fun v w w' k h=>by first | exact h | exact h.kept k | exact ⟨h.1,h.2.kept k⟩,trivial⟩) (steps_of ⟨
     (fun aF wF F=>by have s6:aF.tmps.getD 6 undef=(.pointer (some ⟨b6,0,none⟩)):=F.o 6;have c0:=cell_at B6X.out F.kept 0 _ rfl;have c1:=cell_at B6X.out F.kept 1 _ rfl;have c2:=cell_at B6X.out F.kept 2 _ rfl;exact sv rfl),(fun aF wF F=>by have s4:aF.tmps.getD 4 undef=(.pointer (some ⟨b4,0,none⟩)):=F.o 4;have c0:=cell_at hb4' F.kept 0 _ rfl;have c1:=cell_at hb4' F.kept 1 _ rfl;have c2:=cell_at hb4' F.kept 2 _ rfl;exact sv rfl),(fun aF wF F=>by have s5:aF.tmps.getD 5 undef=(.pointer (some ⟨b5,0,none⟩)):=F.o 5;have c0:=cell_at hb5' F.kept 0 _ rfl;have c1:=cell_at hb5' F.kept 1 _ rfl;have c2:=cell_at hb5' F.kept 2 _ rfl;exact sv rfl),(fun aF wF F=>by have s38:=F.v 1 38;have s39:=F.v 2 39;simp only [Array.getD_eq_getD_getElem?] at s38;simp only [Array.getD_eq_getD_getElem?] at s39;exact step_new (by simp [Region.wanted]) (by first | (go_simp;done) | (go_simp;rfl)) (kept_alloc _ _) (dyS_two (d:=o1.v) (d':=o2.v) rfl (hd4.kept F.kept) (hd5.kept F.kept))),(fun aF wF F=>by have s40:=F.p 3 40;exact sD (CG.out _ _ s40) fun _ _ h=>h),(fun aF wF F=>by have s1:aF.tmps.getD 1 undef=(.pointer (some ⟨bp,0,none⟩)):=F.o 1;exact sw (by have cq:=cell_kept (K.out.trans F.kept) CP.out;go_simp) rfl),(fun aF wF F=>by have s41:=F.p 4 41;have s42:=F.v 5 42;have hC:True:=trivial;exact step_good (by simp [Region.wanted]) (by go_simp) (C4.out _ (K.out.trans F.kept) _ s41) (fun _ _ h=>RetE.good h) (fun _ _ h=>⟨h,hC⟩)),(fun aF wF F=>by have s43:=F.p 6 43;obtain ⟨⟨dd,ee,hh⟩,hC⟩:=s43;exact step_val (by simp [Region.wanted]) (by go_simp) ⟨hh,hC⟩),(fun aF wF F=>by have s43:=F.p 6 43;exact sw (by obtain ⟨⟨dd,ee,hh⟩,-⟩:=s43;go_simp) rfl),(fun aF wF F=>by have s44:=F.p 7 44;have s45:=F.v 8 45;have hC:=s44.2;exact sG (sure_c (d:=o4.v) (k:=o4.raw.k) s44.1) (fun _ _ _ h0 h=>⟨⟨h0,hC⟩,h⟩) (fun w2 k2 h0=>⟨F.defers,BAD.out _ _ (K.out.trans (F.kept.trans k2)) h0 ((((ST.out.2 Z1.out).2 Z2.out).2 Z3.out).1 h0)⟩)),
     trivial⟩) ?_
  intro u w1 k1 hu
  have p40:=hp hu 3
  have p41:=hp hu 4
  have p43:=hp hu 6
  have p44:=hp hu 7
  have p46:=hp hu 9
  simp only [puts,slotOf,if_true,Act.put,z1,z2,z3,z4,z5,z6,z7,hv hu 0,hv hu 1,hv hu 2,hv hu 5,hv hu 8]
  clear hu
  generalize u 3=v40 at *
  generalize u 4=v41 at *
  generalize u 6=v43 at *
  generalize u 7=v44 at *
  generalize u 9=v46 at *
  obtain ⟨⟨z4,-⟩,hdN⟩:=p46
  obtain ⟨A8,l8,c8,rfl,hdN⟩:=rawR_split hdN
  have hres:=(((ST.out.2 Z1.out).2 Z2.out).2 Z3.out).2 z4
  have r3:=R3.out.kept k1
  have r4:=R4.out.kept k1
  have hk:=K.out.trans k1
  have hdM:=D6X.out.kept k1
  obtain ⟨-,c0,c1,c2,f0,f1,f2⟩:=r3.facts
  obtain ⟨-,d0,d1,d2,g0,g1,g2⟩:=r4.facts
  obtain ⟨t1,t2,t3⟩:=two_laid (T:=166) hk (Nat.le_refl _) (Nat.le_succ _) (by omega) r3 r4 hdM hdN hres
  have T1:=hid t1
  have T2:=hid t2
  have T3:=hid t3
  clear t1 t2 t3 r3 r4 hk hdM hdN hres z4 p40 p41 p43 p44 hb4' hb5' hd4 hd5 B4 B5 B6X D6X NE k1
  refine ⟨?_,?_⟩
  ·go_simp
   go_wp2_with fail
   exact ret_dydy T1.out T2.out rfl rfl rfl rfl T3.out
  ·first
    | exact .inl (by kernel_rfl)
    | (right
       rw [dyW_swap _ (by omega)] at T1 T2 T3
       go_simp
       go_wp2_with fail
       exact ret_dydy T1.out T2.out rfl rfl rfl rfl T3.out)
end Go.Proofs.YtabjjdicffcolaaGreatDoor
