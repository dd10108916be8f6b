/- Words and contracts, part 29. -/
import Derived.Test.YtinbgjcooolbiaaGreatDoorClaimPartsp28
set_option maxRecDepth 100000
set_option maxHeartbeats 0
namespace Go.Proofs.YtinbgjcooolbiaaGreatDoor
open Go.Lib (hid)
open Go.RowKit
theorem Dg.len_bl (n:Nat):(Dg.limbs n).length≤bl n:=by
 rw [Dg.length_limbs];unfold bl;split<;>omega
theorem Dg.box_nn (w:World)(x y z p q r:Value):∃ W,W=(w.alloc (.cells #[x,y,z] 81)).alloc (.cells #[p,q,r] 81) ∧
 Kept w W∧Dg.Blk W w.heap.size x y z∧Dg.Blk W (w.heap.size+1) p q r:=by
 refine ⟨_,rfl,(Ad _ _).trans (Ad _ _),(Dg.blk_new _ _ _ _).kept (Ad _ _),?_⟩;have:=Dg.blk_new (w.alloc (.cells #[x,y,z] 81)) p q r;simpa using this
theorem Aam {w:World}{va vb:Value}{x y:Dy}(ha:Dg.DN w va x.neg x.m x.e)(hb:Dg.DN w vb y.neg y.m y.e)(hx:x.Ok)(hy:y.Ok)(hx0:x.m≠0)(hy0:y.m≠0) :
 Calls Tryz.prog 123 #[va,vb] w (RetK (.int .i64 (Eo x y)) w):=by
 obtain ⟨A,l,c,rfl,ha⟩:=ha;obtain ⟨A2,l2,c2,rfl,hb⟩:=hb;have bx:=Cv x.m 64 hx.len;have bY:=Cv y.m 64 hy.len;have lx:=Dg.len_bl x.m;have ly:=Dg.len_bl y.m;have hs1:=fun w1 (k:Kept w w1)=>Dg.bits_c (ha.kept k) (by omega)
 have hs2:=fun w1 (k:Kept w w1)=>Dg.bits_c (hb.kept k) (by omega)
 have x1:=hx.lo;have x2:=hx.hi;have y1:=hy.lo;have y2:=hy.hi;obtain ⟨j1,hj1⟩:∃ j:Nat,x.e-min x.e y.e=j:=⟨(x.e-min x.e y.e).toNat,by omega⟩;obtain ⟨j2,hj2⟩:∃ j:Nat,y.e-min x.e y.e=j:=⟨(y.e-min x.e y.e).toNat,by omega⟩;have b1:j1≤2097152:=by omega
 have b2:j2≤2097152:=by omega
 have hl1:=fun w1 (k:Kept w w1)=>Dg.shl_c (ha.kept k) j1 (by omega) (by omega)
 have hl2:=fun w1 (k:Kept w w1)=>Dg.shl_c (hb.kept k) j2 (by omega) (by omega)
 have kx:(Dg.limbs (x.m*2^j1)).length≤40000000:=by have:=Dg.len_bl (x.m*2^j1);rw [Ci _ _ hx0] at this;omega
 have ky:(Dg.limbs (y.m*2^j2)).length≤40000000:=by have:=Dg.len_bl (y.m*2^j2);rw [Ci _ _ hy0] at this;omega
 have ho:=fun w1 v u (h1:Dg.Lim w1 v (Dg.limbs (x.m*2^j1))) (h2:Dg.Lim w1 u (Dg.limbs (y.m*2^j2)))=>Dg.cmp_c h1 h2 (by omega) (by omega)
 have hwx:IntKind.i64.wrap ((bl x.m:Int)+x.e)=(bl x.m:Int)+x.e:=by simp [IntKind.wrap_i64];omega
 have hwy:IntKind.i64.wrap ((bl y.m:Int)+y.e)=(bl y.m:Int)+y.e:=by simp [IntKind.wrap_i64];omega
 have hw1:IntKind.i64.wrap (x.e-min x.e y.e)=(j1:Int):=by rw [hj1];simp [IntKind.wrap_i64];omega
 have hw2:IntKind.i64.wrap (y.e-min x.e y.e)=(j2:Int):=by rw [hj2];simp [IntKind.wrap_i64];omega
 have hD:Eo x y=if (bl x.m:Int)+x.e<bl y.m+y.e then -1 else if (bl y.m:Int)+y.e<bl x.m+x.e then 1 else Bp (x.m*2^j1) (y.m*2^j2):=by
  unfold Eo;rw [hj1,hj2];rfl
 have HD:=hid hD;have H1:=hid hs1;have H2:=hid hs2;have L1:=hid hl1;have L2:=hid hl2;have HO:=hid ho;clear hD hs1 hs2 hl1 hl2 ho lx ly kx ky ha hb bx bY x1 x2 y1 y2 hx hy hx0 hy0 b1 b2 hj1 hj2;generalize Dg.limbs (x.m*2^j1)=xs at *;generalize Dg.limbs (y.m*2^j2)=ys at *;generalize Bp (x.m*2^j1) (y.m*2^j2)=cc at *;obtain ⟨sx,hsx⟩:∃ sx,(bl x.m:Int)+x.e=sx:=⟨_,rfl⟩;obtain ⟨sy,hsy⟩:∃ sy,(bl y.m:Int)+y.e=sy:=⟨_,rfl⟩;rw [hsx,hsy] at HD;rw [hsx] at hwx;rw [hsy] at hwy;have HX:=hid hsx;have HY:=hid hsy;clear hsx hsy;obtain ⟨lo,hlo⟩:∃ lo,min x.e y.e=lo:=⟨_,rfl⟩;rw [hlo] at hw1 hw2;have HL:=hid hlo;clear hlo
 generalize bl x.m=bx at *;generalize bl y.m=bY at *;have hsz:=HD.out;generalize Eo x y=res at *;generalize x.neg=n1 at *;generalize x.e=e1 at *;generalize y.neg=n2 at *;generalize y.e=e2 at *;clear HD;obtain ⟨W,hW,kW,B0,B1⟩:=Dg.box_nn w (.bool n1) (.slice A l c) (.int .i64 e1) (.bool n2) (.slice A2 l2 c2) (.int .i64 e2);have HW:=hid hW;have HK:=hid kW;have HB0:=hid B0;have HB1':=hid B1;clear hW kW B0 B1;by_cases h1:sx<sy
 ·rw [if_pos h1] at hsz;subst hsz;have d1:decide (sx<sy)=true:=by simp [h1]
  have d0:(sx != sy)=true:=by simp;omega
  clear h1;go_enter Tryz.func123,Tryz.ntmps123;go_wp2_with fail;rw [←HW.out]
  refine rgL 14 ([(vP w.heap.size 1),(vE (.slice A l c)),(vE (.int .i64 bx)),(vP w.heap.size 2),(vE (.int .i64 e1)),(vE (.int .i64 sx)),(vP (w.heap.size+1) 1),(vE (.slice A2 l2 c2)),(vE (.int .i64 bY)),(vP (w.heap.size+1) 2),(vE (.int .i64 e2)),(vE (.int .i64 sy)),(vE (.int .i64 sx)),(vE (.int .i64 sy))])
   ⟨
    (gq 2),(gvl 0 8 fun _ k=>Af HB0.out k 1 _ rfl),(fun aF wF F=>by have s9:=F.v 1 9;exact sQ (H1.out _ (HK.out.trans F.kept)) fun _ _ h=>h),(gq 2),(gvl 3 11 fun _ k=>Af HB0.out k 2 _ rfl),(fun aF wF F=>by have s10:=F.v 2 10;have s12:=F.v 4 12;exact sw (by have:=HX.out;go_simp) rfl),(gq 3),(gvl 6 14 fun _ k=>Af HB1'.out k 1 _ rfl),(fun aF wF F=>by have s15:=F.v 7 15;exact sQ (H2.out _ (HK.out.trans F.kept)) fun _ _ h=>h),(gq 3),(gvl 9 17 fun _ k=>Af HB1'.out k 2 _ rfl),(fun aF wF F=>by have s16:=F.v 8 16;have s18:=F.v 10 18;exact sw (by have:=HY.out;go_simp) rfl),(gv 5 13),(gv 11 19),
    trivial⟩ ?_
  intro u w1 k1 hu;simp only [Av,Am,if_true,Act.put,zlA,zlB,zlC,zlD,zlE,zlF,zlG,hv hu 0,hv hu 1,hv hu 2,hv hu 3,hv hu 4,hv hu 5,hv hu 6,hv hu 7,hv hu 8,hv hu 9,hv hu 10,hv hu 11,hv hu 12,hv hu 13];clear hu;go_wp2_with fail;go_ret;exact ⟨rfl,HK.out.trans k1⟩
 ·rw [if_neg h1] at hsz;have d1:decide (sx<sy)=false:=by simp;omega
  by_cases h2:sy<sx
  ·rw [if_pos h2] at hsz;subst hsz;have d0:(sx != sy)=true:=by simp;omega
   clear h1 h2;go_enter Tryz.func123,Tryz.ntmps123;go_wp2_with fail;rw [←HW.out]
   refine rgL 14 ([(vP w.heap.size 1),(vE (.slice A l c)),(vE (.int .i64 bx)),(vP w.heap.size 2),(vE (.int .i64 e1)),(vE (.int .i64 sx)),(vP (w.heap.size+1) 1),(vE (.slice A2 l2 c2)),(vE (.int .i64 bY)),(vP (w.heap.size+1) 2),(vE (.int .i64 e2)),(vE (.int .i64 sy)),(vE (.int .i64 sx)),(vE (.int .i64 sy))])
    ⟨
     (gq 2),(gvl 0 8 fun _ k=>Af HB0.out k 1 _ rfl),(fun aF wF F=>by have s9:=F.v 1 9;exact sQ (H1.out _ (HK.out.trans F.kept)) fun _ _ h=>h),(gq 2),(gvl 3 11 fun _ k=>Af HB0.out k 2 _ rfl),(fun aF wF F=>by have s10:=F.v 2 10;have s12:=F.v 4 12;exact sw (by have:=HX.out;go_simp) rfl),(gq 3),(gvl 6 14 fun _ k=>Af HB1'.out k 1 _ rfl),(fun aF wF F=>by have s15:=F.v 7 15;exact sQ (H2.out _ (HK.out.trans F.kept)) fun _ _ h=>h),(gq 3),(gvl 9 17 fun _ k=>Af HB1'.out k 2 _ rfl),(fun aF wF F=>by have s16:=F.v 8 16;have s18:=F.v 10 18;exact sw (by have:=HY.out;go_simp) rfl),(gv 5 13),(gv 11 19),
     trivial⟩ ?_
   intro u w1 k1 hu;simp only [Av,Am,if_true,Act.put,zlA,zlB,zlC,zlD,zlE,zlF,zlG,hv hu 0,hv hu 1,hv hu 2,hv hu 3,hv hu 4,hv hu 5,hv hu 6,hv hu 7,hv hu 8,hv hu 9,hv hu 10,hv hu 11,hv hu 12,hv hu 13];clear hu;go_wp2_with fail;go_ret;exact ⟨rfl,HK.out.trans k1⟩
  ·rw [if_neg h2] at hsz;subst hsz;have d0:(sx != sy)=false:=by simp;omega
   clear h1 h2;go_enter Tryz.func123,Tryz.ntmps123;go_wp2_with fail;rw [←HW.out]
   refine rgL 14 ([(vP w.heap.size 1),(vE (.slice A l c)),(vE (.int .i64 bx)),(vP w.heap.size 2),(vE (.int .i64 e1)),(vE (.int .i64 sx)),(vP (w.heap.size+1) 1),(vE (.slice A2 l2 c2)),(vE (.int .i64 bY)),(vP (w.heap.size+1) 2),(vE (.int .i64 e2)),(vE (.int .i64 sy)),(vE (.int .i64 sx)),(vE (.int .i64 sy))])
    ⟨
     (gq 2),(gvl 0 8 fun _ k=>Af HB0.out k 1 _ rfl),(fun aF wF F=>by have s9:=F.v 1 9;exact sQ (H1.out _ (HK.out.trans F.kept)) fun _ _ h=>h),(gq 2),(gvl 3 11 fun _ k=>Af HB0.out k 2 _ rfl),(fun aF wF F=>by have s10:=F.v 2 10;have s12:=F.v 4 12;exact sw (by have:=HX.out;go_simp) rfl),(gq 3),(gvl 6 14 fun _ k=>Af HB1'.out k 1 _ rfl),(fun aF wF F=>by have s15:=F.v 7 15;exact sQ (H2.out _ (HK.out.trans F.kept)) fun _ _ h=>h),(gq 3),(gvl 9 17 fun _ k=>Af HB1'.out k 2 _ rfl),(fun aF wF F=>by have s16:=F.v 8 16;have s18:=F.v 10 18;exact sw (by have:=HY.out;go_simp) rfl),(gv 5 13),(gv 11 19),
     trivial⟩ ?_
   intro u w1 k1 hu;simp only [Av,Am,if_true,Act.put,zlA,zlB,zlC,zlD,zlE,zlF,zlG,hv hu 0,hv hu 1,hv hu 2,hv hu 3,hv hu 4,hv hu 5,hv hu 6,hv hu 7,hv hu 8,hv hu 9,hv hu 10,hv hu 11,hv hu 12,hv hu 13];clear hu;obtain ⟨-,a0,a1,a2,-⟩:=(HB0.out.kept k1).facts;obtain ⟨-,b0,b1,b2,-⟩:=(HB1'.out.kept k1).facts;go_wp2_with fail;rw [HL.out];have K1:=hid k1;clear a0 a1 a2 b0 b1 b2 k1 hwx hwy d1 d0
   refine rgL 16 ([(vP w.heap.size 1),(vE (.slice A l c)),(vP w.heap.size 2),(vE (.int .i64 e1)),(vE (.int .i64 lo)),(vE (.int .i64 j1)),(fun v wv=>Dg.Lim wv v xs),(vP (w.heap.size+1) 1),(vE (.slice A2 l2 c2)),(vP (w.heap.size+1) 2),(vE (.int .i64 e2)),(vE (.int .i64 lo)),(vE (.int .i64 j2)),(fun v wv=>Dg.Lim wv v ys),(vE (.int .i64 res)),(vE (.int .i64 res))])
    (hM:=⟨⟨mE,mE,mE,mE,mE,mE,fun v w w' k h=>by first | exact h | exact h.kept k | exact ⟨h.1,h.2.kept k⟩,mE,mE,mE,mE,mE,mE,fun v w w' k h=>by first | exact h | exact h.kept k | exact ⟨h.1,h.2.kept k⟩,mE,mE,trivial⟩⟩) ⟨
      (gq 2),(gvl 0 31 fun _ k=>Af (HB0.out.kept K1.out) k 1 _ rfl),(gq 2),(gvl 2 33 fun _ k=>Af (HB0.out.kept K1.out) k 2 _ rfl),(gq 7),(gvv 3 34 4 35),(fun aF wF F=>by have s32:=F.v 1 32;have s36:=F.v 5 36;exact Ao (by simp [Region.wanted]) (by go_simp) (L1.out _ (HK.out.trans (K1.out.trans F.kept))) (fun _ _ h=>Dg.RetLim.good h) (fun _ _ h=>h)),(gq 3),(gvl 7 38 fun _ k=>Af (HB1'.out.kept K1.out) k 1 _ rfl),(gq 3),(gvl 9 40 fun _ k=>Af (HB1'.out.kept K1.out) k 2 _ rfl),(gq 7),(gvv 10 41 11 42),(fun aF wF F=>by have s39:=F.v 8 39;have s43:=F.v 12 43;exact Ao (by simp [Region.wanted]) (by go_simp) (L2.out _ (HK.out.trans (K1.out.trans F.kept))) (fun _ _ h=>Dg.RetLim.good h) (fun _ _ h=>h)),(fun aF wF F=>by have s37:=F.p 6 37;have s44:=F.p 13 44;exact sQ (HO.out _ _ _ s37 s44) fun _ _ h=>h),(gv 14 45),
      trivial⟩ ?_
   intro u w1 k1 hu;have p37:=hp hu 6;have p44:=hp hu 13;simp only [Av,Am,if_true,Act.put,zlA,zlB,zlC,zlD,zlE,zlF,zlG,hv hu 0,hv hu 1,hv hu 2,hv hu 3,hv hu 4,hv hu 5,hv hu 7,hv hu 8,hv hu 9,hv hu 10,hv hu 11,hv hu 12,hv hu 14,hv hu 15];clear hu;generalize u 6=v37,u 13=v44 at *;clear p37 p44;go_wp2_with fail;go_ret;exact ⟨rfl,HK.out.trans (K1.out.trans k1)⟩
theorem Yg {w:World}{va vb:Value}{x y:Dy}(ha:DyR w va x.raw)(hb:DyR w vb y.raw)(hx:x.Ok)(hy:y.Ok) :
 Calls Tryz.prog 80 #[va,vb] w (RetK (.int .i64 (Bq x.q y.q)) w):=by
 have lx:=Di hx;have ly:=Di hy;have s1:=fun w1 (k:Kept w w1)=>T4 (ha.kept k) (by omega)
 have s2:=fun w1 (k:Kept w w1)=>T4 (hb.kept k) (by omega)
 have m1:=fun w1 (k:Kept w w1)=>Hz (ha.kept k) (by omega)
 have m2:=fun w1 (k:Kept w w1)=>Hz (hb.kept k) (by omega)
 have o1:=fun w1 (k:Kept w w1)=>Dg.of_c (ha.kept k) (by omega)
 have o2:=fun w1 (k:Kept w w1)=>Dg.of_c (hb.kept k) (by omega)
 have hsz:=fun w1 v u (hv:Dg.DN w1 v x.neg x.m x.e) (hu:Dg.DN w1 u y.neg y.m y.e) (h1:x.m≠0) (h2:y.m≠0)=>Aam hv hu hx hy h1 h2
 rw [show Go.Proofs.YtinbgjcooolbiaaGreatDoor.val x.raw.m=x.m from val_limbs _] at o1;rw [show Go.Proofs.YtinbgjcooolbiaaGreatDoor.val y.raw.m=y.m from val_limbs _] at o2;rw [Io x hx] at s1;rw [Io y hy] at s2;rw [hx.may] at m1;rw [hy.may] at m2;have g1:=@Rz x y;have g2:=@Wf x y;have g3:=@P6 x y;have c1:=Ft x;have c2:=Ft y;have z1:sg x≠0→x.m≠0:=fun h h0=>h (by unfold sg;rw [if_pos h0])
 have z2:sg y≠0→y.m≠0:=fun h h0=>h (by unfold sg;rw [if_pos h0])
 have hsr:Eo x y=-1∨Eo x y=0∨Eo x y=1:=by
  unfold Eo Bp;split
  ·exact .inl rfl
  ·split
   ·exact .inr (.inr rfl)
   ·split
    ·exact .inl rfl
    ·split
     ·exact .inr (.inl rfl)
     ·exact .inr (.inr rfl)
 obtain ⟨A,l,c,rfl,-,ha,-,-⟩:=ha.shape;obtain ⟨A2,l2,c2',rfl,-,hb,-,-⟩:=hb.shape;have S1:=hid s1;have S2:=hid s2;have M1:=hid m1;have M2:=hid m2;have O1:=hid o1;have O2:=hid o2;have HZ:=hid hsz;have G1:=hid g1;have G2:=hid g2;have G3:=hid g3;have Z1:=hid z1;have Z2:=hid z2;have C1:=hid c1;have C2:=hid c2;have HR:=hid hsr;clear s1 s2 m1 m2 o1 o2 hsz g1 g2 g3 z1 z2 c1 c2 hsr ha hb lx ly hx hy;generalize Bq x.q y.q=res at *;simp only [Dy.raw] at *;generalize x.neg=n1 at *;generalize x.e=e1 at *;generalize y.neg=n2 at *;generalize y.e=e2 at *;generalize Eo x y=zz at *;generalize sg x=g at *;generalize sg y=g' at *
 generalize x.m=nx at *;generalize y.m=ny at *;obtain ⟨W,hW,kW,B0,B1⟩:=Kh w (.bool n1) (.slice A l c) (.int .i64 e1) (.bool n2) (.slice A2 l2 c2') (.int .i64 e2);have HW:=hid hW;have HK:=hid kW;have HB0:=hid B0;have HB1':=hid B1;clear hW kW B0 B1;by_cases h1:g<g'
 ·have hr:=G1.out h1;subst hr;have d1:(g != g')=true:=by simp;omega
  have d2:decide (g<g')=true:=by simp [h1]
  clear h1;go_enter Tryz.func80,Tryz.ntmps80;go_upto_region 1 with fail;rw [←HW.out];obtain ⟨-,a0,a1,a2,-⟩:=HB0.out.facts;obtain ⟨-,b0,b1,b2,-⟩:=HB1'.out.facts;go_wp2_with fail;refine (M1.out _ HK.out).mono ?_;rintro e w2 ⟨rfl,q⟩;have KX:=hid q;clear a0 a1 a2 b0 b1 b2 q;obtain ⟨-,a0,a1,a2,-⟩:=(HB0.out.kept KX.out).facts;obtain ⟨-,b0,b1,b2,-⟩:=(HB1'.out.kept KX.out).facts;simp only [];go_wp2_with fail;refine (M2.out _ (HK.out.trans KX.out)).mono ?_;rintro e w3 ⟨rfl,q⟩;replace KX:=hid (KX.out.trans q);clear a0 a1 a2 b0 b1 b2 q;simp only [];go_wp2_with fail
  refine rgL 6 ([(vE (.agg #[.bool n1,.slice A l c,.int .i64 e1])),(vE (.int .i64 g)),(vE (.agg #[.bool n2,.slice A2 l2 c2',.int .i64 e2])),(vE (.int .i64 g')),(vE (.int .i64 g)),(vE (.int .i64 g'))])
   ⟨
    (gql 2 fun _ k=>c3 (HB0.out.kept KX.out) k),(fun aF wF F=>by have s15:=F.v 0 15;exact sK (S1.out _ (HK.out.trans (KX.out.trans F.kept))) fun _ _ h=>h),(gql 3 fun _ k=>c3 (HB1'.out.kept KX.out) k),(fun aF wF F=>by have s17:=F.v 2 17;exact sK (S2.out _ (HK.out.trans (KX.out.trans F.kept))) fun _ _ h=>h),(gv 1 16),(gv 3 18),
    trivial⟩ ?_
  intro u w1 k1 hu;simp only [Av,Am,if_true,Act.put,zlA,zlB,zlC,zlD,zlE,zlF,zlG,hv hu 0,hv hu 1,hv hu 2,hv hu 3,hv hu 4,hv hu 5];clear hu;replace KX:=hid (KX.out.trans k1);clear k1 u;obtain ⟨-,a0,a1,a2,-⟩:=(HB0.out.kept KX.out).facts;obtain ⟨-,b0,b1,b2,-⟩:=(HB1'.out.kept KX.out).facts;go_wp2_with fail;go_ret;exact ⟨rfl,HK.out.trans KX.out⟩
 ·have d2:decide (g<g')=false:=by simp;omega
  by_cases h2:g=g'
  ·have hr:=G3.out h2;obtain rfl:=h2;have d1:(g != g)=false:=by simp
   have d4:decide (g<g)=false:=by simp
   by_cases h3:g=0
   ·rw [if_pos h3] at hr;subst hr;have d3:(g==0)=true:=by rw [beq_iff_eq];exact h3
    clear h1 h3;go_enter Tryz.func80,Tryz.ntmps80;go_upto_region 1 with fail;rw [←HW.out];obtain ⟨-,a0,a1,a2,-⟩:=HB0.out.facts;obtain ⟨-,b0,b1,b2,-⟩:=HB1'.out.facts;go_wp2_with fail;refine (M1.out _ HK.out).mono ?_;rintro e w2 ⟨rfl,q⟩;have KX:=hid q;clear a0 a1 a2 b0 b1 b2 q;obtain ⟨-,a0,a1,a2,-⟩:=(HB0.out.kept KX.out).facts;obtain ⟨-,b0,b1,b2,-⟩:=(HB1'.out.kept KX.out).facts;simp only [];go_wp2_with fail;refine (M2.out _ (HK.out.trans KX.out)).mono ?_;rintro e w3 ⟨rfl,q⟩;replace KX:=hid (KX.out.trans q);clear a0 a1 a2 b0 b1 b2 q;simp only [];go_wp2_with fail
    refine rgL 6 ([(vE (.agg #[.bool n1,.slice A l c,.int .i64 e1])),(vE (.int .i64 g)),(vE (.agg #[.bool n2,.slice A2 l2 c2',.int .i64 e2])),(vE (.int .i64 g)),(vE (.int .i64 g)),(vE (.int .i64 g))])
     ⟨
      (gql 2 fun _ k=>c3 (HB0.out.kept KX.out) k),(fun aF wF F=>by have s15:=F.v 0 15;exact sK (S1.out _ (HK.out.trans (KX.out.trans F.kept))) fun _ _ h=>h),(gql 3 fun _ k=>c3 (HB1'.out.kept KX.out) k),(fun aF wF F=>by have s17:=F.v 2 17;exact sK (S2.out _ (HK.out.trans (KX.out.trans F.kept))) fun _ _ h=>h),(gv 1 16),(gv 3 18),
      trivial⟩ ?_
    intro u w1 k1 hu;simp only [Av,Am,if_true,Act.put,zlA,zlB,zlC,zlD,zlE,zlF,zlG,hv hu 0,hv hu 1,hv hu 2,hv hu 3,hv hu 4,hv hu 5];clear hu;replace KX:=hid (KX.out.trans k1);clear k1 u;obtain ⟨-,a0,a1,a2,-⟩:=(HB0.out.kept KX.out).facts;obtain ⟨-,b0,b1,b2,-⟩:=(HB1'.out.kept KX.out).facts;go_wp2_with fail;go_ret;exact ⟨rfl,HK.out.trans KX.out⟩
   ·rw [if_neg h3] at hr;subst hr;have d3:(g==0)=false:=by rw [beq_eq_false_iff_ne];exact h3
    have hz:=fun w1 v u hv hu=>HZ.out w1 v u hv hu (Z1.out h3) (Z2.out h3)
    have hw:IntKind.i64.wrap (g*zz)=g*zz:=by
     rcases C1.out with h | h | h<;>rcases HR.out with h' | h' | h'<;>rw [h,h']<;>first | rfl | decide
    clear HZ;have HZ:=hid hz;have HWW:=hid hw;clear h1 h3 hz hw;go_enter Tryz.func80,Tryz.ntmps80;go_upto_region 1 with fail;rw [←HW.out];obtain ⟨-,a0,a1,a2,-⟩:=HB0.out.facts;obtain ⟨-,b0,b1,b2,-⟩:=HB1'.out.facts;go_wp2_with fail;refine (M1.out _ HK.out).mono ?_;rintro e w2 ⟨rfl,q⟩;have KX:=hid q;clear a0 a1 a2 b0 b1 b2 q;obtain ⟨-,a0,a1,a2,-⟩:=(HB0.out.kept KX.out).facts;obtain ⟨-,b0,b1,b2,-⟩:=(HB1'.out.kept KX.out).facts;simp only [];go_wp2_with fail;refine (M2.out _ (HK.out.trans KX.out)).mono ?_;rintro e w3 ⟨rfl,q⟩;replace KX:=hid (KX.out.trans q);clear a0 a1 a2 b0 b1 b2 q;simp only [];go_wp2_with fail
    refine rgL 6 ([(vE (.agg #[.bool n1,.slice A l c,.int .i64 e1])),(vE (.int .i64 g)),(vE (.agg #[.bool n2,.slice A2 l2 c2',.int .i64 e2])),(vE (.int .i64 g)),(vE (.int .i64 g)),(vE (.int .i64 g))])
     ⟨
      (gql 2 fun _ k=>c3 (HB0.out.kept KX.out) k),(fun aF wF F=>by have s15:=F.v 0 15;exact sK (S1.out _ (HK.out.trans (KX.out.trans F.kept))) fun _ _ h=>h),(gql 3 fun _ k=>c3 (HB1'.out.kept KX.out) k),(fun aF wF F=>by have s17:=F.v 2 17;exact sK (S2.out _ (HK.out.trans (KX.out.trans F.kept))) fun _ _ h=>h),(gv 1 16),(gv 3 18),
      trivial⟩ ?_
    intro u w1 k1 hu;simp only [Av,Am,if_true,Act.put,zlA,zlB,zlC,zlD,zlE,zlF,zlG,hv hu 0,hv hu 1,hv hu 2,hv hu 3,hv hu 4,hv hu 5];clear hu;replace KX:=hid (KX.out.trans k1);clear k1 u;obtain ⟨-,a0,a1,a2,-⟩:=(HB0.out.kept KX.out).facts;obtain ⟨-,b0,b1,b2,-⟩:=(HB1'.out.kept KX.out).facts;go_wp2_with fail;clear a0 a1 a2 b0 b1 b2 d1 d2 d3 d4
    refine rgL 8 ([(vE (.int .i64 g)),(vE (.agg #[.bool n1,.slice A l c,.int .i64 e1])),(fun v wv=>Dg.DN wv v n1 nx e1),(vE (.agg #[.bool n2,.slice A2 l2 c2',.int .i64 e2])),(fun v wv=>Dg.DN wv v n2 ny e2),(vE (.int .i64 zz)),(vE (.int .i64 (g*zz))),(vE (.int .i64 (g*zz)))])
     (hM:=⟨⟨mE,mE,fun v w w' k h=>by first | exact h | exact h.kept k | exact ⟨h.1,h.2.kept k⟩,mE,fun v w w' k h=>by first | exact h | exact h.kept k | exact ⟨h.1,h.2.kept k⟩,mE,mE,mE,trivial⟩⟩) ⟨
       (gq 5),(gql 2 fun _ k=>c3 (HB0.out.kept KX.out) k),(fun aF wF F=>by have s33:=F.v 1 33;exact Ao (by simp [Region.wanted]) (by go_simp) (O1.out _ (HK.out.trans (KX.out.trans F.kept))) (fun _ _ h=>Dg.RetN.good h) (fun _ _ h=>h)),(gql 3 fun _ k=>c3 (HB1'.out.kept KX.out) k),(fun aF wF F=>by have s35:=F.v 3 35;exact Ao (by simp [Region.wanted]) (by go_simp) (O2.out _ (HK.out.trans (KX.out.trans F.kept))) (fun _ _ h=>Dg.RetN.good h) (fun _ _ h=>h)),(fun aF wF F=>by have s34:=F.p 2 34;have s36:=F.p 4 36;exact sK (HZ.out _ _ _ s34 s36) fun _ _ h=>h),(fun aF wF F=>by have s32:=F.v 0 32;have s37:=F.v 5 37;exact sw (by (go_simp;exact HWW.out)) rfl),(gv 6 38),
       trivial⟩ ?_
    intro u w1 k1 hu;have p34:=hp hu 2;have p36:=hp hu 4;simp only [Av,Am,if_true,Act.put,zlA,zlB,zlC,zlD,zlE,zlF,zlG,hv hu 0,hv hu 1,hv hu 3,hv hu 5,hv hu 6,hv hu 7];clear hu;generalize u 2=v34,u 4=v36 at *;clear p34 p36;go_wp2_with fail;go_ret;exact ⟨rfl,HK.out.trans (KX.out.trans k1)⟩
  ·have hr:=G2.out (by omega);subst hr;have d1:(g != g')=true:=by simp;omega
   have d3:decide (g'<g)=true:=by simp;omega
   clear h1 h2;go_enter Tryz.func80,Tryz.ntmps80;go_upto_region 1 with fail;rw [←HW.out];obtain ⟨-,a0,a1,a2,-⟩:=HB0.out.facts;obtain ⟨-,b0,b1,b2,-⟩:=HB1'.out.facts;go_wp2_with fail;refine (M1.out _ HK.out).mono ?_;rintro e w2 ⟨rfl,q⟩;have KX:=hid q;clear a0 a1 a2 b0 b1 b2 q;obtain ⟨-,a0,a1,a2,-⟩:=(HB0.out.kept KX.out).facts;obtain ⟨-,b0,b1,b2,-⟩:=(HB1'.out.kept KX.out).facts;simp only [];go_wp2_with fail;refine (M2.out _ (HK.out.trans KX.out)).mono ?_;rintro e w3 ⟨rfl,q⟩;replace KX:=hid (KX.out.trans q);clear a0 a1 a2 b0 b1 b2 q;simp only [];go_wp2_with fail
   refine rgL 6 ([(vE (.agg #[.bool n1,.slice A l c,.int .i64 e1])),(vE (.int .i64 g)),(vE (.agg #[.bool n2,.slice A2 l2 c2',.int .i64 e2])),(vE (.int .i64 g')),(vE (.int .i64 g)),(vE (.int .i64 g'))])
    ⟨
     (gql 2 fun _ k=>c3 (HB0.out.kept KX.out) k),(fun aF wF F=>by have s15:=F.v 0 15;exact sK (S1.out _ (HK.out.trans (KX.out.trans F.kept))) fun _ _ h=>h),(gql 3 fun _ k=>c3 (HB1'.out.kept KX.out) k),(fun aF wF F=>by have s17:=F.v 2 17;exact sK (S2.out _ (HK.out.trans (KX.out.trans F.kept))) fun _ _ h=>h),(gv 1 16),(gv 3 18),
     trivial⟩ ?_
   intro u w1 k1 hu;simp only [Av,Am,if_true,Act.put,zlA,zlB,zlC,zlD,zlE,zlF,zlG,hv hu 0,hv hu 1,hv hu 2,hv hu 3,hv hu 4,hv hu 5];clear hu;replace KX:=hid (KX.out.trans k1);clear k1 u;obtain ⟨-,a0,a1,a2,-⟩:=(HB0.out.kept KX.out).facts;obtain ⟨-,b0,b1,b2,-⟩:=(HB1'.out.kept KX.out).facts;go_wp2_with fail;go_ret;exact ⟨rfl,HK.out.trans KX.out⟩
theorem Lu {w:World}{v:Value}{a:RawI}(hv:IvR w v a)(hl:a.lens 17592186044416) :
 Calls Tryz.prog 36 #[v] w (RetK (.bool (Ex a)) w):=by
 obtain ⟨A,l,c,A',l',c',rfl,h1,h2⟩:=Be hv;have M1:=hid (fun w1 (k:Kept w w1)=>Hz (h1.kept k) hl.1);have M2:=hid (fun w1 (k:Kept w w1)=>Hz (h2.kept k) hl.2);have hc:(Eu a.lo&&Eu a.hi)=true→∀ w1,Kept w w1→Calls Tryz.prog 80 #[.agg #[.bool a.lo.neg,.slice A l c,.int .i64 a.lo.e],.agg #[.bool a.hi.neg,.slice A' l' c',.int .i64 a.hi.e]] w1 (RetK (.int .i64 (Bq a.lo.dy.q a.hi.dy.q)) w1):=by
  intro d w1 k;simp only [Bool.and_eq_true] at d;obtain ⟨e1,o1⟩:=Fd (I8 h1) d.1;obtain ⟨e2,o2⟩:=Fd (I8 h2) d.2;have g1:=h1.kept k;have g2:=h2.kept k;exact Yg (x:=a.lo.dy) (y:=a.hi.dy) (by rw [e1];exact g1) (by rw [e2];exact g2) o1 o2
 unfold Ex;have HC:=hid hc;clear hc h1 h2 hv hl;generalize a.lo.neg=n1 at *;generalize a.lo.e=e1 at *;generalize a.hi.neg=n2 at *;generalize a.hi.e=e2 at *;generalize Bq a.lo.dy.q a.hi.dy.q=cc at *;generalize Eu a.lo=b1 at *;generalize Eu a.hi=b2 at *;obtain ⟨b3,h3⟩:∃ b3,decide (cc≤0)=b3:=⟨_,rfl⟩;rw [h3];have H3:=hid h3;clear h3;obtain ⟨W,hW,kW,BI⟩:=Aa5 w (.bool n1) (.slice A l c) (.int .i64 e1) (.bool n2) (.slice A' l' c') (.int .i64 e2);have HW:=hid hW;have K:=hid kW;have HB:=hid BI;clear hW kW BI;go_enter Tryz.func36,Tryz.ntmps36;go_upto_region 1 with fail;rw [←HW.out]
 refine rS 17 ([(vP w.heap.size 0),(vE (.agg #[.bool n1,.slice A l c,.int .i64 e1])),(vE (.bool b1)),(vE (.bool b1)),(fun v wv=>(b1=true→(fun v _=>v=(.pointer (some ⟨w.heap.size,3,none⟩))) v wv)∧(b1=false→v=undef)),(fun v wv=>(b1=true→(fun v _=>v=(.agg #[.bool n2,.slice A' l' c',.int .i64 e2])) v wv)∧(b1=false→v=undef)),(fun v wv=>(b1=true→(fun v _=>v=(.bool b2)) v wv)∧(b1=false→v=undef)),(vE (.bool (b1&&b2))),(vE (.bool (b1&&b2))),(fun v wv=>((b1&&b2)=true→(fun v _=>v=(.pointer (some ⟨w.heap.size,0,none⟩))) v wv)∧((b1&&b2)=false→v=undef)),(fun v wv=>((b1&&b2)=true→(fun v _=>v=(.agg #[.bool n1,.slice A l c,.int .i64 e1])) v wv)∧((b1&&b2)=false→v=undef)),(fun v wv=>((b1&&b2)=true→(fun v _=>v=(.pointer (some ⟨w.heap.size,3,none⟩))) v wv)∧((b1&&b2)=false→v=undef)),(fun v wv=>((b1&&b2)=true→(fun v _=>v=(.agg #[.bool n2,.slice A' l' c',.int .i64 e2])) v wv)∧((b1&&b2)=false→v=undef)),(fun v wv=>((b1&&b2)=true→(fun v _=>v=(.int .i64 cc)) v wv)∧((b1&&b2)=false→v=undef)),(fun v wv=>((b1&&b2)=true→(fun v _=>v=(.bool b3)) v wv)∧((b1&&b2)=false→v=undef)),(vE (.bool (b1&&b2&&b3))),(vE (.bool (b1&&b2&&b3)))])
  ⟨
   (gq 1),(fun aF wF F=>by have s3:=F.v 0 3;have c0:=Af HB.out F.kept 0 _ rfl;have c1:=Af HB.out F.kept 1 _ rfl;have c2:=Af HB.out F.kept 2 _ rfl;exact sv rfl),(fun aF wF F=>by have s4:=F.v 1 4;exact sK (M1.out _ (K.out.trans F.kept)) fun _ _ h=>h),(gv 2 5),
   (fun aF wF F=>by
  have sg:=F.v 3 6;have s1:=F.q 1 (.pointer (some ⟨w.heap.size,0,none⟩));rcases Ca b1 with hC | hC
  ·refine sIm hC (vE (.pointer (some ⟨w.heap.size,3,none⟩))) ?_;exact sVc rfl rfl sg (by first | rfl | simp [hC])
  ·exact sOc rfl rfl sg (by first | rfl | simp [hC]) (nW hC)),
   (fun aF wF F=>by
  have sg:=F.v 3 6;have s7:(b1=true→aF.tmps.getD 7 undef=(.pointer (some ⟨w.heap.size,3,none⟩)))∧(b1=false→aF.tmps.getD 7 undef=undef):=F.done 4 7 (by kernel_rfl) rfl;have c0:=Af HB.out F.kept 3 _ rfl;have c1:=Af HB.out F.kept 4 _ rfl;have c2:=Af HB.out F.kept 5 _ rfl;rcases Ca b1 with hC | hC
  ·refine sIm hC (vE (.agg #[.bool n2,.slice A' l' c',.int .i64 e2])) ?_;replace s7:=s7.1 hC;exact sVc rfl rfl sg (by first | rfl | simp [hC])
  ·exact sOc rfl rfl sg (by first | rfl | simp [hC]) (nW hC)),
   (fun aF wF F=>by
  have sg:=F.v 3 6;have s8:(b1=true→aF.tmps.getD 8 undef=(.agg #[.bool n2,.slice A' l' c',.int .i64 e2]))∧(b1=false→aF.tmps.getD 8 undef=undef):=F.done 5 8 (by kernel_rfl) rfl;rcases Ca b1 with hC | hC
  ·refine sIm hC (vE (.bool b2)) ?_;replace s8:=s8.1 hC;exact Ao ((Ai rfl rfl sg).trans (by first | rfl | simp [hC])) (by go_simp) (M2.out _ (K.out.trans F.kept)) (fun _ _ h=>RetK.good h) (fun _ _ h=>h)
  ·exact sOc rfl rfl sg (by first | rfl | simp [hC]) (nW hC)),
   (fun aF wF F=>by
  have s6:=F.v 3 6;have s9:(b1=true→aF.tmps.getD 9 undef=(.bool b2))∧(b1=false→aF.tmps.getD 9 undef=undef):=F.done 6 9 (by kernel_rfl) rfl;rcases Ca b1 with hE | hE
  ·replace s9:=s9.1 hE;exact sw (by first | (go_simp;done) | (go_simp;simp_all;done) | (simp_all;done)) rfl
  ·exact sw (by first | (go_simp;done) | (go_simp;simp_all;done) | (simp_all;done)) rfl),(gv 7 10),
   (fun aF wF F=>by
  have sg:=F.v 8 11;have s1:=F.q 1 (.pointer (some ⟨w.heap.size,0,none⟩));rcases Ca (b1&&b2) with hC | hC
  ·refine sIm hC (vE (.pointer (some ⟨w.heap.size,0,none⟩))) ?_;exact sVc rfl rfl sg (by first | rfl | simp [hC])
  ·exact sOc rfl rfl sg (by first | rfl | simp [hC]) (nW hC)),
   (fun aF wF F=>by
  have sg:=F.v 8 11;have s12:((b1&&b2)=true→aF.tmps.getD 12 undef=(.pointer (some ⟨w.heap.size,0,none⟩)))∧((b1&&b2)=false→aF.tmps.getD 12 undef=undef):=F.done 9 12 (by kernel_rfl) rfl;have c0:=Af HB.out F.kept 0 _ rfl;have c1:=Af HB.out F.kept 1 _ rfl;have c2:=Af HB.out F.kept 2 _ rfl;rcases Ca (b1&&b2) with hC | hC
  ·refine sIm hC (vE (.agg #[.bool n1,.slice A l c,.int .i64 e1])) ?_;replace s12:=s12.1 hC;exact sVc rfl rfl sg (by first | rfl | simp [hC])
  ·exact sOc rfl rfl sg (by first | rfl | simp [hC]) (nW hC)),
   (fun aF wF F=>by
  have sg:=F.v 8 11;have s1:=F.q 1 (.pointer (some ⟨w.heap.size,0,none⟩));rcases Ca (b1&&b2) with hC | hC
  ·refine sIm hC (vE (.pointer (some ⟨w.heap.size,3,none⟩))) ?_;exact sVc rfl rfl sg (by first | rfl | simp [hC])
  ·exact sOc rfl rfl sg (by first | rfl | simp [hC]) (nW hC)),
   (fun aF wF F=>by
  have sg:=F.v 8 11;have s14:((b1&&b2)=true→aF.tmps.getD 14 undef=(.pointer (some ⟨w.heap.size,3,none⟩)))∧((b1&&b2)=false→aF.tmps.getD 14 undef=undef):=F.done 11 14 (by kernel_rfl) rfl;have c0:=Af HB.out F.kept 3 _ rfl;have c1:=Af HB.out F.kept 4 _ rfl;have c2:=Af HB.out F.kept 5 _ rfl;rcases Ca (b1&&b2) with hC | hC
  ·refine sIm hC (vE (.agg #[.bool n2,.slice A' l' c',.int .i64 e2])) ?_;replace s14:=s14.1 hC;exact sVc rfl rfl sg (by first | rfl | simp [hC])
  ·exact sOc rfl rfl sg (by first | rfl | simp [hC]) (nW hC)),
   (fun aF wF F=>by
  have sg:=F.v 8 11;have s13:((b1&&b2)=true→aF.tmps.getD 13 undef=(.agg #[.bool n1,.slice A l c,.int .i64 e1]))∧((b1&&b2)=false→aF.tmps.getD 13 undef=undef):=F.done 10 13 (by kernel_rfl) rfl;have s15:((b1&&b2)=true→aF.tmps.getD 15 undef=(.agg #[.bool n2,.slice A' l' c',.int .i64 e2]))∧((b1&&b2)=false→aF.tmps.getD 15 undef=undef):=F.done 12 15 (by kernel_rfl) rfl;rcases Ca (b1&&b2) with hC | hC
  ·refine sIm hC (vE (.int .i64 cc)) ?_;replace s13:=s13.1 hC;replace s15:=s15.1 hC;exact Ao ((Ai rfl rfl sg).trans (by first | rfl | simp [hC])) (by go_simp) (HC.out hC _ (K.out.trans F.kept)) (fun _ _ h=>RetK.good h) (fun _ _ h=>h)
  ·exact sOc rfl rfl sg (by first | rfl | simp [hC]) (nW hC)),
   (fun aF wF F=>by
  have sg:=F.v 8 11;have s16:((b1&&b2)=true→aF.tmps.getD 16 undef=(.int .i64 cc))∧((b1&&b2)=false→aF.tmps.getD 16 undef=undef):=F.done 13 16 (by kernel_rfl) rfl;rcases Ca (b1&&b2) with hC | hC
  ·refine sIm hC (vE (.bool b3)) ?_;replace s16:=s16.1 hC;exact Au ((Ai rfl rfl sg).trans (by first | rfl | simp [hC])) (by (go_simp;exact H3.out)) rfl
  ·exact sOc rfl rfl sg (by first | rfl | simp [hC]) (nW hC)),
   (fun aF wF F=>by
  have s11:=F.v 8 11;have s17:((b1&&b2)=true→aF.tmps.getD 17 undef=(.bool b3))∧((b1&&b2)=false→aF.tmps.getD 17 undef=undef):=F.done 14 17 (by kernel_rfl) rfl;rcases Ca (b1&&b2) with hE | hE
  ·replace s17:=s17.1 hE;exact sw (by first | (go_simp;done) | (go_simp;simp_all;done) | (simp_all;done)) rfl
  ·exact sw (by first | (go_simp;done) | (go_simp;simp_all;done) | (simp_all;done)) rfl),(gv 15 18),
   trivial⟩ ?_
 intro u w1 k1 hu;have p7:=hp hu 4;have p8:=hp hu 5;have p9:=hp hu 6;have p12:=hp hu 9;have p13:=hp hu 10;have p14:=hp hu 11;have p15:=hp hu 12;have p16:=hp hu 13;have p17:=hp hu 14;simp only [Av,Am,if_true,Act.put,zlA,zlB,zlC,zlD,zlE,zlF,zlG,hv hu 0,hv hu 1,hv hu 2,hv hu 3,hv hu 7,hv hu 8,hv hu 15,hv hu 16];clear hu;generalize u 4=v7,u 5=v8,u 6=v9,u 9=v12,u 10=v13,u 11=v14,u 12=v15,u 13=v16,u 14=v17 at *;clear p7 p8 p9 p12 p13 p14 p15 p16 p17;go_wp2_with fail;go_ret;exact ⟨rfl,K.out.trans k1⟩
end Go.Proofs.YtinbgjcooolbiaaGreatDoor
