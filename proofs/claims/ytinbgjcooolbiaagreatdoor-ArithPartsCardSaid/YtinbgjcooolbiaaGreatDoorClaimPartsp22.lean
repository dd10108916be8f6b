/- Words and contracts, part 22. -/
import Derived.Test.YtinbgjcooolbiaaGreatDoorClaimPartsp20
import Derived.Test.YtinbgjcooolbiaaGreatDoorClaimPartsp21
set_option maxRecDepth 100000
set_option maxHeartbeats 0
namespace Go.Proofs.YtinbgjcooolbiaaGreatDoor
open Go.Lib (hid)
open Go.RowKit
theorem Di {x:Dy}(h:x.Ok):x.raw.m.length≤64:=h.len
theorem Adq {w:World}{va vb:Value}{x y:Dy}(ha:DyR w va x.raw)(hb:DyR w vb y.raw)(hx:x.Ok)(hy:y.Ok)(hT:Tab w) :
 Calls Tryz.prog 99 #[va,vb] w (Goes 114 (Ia x y).raw w):=by
 by_cases hx0:x.m=0
 ·unfold Ia;rw [if_pos hx0,show (good y).raw=⟨y.raw,0⟩ from rfl];have hc:=fun w1 (k:Kept w w1)=>P7 (hb.kept k) (by have:=Di hy;omega)
  obtain ⟨A,l,c,rfl,hl,-,-,-⟩:=ha.shape;obtain ⟨A2,l2,c2,rfl,-,-,g1,g2⟩:=hb.shape;have hl0:l=0:=by rw [hl];simp only [Dy.raw];rw [hx0,limbs_zero];rfl
  subst hl0;have HC:=hid hc;clear hc hl ha hb hx hx0 hT hy;generalize hn:x.raw.neg=n1 at *;generalize x.raw.e=e1 at *;clear hn;generalize y.raw=r at *;obtain ⟨W,hW,kW,B0,B1,B2⟩:=Gu w (.bool n1) (.slice A 0 c) (.int .i64 e1) (.bool r.neg) (.slice A2 l2 c2) (.int .i64 r.e);have HW:=hid hW;have HK:=hid kW;have HB:=hid B2;clear hW kW B0 B1 B2;go_enter Tryz.func99,Tryz.ntmps99
  go_wp2_with (go_at_call 108;rw [←HW.out];refine (HC.out _ HK.out).mono ?_;rintro e w1 ⟨q,u,rfl,hd⟩;obtain ⟨A',l',c',rfl,-,hd,g3,g4⟩:=hd.shape;have HD:=hid hd;have hb2:=HB.out.kept q;obtain ⟨_,c0,c1,c2,f0,f1,f2⟩:=hb2.facts;have HB2:=hid hb2;clear hd hb2)
  exact B9 (HB2.out.laid _ _ _) rfl rfl rfl ⟨Al (HK.out.trans q) (by omega),.inl ⟨rfl,_,rfl,(HD.out.dyW HB2.out (Ah _) (Ag _ _ _) (Aj _)).dyR g3 g4⟩⟩
 ·by_cases hy0:y.m=0
  ·unfold Ia;rw [if_neg hx0,if_pos hy0,show (good x).raw=⟨x.raw,0⟩ from rfl];have hc:=fun w1 (k:Kept w w1)=>P7 (ha.kept k) (by have:=Di hx;omega)
   obtain ⟨A,l,c,rfl,hl1,-,-,-⟩:=ha.shape;obtain ⟨A2,l2,c2,rfl,hl,-,g1,g2⟩:=hb.shape;have hl0:l2=0:=by rw [hl];simp only [Dy.raw];rw [hy0,limbs_zero];rfl
   subst hl0;have l0:((l:Int)==0)=false:=by have:=length_limbs_pos x.m hx0;rw [beq_eq_false_iff_ne,hl1];simp only [Dy.raw];omega
   have HC:=hid hc;clear hc hl hl1 ha hb hx hx0 hT hy hy0;generalize hn:y.raw.neg=n2 at *;generalize y.raw.e=e2 at *;clear hn;generalize x.raw=r at *;obtain ⟨W,hW,kW,B0,B1,B2⟩:=Gu w (.bool r.neg) (.slice A l c) (.int .i64 r.e) (.bool n2) (.slice A2 0 c2) (.int .i64 e2);have HW:=hid hW;have HK:=hid kW;have HB:=hid B2;clear hW kW B0 B1 B2;go_enter Tryz.func99,Tryz.ntmps99
   go_wp2_with (go_at_call 108;rw [←HW.out];refine (HC.out _ HK.out).mono ?_;rintro e w1 ⟨q,u,rfl,hd⟩;obtain ⟨A',l',c',rfl,-,hd,g3,g4⟩:=hd.shape;have HD:=hid hd;have hb2:=HB.out.kept q;obtain ⟨_,c0,c1,c2,f0,f1,f2⟩:=hb2.facts;have HB2:=hid hb2;clear hd hb2)
   exact B9 (HB2.out.laid _ _ _) rfl rfl rfl ⟨Al (HK.out.trans q) (by omega),.inl ⟨rfl,_,rfl,(HD.out.dyW HB2.out (Ah _) (Ag _ _ _) (Aj _)).dyR g3 g4⟩⟩
  ·exact Y2 ha hb hx hy hT hx0 hy0
theorem Aa0 {w:World}{va vb:Value}{x y:Dy}(ha:DyR w va x.raw)(hb:DyR w vb y.raw)(hx:x.Ok)(hy:y.Ok)(hT:Tab w) :
 Calls Tryz.prog 49 #[va,vb] w (RetE (Ia x y).raw w):=by
 have hf:=fun w1 (k:Kept w w1)=>Abf (K:=99) (o:=(Ia x y).raw) (ha.kept k) (hb.kept k) (by have:=Di hx;omega) (by have:=Di hy;omega)
  (fun W k1 _ _=>Adq (ha.kept (k.trans k1)) (hb.kept (k.trans k1)) hx hy (hT.kept (k.trans k1)))
  (fun h=>by have:=Po hx hy;show ((Ia x y).v).raw=rz;rw [this.2 h,Cj]) (fun _=>rfl)
 have e:M7 x.raw y.raw (Ia x y).raw=(Ia x y).raw:=by unfold M7;rw [hx.may,hy.may];rfl
 rw [e] at hf;obtain ⟨A,l,c,rfl,-,-,-,-⟩:=ha.shape;obtain ⟨A2,l2,c2,rfl,-,-,-,-⟩:=hb.shape;have HF:=hid hf;clear hf ha hb hx hy hT e;generalize (Ia x y).raw=o at *;generalize x.raw.neg=n1 at *;generalize x.raw.e=e1 at *;generalize y.raw.neg=n2 at *;generalize y.raw.e=e2 at *;obtain ⟨W,hW,kW,B0,B1,B2⟩:=Gu w (.bool n1) (.slice A l c) (.int .i64 e1) (.bool n2) (.slice A2 l2 c2) (.int .i64 e2);have HW:=hid hW;have HK:=hid kW;have HB:=hid B2;clear hW kW B0 B1 B2;go_enter Tryz.func49,Tryz.ntmps49
 go_wp2_with (go_at_call 98;rw [←HW.out];refine (HF.out _ HK.out).mono ?_;rintro e w1 ⟨q,u,rfl,hd⟩;obtain ⟨A',l',c',rfl,-,hd,g3,g4⟩:=hd.shape;have HD:=hid hd;have hb2:=HB.out.kept q;obtain ⟨_,c0,c1,c2,f0,f1,f2⟩:=hb2.facts;have HB2:=hid hb2;clear hd hb2)
 exact Bw (HB2.out.laid _ _ _) rfl rfl rfl ⟨Al (HK.out.trans q) (by omega),_,rfl,(HD.out.dyW HB2.out (Ah _) (Ag _ _ _) (Aj _)).dyR g3 g4⟩
theorem Aa2 {w:World}{va vb:Value}{x y:Dy}(ha:DyR w va x.raw)(hb:DyR w vb y.raw)(hx:x.Ok)(hy:y.Ok)(hT:Tab w) :
 Calls Tryz.prog 57 #[va,vb] w (RetE (Ih x y).raw w):=by
 have hf:=fun w1 (k:Kept w w1)=>Abf (K:=105) (o:=(Ih x y).raw) (ha.kept k) (hb.kept k) (by have:=Di hx;omega) (by have:=Di hy;omega)
  (fun W k1 _ _=>Acb (ha.kept (k.trans k1)) (hb.kept (k.trans k1)) hx hy (hT.kept (k.trans k1)))
  (fun h=>by have:=O8 x y;show ((Ih x y).v).raw=rz;rw [this.2 h,Cj]) (fun _=>rfl)
 have e:M7 x.raw y.raw (Ih x y).raw=(Ih x y).raw:=by unfold M7;rw [hx.may,hy.may];rfl
 rw [e] at hf;obtain ⟨A,l,c,rfl,-,-,-,-⟩:=ha.shape;obtain ⟨A2,l2,c2,rfl,-,-,-,-⟩:=hb.shape;have HF:=hid hf;clear hf ha hb hx hy hT e;generalize (Ih x y).raw=o at *;generalize x.raw.neg=n1 at *;generalize x.raw.e=e1 at *;generalize y.raw.neg=n2 at *;generalize y.raw.e=e2 at *;obtain ⟨W,hW,kW,B0,B1,B2⟩:=Gu w (.bool n1) (.slice A l c) (.int .i64 e1) (.bool n2) (.slice A2 l2 c2) (.int .i64 e2);have HW:=hid hW;have HK:=hid kW;have HB:=hid B2;clear hW kW B0 B1 B2;go_enter Tryz.func57,Tryz.ntmps57
 go_wp2_with (go_at_call 98;rw [←HW.out];refine (HF.out _ HK.out).mono ?_;rintro e w1 ⟨q,u,rfl,hd⟩;obtain ⟨A',l',c',rfl,-,hd,g3,g4⟩:=hd.shape;have HD:=hid hd;have hb2:=HB.out.kept q;obtain ⟨_,c0,c1,c2,f0,f1,f2⟩:=hb2.facts;have HB2:=hid hb2;clear hd hb2)
 exact Bw (HB2.out.laid _ _ _) rfl rfl rfl ⟨Al (HK.out.trans q) (by omega),_,rfl,(HD.out.dyW HB2.out (Ah _) (Ag _ _ _) (Aj _)).dyR g3 g4⟩
theorem Kh (w:World)(x y z x' y' z':Value):∃ W,W=(w.alloc (.cells #[x,y,z] 24)).alloc (.cells #[x',y',z'] 24) ∧
 Kept w W∧Blk W w.heap.size x y z∧Blk W (w.heap.size+1) x' y' z' :=
 ⟨_,rfl,(Ad _ _).trans (Ad _ _),Ax (blk_new _ _ _ _) _,Du _ _ _ _ _⟩
theorem Zu {w:World}{va vb:Value}{x y:Dy}(ha:DyR w va x.raw)(hb:DyR w vb y.raw)(hx:x.Ok)(hy:y.Ok)(hx0:x.m≠0)(hy0:y.m≠0) :
 Calls Tryz.prog 67 #[va,vb] w (RetK (.int .i64 (Eo x y)) w):=by
 obtain ⟨A,l,c,rfl,-,ha,-,-⟩:=ha.shape;obtain ⟨A2,l2,c2,rfl,-,hb,-,-⟩:=hb.shape;have hs1:=fun w1 (k:Kept w w1)=>Ip (ha.kept k) (by have:=hx.len;omega)
 have hs2:=fun w1 (k:Kept w w1)=>Ip (hb.kept k) (by have:=hy.len;omega)
 have bx:=Cv x.m 64 hx.len;have bY:=Cv y.m 64 hy.len;have x1:=hx.lo;have x2:=hx.hi;have y1:=hy.lo;have y2:=hy.hi;obtain ⟨j1,hj1⟩:∃ j:Nat,x.e-min x.e y.e=j:=⟨(x.e-min x.e y.e).toNat,by omega⟩;obtain ⟨j2,hj2⟩:∃ j:Nat,y.e-min x.e y.e=j:=⟨(y.e-min x.e y.e).toNat,by omega⟩;have b1:j1≤2097152:=by omega
 have b2:j2≤2097152:=by omega
 have hl1:=fun w1 (k:Kept w w1)=>Ig (ha.kept k) j1 (by have:=hx.len;omega) (by omega)
 have hl2:=fun w1 (k:Kept w w1)=>Ig (hb.kept k) j2 (by have:=hy.len;omega) (by omega)
 have lx:(limbs (x.m*2^j1)).length≤40000:=Cb _ _ (by rw [Ci _ _ hx0];omega);have ly:(limbs (y.m*2^j2)).length≤40000:=Cb _ _ (by rw [Ci _ _ hy0];omega);have ho:=fun w1 v u (h1:Lim w1 v (limbs (x.m*2^j1))) (h2:Lim w1 u (limbs (y.m*2^j2)))=>Hx h1 h2 (by omega) (by omega)
 have hwx:IntKind.i64.wrap ((bl x.m:Int)+x.e)=(bl x.m:Int)+x.e:=by simp [IntKind.wrap_i64];omega
 have hwy:IntKind.i64.wrap ((bl y.m:Int)+y.e)=(bl y.m:Int)+y.e:=by simp [IntKind.wrap_i64];omega
 have hw1:IntKind.i64.wrap (x.e-min x.e y.e)=(j1:Int):=by rw [hj1];simp [IntKind.wrap_i64];omega
 have hw2:IntKind.i64.wrap (y.e-min x.e y.e)=(j2:Int):=by rw [hj2];simp [IntKind.wrap_i64];omega
 have hD:Eo x y=if (bl x.m:Int)+x.e<bl y.m+y.e then -1 else if (bl y.m:Int)+y.e<bl x.m+x.e then 1 else Bp (x.m*2^j1) (y.m*2^j2):=by
  unfold Eo;rw [hj1,hj2];rfl
 have HD:=hid hD;have H1:=hid hs1;have H2:=hid hs2;have L1:=hid hl1;have L2:=hid hl2;have HO:=hid ho;clear hD hs1 hs2 hl1 hl2 ho lx ly ha hb bx bY x1 x2 y1 y2 hx hy hx0 hy0 b1 b2 hj1 hj2;generalize limbs (x.m*2^j1)=xs at *;generalize limbs (y.m*2^j2)=ys at *;generalize Bp (x.m*2^j1) (y.m*2^j2)=cc at *;obtain ⟨sx,hsx⟩:∃ sx,(bl x.m:Int)+x.e=sx:=⟨_,rfl⟩;obtain ⟨sy,hsy⟩:∃ sy,(bl y.m:Int)+y.e=sy:=⟨_,rfl⟩;rw [hsx,hsy] at HD;rw [hsx] at hwx;rw [hsy] at hwy;have HX:=hid hsx;have HY:=hid hsy;clear hsx hsy;obtain ⟨lo,hlo⟩:∃ lo,min x.e y.e=lo:=⟨_,rfl⟩;rw [hlo] at hw1 hw2;have HL:=hid hlo;clear hlo;generalize bl x.m=bx at *
 generalize bl y.m=bY at *;have hsz:=HD.out;generalize Eo x y=res at *;simp only [Dy.raw] at *;generalize x.neg=n1 at *;generalize x.e=e1 at *;generalize y.neg=n2 at *;generalize y.e=e2 at *;clear HD;obtain ⟨W,hW,kW,B0,B1⟩:=Kh w (.bool n1) (.slice A l c) (.int .i64 e1) (.bool n2) (.slice A2 l2 c2) (.int .i64 e2);have HW:=hid hW;have HK:=hid kW;have HB0:=hid B0;have HB1':=hid B1;clear hW kW B0 B1;by_cases h1:sx<sy
 ·rw [if_pos h1] at hsz;subst hsz;have d1:decide (sx<sy)=true:=by simp [h1]
  clear h1;go_enter Tryz.func67,Tryz.ntmps67;go_wp2_with fail;rw [←HW.out]
  refine rgL 14 ([(vP w.heap.size 1),(vE (.slice A l c)),(vE (.int .i64 bx)),(vP w.heap.size 2),(vE (.int .i64 e1)),(vE (.int .i64 sx)),(vP (w.heap.size+1) 1),(vE (.slice A2 l2 c2)),(vE (.int .i64 bY)),(vP (w.heap.size+1) 2),(vE (.int .i64 e2)),(vE (.int .i64 sy)),(vE (.int .i64 sx)),(vE (.int .i64 sy))])
   ⟨
    (gq 2),(gvl 0 8 fun _ k=>Af HB0.out k 1 _ rfl),(fun aF wF F=>by have s9:=F.v 1 9;exact sQ (H1.out _ (HK.out.trans F.kept)) fun _ _ h=>h),(gq 2),(gvl 3 11 fun _ k=>Af HB0.out k 2 _ rfl),(fun aF wF F=>by have s10:=F.v 2 10;have s12:=F.v 4 12;exact sw (by have:=HX.out;go_simp) rfl),(gq 3),(gvl 6 14 fun _ k=>Af HB1'.out k 1 _ rfl),(fun aF wF F=>by have s15:=F.v 7 15;exact sQ (H2.out _ (HK.out.trans F.kept)) fun _ _ h=>h),(gq 3),(gvl 9 17 fun _ k=>Af HB1'.out k 2 _ rfl),(fun aF wF F=>by have s16:=F.v 8 16;have s18:=F.v 10 18;exact sw (by have:=HY.out;go_simp) rfl),(gv 5 13),(gv 11 19),
    trivial⟩ ?_
  intro u w1 k1 hu;simp only [Av,Am,if_true,Act.put,zlA,zlB,zlC,zlD,zlE,zlF,zlG,hv hu 0,hv hu 1,hv hu 2,hv hu 3,hv hu 4,hv hu 5,hv hu 6,hv hu 7,hv hu 8,hv hu 9,hv hu 10,hv hu 11,hv hu 12,hv hu 13];clear hu;go_wp2_with fail;go_ret;exact ⟨rfl,HK.out.trans k1⟩
 ·rw [if_neg h1] at hsz;have d1:decide (sx<sy)=false:=by simp;omega
  clear h1;by_cases h2:sy<sx
  ·rw [if_pos h2] at hsz;subst hsz;have d2:decide (sy<sx)=true:=by simp [h2]
   clear h2;go_enter Tryz.func67,Tryz.ntmps67;go_wp2_with fail;rw [←HW.out]
   refine rgL 14 ([(vP w.heap.size 1),(vE (.slice A l c)),(vE (.int .i64 bx)),(vP w.heap.size 2),(vE (.int .i64 e1)),(vE (.int .i64 sx)),(vP (w.heap.size+1) 1),(vE (.slice A2 l2 c2)),(vE (.int .i64 bY)),(vP (w.heap.size+1) 2),(vE (.int .i64 e2)),(vE (.int .i64 sy)),(vE (.int .i64 sx)),(vE (.int .i64 sy))])
    ⟨
     (gq 2),(gvl 0 8 fun _ k=>Af HB0.out k 1 _ rfl),(fun aF wF F=>by have s9:=F.v 1 9;exact sQ (H1.out _ (HK.out.trans F.kept)) fun _ _ h=>h),(gq 2),(gvl 3 11 fun _ k=>Af HB0.out k 2 _ rfl),(fun aF wF F=>by have s10:=F.v 2 10;have s12:=F.v 4 12;exact sw (by have:=HX.out;go_simp) rfl),(gq 3),(gvl 6 14 fun _ k=>Af HB1'.out k 1 _ rfl),(fun aF wF F=>by have s15:=F.v 7 15;exact sQ (H2.out _ (HK.out.trans F.kept)) fun _ _ h=>h),(gq 3),(gvl 9 17 fun _ k=>Af HB1'.out k 2 _ rfl),(fun aF wF F=>by have s16:=F.v 8 16;have s18:=F.v 10 18;exact sw (by have:=HY.out;go_simp) rfl),(gv 5 13),(gv 11 19),
     trivial⟩ ?_
   intro u w1 k1 hu;simp only [Av,Am,if_true,Act.put,zlA,zlB,zlC,zlD,zlE,zlF,zlG,hv hu 0,hv hu 1,hv hu 2,hv hu 3,hv hu 4,hv hu 5,hv hu 6,hv hu 7,hv hu 8,hv hu 9,hv hu 10,hv hu 11,hv hu 12,hv hu 13];clear hu;go_wp2_with fail;go_ret;exact ⟨rfl,HK.out.trans k1⟩
  ·rw [if_neg h2] at hsz;subst hsz;have d2:decide (sy<sx)=false:=by simp;omega
   clear h2;go_enter Tryz.func67,Tryz.ntmps67;go_wp2_with fail;rw [←HW.out]
   refine rgL 14 ([(vP w.heap.size 1),(vE (.slice A l c)),(vE (.int .i64 bx)),(vP w.heap.size 2),(vE (.int .i64 e1)),(vE (.int .i64 sx)),(vP (w.heap.size+1) 1),(vE (.slice A2 l2 c2)),(vE (.int .i64 bY)),(vP (w.heap.size+1) 2),(vE (.int .i64 e2)),(vE (.int .i64 sy)),(vE (.int .i64 sx)),(vE (.int .i64 sy))])
    ⟨
     (gq 2),(gvl 0 8 fun _ k=>Af HB0.out k 1 _ rfl),(fun aF wF F=>by have s9:=F.v 1 9;exact sQ (H1.out _ (HK.out.trans F.kept)) fun _ _ h=>h),(gq 2),(gvl 3 11 fun _ k=>Af HB0.out k 2 _ rfl),(fun aF wF F=>by have s10:=F.v 2 10;have s12:=F.v 4 12;exact sw (by have:=HX.out;go_simp) rfl),(gq 3),(gvl 6 14 fun _ k=>Af HB1'.out k 1 _ rfl),(fun aF wF F=>by have s15:=F.v 7 15;exact sQ (H2.out _ (HK.out.trans F.kept)) fun _ _ h=>h),(gq 3),(gvl 9 17 fun _ k=>Af HB1'.out k 2 _ rfl),(fun aF wF F=>by have s16:=F.v 8 16;have s18:=F.v 10 18;exact sw (by have:=HY.out;go_simp) rfl),(gv 5 13),(gv 11 19),
     trivial⟩ ?_
   intro u w1 k1 hu;simp only [Av,Am,if_true,Act.put,zlA,zlB,zlC,zlD,zlE,zlF,zlG,hv hu 0,hv hu 1,hv hu 2,hv hu 3,hv hu 4,hv hu 5,hv hu 6,hv hu 7,hv hu 8,hv hu 9,hv hu 10,hv hu 11,hv hu 12,hv hu 13];clear hu;obtain ⟨-,a0,a1,a2,-⟩:=(HB0.out.kept k1).facts;obtain ⟨-,b0,b1,b2,-⟩:=(HB1'.out.kept k1).facts;go_wp2_with fail;rw [HL.out];have K1:=hid k1;clear a0 a1 a2 b0 b1 b2 k1 hwx hwy d1 d2
   refine rgL 16 ([(vP w.heap.size 1),(vE (.slice A l c)),(vP w.heap.size 2),(vE (.int .i64 e1)),(vE (.int .i64 lo)),(vE (.int .i64 j1)),(fun v wv=>Lim wv v (xs)),(vP (w.heap.size+1) 1),(vE (.slice A2 l2 c2)),(vP (w.heap.size+1) 2),(vE (.int .i64 e2)),(vE (.int .i64 lo)),(vE (.int .i64 j2)),(fun v wv=>Lim wv v (ys)),(vE (.int .i64 res)),(vE (.int .i64 res))])
    ⟨
     (gq 2),(gvl 0 33 fun _ k=>Af (HB0.out.kept K1.out) k 1 _ rfl),(gq 2),(gvl 2 35 fun _ k=>Af (HB0.out.kept K1.out) k 2 _ rfl),(gq 7),(gvv 3 36 4 37),(fun aF wF F=>by have s34:=F.v 1 34;have s38:=F.v 5 38;exact sL (L1.out _ (HK.out.trans (K1.out.trans F.kept))) fun _ _ h=>h),(gq 3),(gvl 7 40 fun _ k=>Af (HB1'.out.kept K1.out) k 1 _ rfl),(gq 3),(gvl 9 42 fun _ k=>Af (HB1'.out.kept K1.out) k 2 _ rfl),(gq 7),(gvv 10 43 11 44),(fun aF wF F=>by have s41:=F.v 8 41;have s45:=F.v 12 45;exact sL (L2.out _ (HK.out.trans (K1.out.trans F.kept))) fun _ _ h=>h),(fun aF wF F=>by have s39:=F.p 6 39;have s46:=F.p 13 46;exact sQ (HO.out _ _ _ s39 s46) fun _ _ h=>h),(gv 14 47),
     trivial⟩ ?_
   intro u w1 k1 hu;have p39:=hp hu 6;have p46:=hp hu 13;simp only [Av,Am,if_true,Act.put,zlA,zlB,zlC,zlD,zlE,zlF,zlG,hv hu 0,hv hu 1,hv hu 2,hv hu 3,hv hu 4,hv hu 5,hv hu 7,hv hu 8,hv hu 9,hv hu 10,hv hu 11,hv hu 12,hv hu 14,hv hu 15];clear hu;generalize u 6=v39,u 13=v46 at *;clear p39 p46;go_wp2_with fail;go_ret;exact ⟨rfl,HK.out.trans (K1.out.trans k1)⟩
theorem Io (d:Dy)(h:d.Ok):Re d.raw=sg d:=by
 unfold Re sg;by_cases h0:d.m=0
 ·rw [if_pos h0,if_pos (Or.inr (by simp only [Dy.raw];rw [h0,limbs_zero];rfl))]
 ·rw [if_neg h0,if_neg]
  ·rfl
  ·rintro (h1 | h1)
   ·rw [h.may] at h1;cases h1
   ·have:=length_limbs_pos d.m h0;simp only [Dy.raw] at h1;omega
theorem Ki {w:World}{va vb:Value}{x y:Dy}(ha:DyR w va x.raw)(hb:DyR w vb y.raw)(hx:x.Ok)(hy:y.Ok) :
 Calls Tryz.prog 25 #[va,vb] w (RetK (.int .i64 (Bq x.q y.q)) w):=by
 have lx:=Di hx;have ly:=Di hy;have s1:=fun w1 (k:Kept w w1)=>Lo (ha.kept k) (by omega)
 have s2:=fun w1 (k:Kept w w1)=>Lo (hb.kept k) (by omega)
 have m1:=fun w1 (k:Kept w w1)=>J7 (ha.kept k) (by omega)
 have m2:=fun w1 (k:Kept w w1)=>J7 (hb.kept k) (by omega)
 have hsz:=fun w1 (k:Kept w w1) (h1:x.m≠0) (h2:y.m≠0)=>Zu (ha.kept k) (hb.kept k) hx hy h1 h2
 rw [Io x hx] at s1;rw [Io y hy] at s2;rw [hx.may] at m1;rw [hy.may] at m2;have g1:=@Rz x y;have g2:=@Wf x y;have g3:=@P6 x y;have c1:=Ft x;have c2:=Ft y;have z1:sg x≠0→x.m≠0:=fun h h0=>h (by unfold sg;rw [if_pos h0])
 have z2:sg y≠0→y.m≠0:=fun h h0=>h (by unfold sg;rw [if_pos h0])
 have hsr:Eo x y=-1∨Eo x y=0∨Eo x y=1:=by
  unfold Eo Bp;split
  ·exact .inl rfl
  ·split
   ·exact .inr (.inr rfl)
   ·split
    ·exact .inl rfl
    ·split
     ·exact .inr (.inl rfl)
     ·exact .inr (.inr rfl)
 obtain ⟨A,l,c,rfl,-,ha,-,-⟩:=ha.shape;obtain ⟨A2,l2,c2',rfl,-,hb,-,-⟩:=hb.shape;have S1:=hid s1;have S2:=hid s2;have M1:=hid m1;have M2:=hid m2;have HZ:=hid hsz;have G1:=hid g1;have G2:=hid g2;have G3:=hid g3;have Z1:=hid z1;have Z2:=hid z2;have C1:=hid c1;have C2:=hid c2;have HR:=hid hsr;clear s1 s2 m1 m2 hsz g1 g2 g3 z1 z2 c1 c2 hsr ha hb lx ly hx hy;generalize Bq x.q y.q=res at *;simp only [Dy.raw] at *;generalize x.neg=n1 at *;generalize x.e=e1 at *;generalize y.neg=n2 at *;generalize y.e=e2 at *;generalize Eo x y=zz at *;generalize sg x=g at *;generalize sg y=g' at *;obtain ⟨W,hW,kW,B0,B1⟩:=Kh w (.bool n1) (.slice A l c) (.int .i64 e1) (.bool n2) (.slice A2 l2 c2') (.int .i64 e2)
 have HW:=hid hW;have HK:=hid kW;have HB0:=hid B0;have HB1':=hid B1;clear hW kW B0 B1;by_cases h1:g<g'
 ·have hr:=G1.out h1;subst hr;have d1:(g==g')=false:=by rw [beq_eq_false_iff_ne];omega
  have d2:decide (g<g')=true:=by simp [h1]
  clear h1;go_enter Tryz.func25,Tryz.ntmps25;go_wp2_with fail;rw [←HW.out]
  refine rgL 6 ([(vE (.agg #[.bool n1,.slice A l c,.int .i64 e1])),(vE (.int .i64 g)),(vE (.agg #[.bool n2,.slice A2 l2 c2',.int .i64 e2])),(vE (.int .i64 g')),(vE (.int .i64 g)),(vE (.int .i64 g'))])
   ⟨
    (gql 2 fun _ k=>c3 HB0.out k),(fun aF wF F=>by have s7:=F.v 0 7;exact sK (S1.out _ (HK.out.trans F.kept)) fun _ _ h=>h),(gql 3 fun _ k=>c3 HB1'.out k),(fun aF wF F=>by have s9:=F.v 2 9;exact sK (S2.out _ (HK.out.trans F.kept)) fun _ _ h=>h),(gv 1 8),(gv 3 10),
    trivial⟩ ?_
  intro u w1 k1 hu;simp only [Av,Am,if_true,Act.put,zlA,zlB,zlC,zlD,zlE,zlF,zlG,hv hu 0,hv hu 1,hv hu 2,hv hu 3,hv hu 4,hv hu 5];clear hu;have KX:=hid k1;obtain ⟨-,a0,a1,a2,-⟩:=(HB0.out.kept k1).facts;obtain ⟨-,b0,b1,b2,-⟩:=(HB1'.out.kept k1).facts;clear k1 u;go_wp2_with fail;refine (M1.out _ (HK.out.trans KX.out)).mono ?_;rintro e w2 ⟨rfl,q⟩;replace KX:=hid (KX.out.trans q);clear a0 a1 a2 b0 b1 b2 q;obtain ⟨-,a0,a1,a2,-⟩:=(HB0.out.kept KX.out).facts;obtain ⟨-,b0,b1,b2,-⟩:=(HB1'.out.kept KX.out).facts;simp only [];go_wp2_with fail;refine (M2.out _ (HK.out.trans KX.out)).mono ?_;rintro e w3 ⟨rfl,q⟩
  replace KX:=hid (KX.out.trans q);clear a0 a1 a2 b0 b1 b2 q;obtain ⟨-,a0,a1,a2,-⟩:=(HB0.out.kept KX.out).facts;obtain ⟨-,b0,b1,b2,-⟩:=(HB1'.out.kept KX.out).facts;simp only [];go_wp2_with fail;go_ret;exact ⟨rfl,HK.out.trans KX.out⟩
 ·have d2:decide (g<g')=false:=by simp;omega
  by_cases h2:g=g'
  ·have hr:=G3.out h2;obtain rfl:=h2;have d1:(g==g)=true:=by rw [beq_iff_eq]
   by_cases h3:g=0
   ·rw [if_pos h3] at hr;subst hr;have d3:(g==0)=true:=by rw [beq_iff_eq];exact h3
    clear h1 h3;go_enter Tryz.func25,Tryz.ntmps25;go_wp2_with fail;rw [←HW.out]
    refine rgL 6 ([(vE (.agg #[.bool n1,.slice A l c,.int .i64 e1])),(vE (.int .i64 g)),(vE (.agg #[.bool n2,.slice A2 l2 c2',.int .i64 e2])),(vE (.int .i64 g)),(vE (.int .i64 g)),(vE (.int .i64 g))])
     ⟨
      (gql 2 fun _ k=>c3 HB0.out k),(fun aF wF F=>by have s7:=F.v 0 7;exact sK (S1.out _ (HK.out.trans F.kept)) fun _ _ h=>h),(gql 3 fun _ k=>c3 HB1'.out k),(fun aF wF F=>by have s9:=F.v 2 9;exact sK (S2.out _ (HK.out.trans F.kept)) fun _ _ h=>h),(gv 1 8),(gv 3 10),
      trivial⟩ ?_
    intro u w1 k1 hu;simp only [Av,Am,if_true,Act.put,zlA,zlB,zlC,zlD,zlE,zlF,zlG,hv hu 0,hv hu 1,hv hu 2,hv hu 3,hv hu 4,hv hu 5];clear hu;have KX:=hid k1;obtain ⟨-,a0,a1,a2,-⟩:=(HB0.out.kept k1).facts;obtain ⟨-,b0,b1,b2,-⟩:=(HB1'.out.kept k1).facts;clear k1 u;go_wp2_with fail;refine (M1.out _ (HK.out.trans KX.out)).mono ?_;rintro e w2 ⟨rfl,q⟩;replace KX:=hid (KX.out.trans q);clear a0 a1 a2 b0 b1 b2 q;obtain ⟨-,a0,a1,a2,-⟩:=(HB0.out.kept KX.out).facts;obtain ⟨-,b0,b1,b2,-⟩:=(HB1'.out.kept KX.out).facts;simp only [];go_wp2_with fail;refine (M2.out _ (HK.out.trans KX.out)).mono ?_;rintro e w3 ⟨rfl,q⟩
    replace KX:=hid (KX.out.trans q);clear a0 a1 a2 b0 b1 b2 q;obtain ⟨-,a0,a1,a2,-⟩:=(HB0.out.kept KX.out).facts;obtain ⟨-,b0,b1,b2,-⟩:=(HB1'.out.kept KX.out).facts;simp only [];go_wp2_with fail;go_ret;exact ⟨rfl,HK.out.trans KX.out⟩
   ·rw [if_neg h3] at hr;subst hr;have d3:(g==0)=false:=by rw [beq_eq_false_iff_ne];exact h3
    have hz:=fun w1 k=>HZ.out w1 k (Z1.out h3) (Z2.out h3)
    have hw:wrap64 (g*zz)=g*zz:=by
     rcases C1.out with h | h | h<;>rcases HR.out with h' | h' | h'<;>rw [h,h']<;>first | rfl | decide | simp [wrap64]
    clear HZ;have HZ:=hid hz;clear h1 h3 hz;go_enter Tryz.func25,Tryz.ntmps25;go_wp2_with fail;rw [←HW.out]
    refine rgL 6 ([(vE (.agg #[.bool n1,.slice A l c,.int .i64 e1])),(vE (.int .i64 g)),(vE (.agg #[.bool n2,.slice A2 l2 c2',.int .i64 e2])),(vE (.int .i64 g)),(vE (.int .i64 g)),(vE (.int .i64 g))])
     ⟨
      (gql 2 fun _ k=>c3 HB0.out k),(fun aF wF F=>by have s7:=F.v 0 7;exact sK (S1.out _ (HK.out.trans F.kept)) fun _ _ h=>h),(gql 3 fun _ k=>c3 HB1'.out k),(fun aF wF F=>by have s9:=F.v 2 9;exact sK (S2.out _ (HK.out.trans F.kept)) fun _ _ h=>h),(gv 1 8),(gv 3 10),
      trivial⟩ ?_
    intro u w1 k1 hu;simp only [Av,Am,if_true,Act.put,zlA,zlB,zlC,zlD,zlE,zlF,zlG,hv hu 0,hv hu 1,hv hu 2,hv hu 3,hv hu 4,hv hu 5];clear hu;have KX:=hid k1;obtain ⟨-,a0,a1,a2,-⟩:=(HB0.out.kept k1).facts;obtain ⟨-,b0,b1,b2,-⟩:=(HB1'.out.kept k1).facts;clear k1 u;go_wp2_with fail;refine (M1.out _ (HK.out.trans KX.out)).mono ?_;rintro e w2 ⟨rfl,q⟩;replace KX:=hid (KX.out.trans q);clear a0 a1 a2 b0 b1 b2 q;obtain ⟨-,a0,a1,a2,-⟩:=(HB0.out.kept KX.out).facts;obtain ⟨-,b0,b1,b2,-⟩:=(HB1'.out.kept KX.out).facts;simp only [];go_wp2_with fail;refine (M2.out _ (HK.out.trans KX.out)).mono ?_;rintro e w3 ⟨rfl,q⟩
    replace KX:=hid (KX.out.trans q);clear a0 a1 a2 b0 b1 b2 q;obtain ⟨-,a0,a1,a2,-⟩:=(HB0.out.kept KX.out).facts;obtain ⟨-,b0,b1,b2,-⟩:=(HB1'.out.kept KX.out).facts;simp only []
    go_wp2_with (go_at_call 67;refine (HZ.out _ (HK.out.trans KX.out)).mono ?_;rintro e w2 ⟨rfl,q⟩;have KY:=hid (KX.out.trans q))
    go_ret;exact ⟨show Ending.returned (.int .i64 (wrap64 (g*zz)))=_ from by rw [hw],HK.out.trans KY.out⟩
  ·have hr:=G2.out (by omega);subst hr;have d1:(g==g')=false:=by rw [beq_eq_false_iff_ne];exact h2
   clear h1 h2;go_enter Tryz.func25,Tryz.ntmps25;go_wp2_with fail;rw [←HW.out]
   refine rgL 6 ([(vE (.agg #[.bool n1,.slice A l c,.int .i64 e1])),(vE (.int .i64 g)),(vE (.agg #[.bool n2,.slice A2 l2 c2',.int .i64 e2])),(vE (.int .i64 g')),(vE (.int .i64 g)),(vE (.int .i64 g'))])
    ⟨
     (gql 2 fun _ k=>c3 HB0.out k),(fun aF wF F=>by have s7:=F.v 0 7;exact sK (S1.out _ (HK.out.trans F.kept)) fun _ _ h=>h),(gql 3 fun _ k=>c3 HB1'.out k),(fun aF wF F=>by have s9:=F.v 2 9;exact sK (S2.out _ (HK.out.trans F.kept)) fun _ _ h=>h),(gv 1 8),(gv 3 10),
     trivial⟩ ?_
   intro u w1 k1 hu;simp only [Av,Am,if_true,Act.put,zlA,zlB,zlC,zlD,zlE,zlF,zlG,hv hu 0,hv hu 1,hv hu 2,hv hu 3,hv hu 4,hv hu 5];clear hu;have KX:=hid k1;obtain ⟨-,a0,a1,a2,-⟩:=(HB0.out.kept k1).facts;obtain ⟨-,b0,b1,b2,-⟩:=(HB1'.out.kept k1).facts;clear k1 u;go_wp2_with fail;refine (M1.out _ (HK.out.trans KX.out)).mono ?_;rintro e w2 ⟨rfl,q⟩;replace KX:=hid (KX.out.trans q);clear a0 a1 a2 b0 b1 b2 q;obtain ⟨-,a0,a1,a2,-⟩:=(HB0.out.kept KX.out).facts;obtain ⟨-,b0,b1,b2,-⟩:=(HB1'.out.kept KX.out).facts;simp only [];go_wp2_with fail;refine (M2.out _ (HK.out.trans KX.out)).mono ?_;rintro e w3 ⟨rfl,q⟩
   replace KX:=hid (KX.out.trans q);clear a0 a1 a2 b0 b1 b2 q;obtain ⟨-,a0,a1,a2,-⟩:=(HB0.out.kept KX.out).facts;obtain ⟨-,b0,b1,b2,-⟩:=(HB1'.out.kept KX.out).facts;simp only [];go_wp2_with fail;go_ret;exact ⟨rfl,HK.out.trans KX.out⟩
theorem Xj {neg:Bool}{m:List Nat}{e:Int}(h:Ja m=false∨e < -1048576∨1048576<e):Eu ⟨neg,m,e⟩=false:=by
 unfold Eu;simp only;split
 ·rename_i h0;have hm:Ja m=true:=by unfold Ja;simp [h0]
  have he:¬e=0:=by
   rcases h with h | h | h
   ·rw [hm] at h;cases h
   ·omega
   ·omega
  simp [he]
 ·rcases h with h | h | h
  ·simp [h]
  ·have:¬-1048576≤e:=by omega
   simp [this]
  ·have:¬e≤1048576:=by omega
   simp [this]
theorem Hz {w:World}{v:Value}{r:Raw}(hv:DyR w v r)(hl:r.m.length≤17592186044416) :
 Calls Tryz.prog 79 #[v] w (RetK (.bool (Eu r)) w):=by
 obtain ⟨neg,m,e⟩:=r;obtain ⟨s,rfl,hs,h1,h2⟩:=hv;simp only at hs h1 h2 hl ⊢;have hm:=fun w1 (k:Kept w w1)=>Aak (hs.kept k) hl
 obtain ⟨hsm,A,c,rfl,hc,hA⟩:=hs;have HM:=hid hm;have HO:=hid (@Xj neg m e);clear hm;obtain ⟨bm,hbm⟩:∃ b,Ja m=b:=⟨_,rfl⟩;rw [hbm] at HM HO;by_cases hbad:bm=false∨e < -1048576∨1048576<e
 ·rw [HO.out hbad];have hb2:Hid (bm=false∨e < -1048576∨1048576<e):=hbad;clear HO hbad hA hsm hbm h1 h2;generalize m.length=l at *;rcases hb2.out with rfl | hb | hb
  ·clear hb2;go_enter Tryz.func79,Tryz.ntmps79
   go_wp2_with (go_at_call 122;refine (HM.out _ (Ad _ _)).mono ?_;rintro e w1 ⟨rfl,q,rfl⟩)
   go_ret;exact ⟨rfl,(Ad _ _).drewN _⟩
  ·clear hb2;have d1:decide (e < -1048576)=true:=by simp [hb]
   cases bm<;>(
    go_enter Tryz.func79,Tryz.ntmps79
    go_wp2_with (go_at_call 122;refine (HM.out _ (Ad _ _)).mono ?_;rintro e w1 ⟨rfl,q,rfl⟩)
    go_ret;exact ⟨rfl,(Ad _ _).drewN _⟩)
  ·clear hb2;have d1:decide (e < -1048576)=false:=by simp;omega
   have d2:decide (1048576<e)=true:=by simp [hb]
   cases bm<;>(
    go_enter Tryz.func79,Tryz.ntmps79
    go_wp2_with (go_at_call 122;refine (HM.out _ (Ad _ _)).mono ?_;rintro e w1 ⟨rfl,q,rfl⟩)
    go_ret;exact ⟨rfl,(Ad _ _).drewN _⟩)
 ·obtain rfl:bm=true:=by cases bm<;>simp_all
  have e1:-1048576≤e:=by
   by_cases h:-1048576≤e
   ·exact h
   ·exact absurd (.inr (.inl (by omega))) hbad
  have e2:e≤1048576:=by
   by_cases h:e≤1048576
   ·exact h
   ·exact absurd (.inr (.inr (by omega))) hbad
  have d1:decide (e < -1048576)=false:=by simp;omega
  have d2:decide (1048576<e)=false:=by simp;omega
  clear hbad HO;unfold Eu;simp only;by_cases h0:m.length=0
  ·rw [if_pos h0];clear hsm hA hbm;rw [h0];have HL:=hid h0;clear h0 hl hc e1 e2 h1 h2
   cases neg<;>(
    go_enter Tryz.func79,Tryz.ntmps79
    go_wp2_with (go_at_call 122;rw [HL.out] at HM;refine (HM.out _ (Ad _ _)).mono ?_;rintro e w1 ⟨rfl,q,rfl⟩)
    go_ret;exact ⟨rfl,(Ad _ _).drewN _⟩)
  ·rw [if_neg h0,hbm,decide_eq_true e1,decide_eq_true e2,Bool.and_true,Bool.and_true,Bool.true_and];obtain ⟨b,off,rfl,hb,hcell⟩:=hA (by omega);have hc0:=hcell 0 (by omega);have hlt0:=nth_lt hsm 0;have e0:(((m.length:Nat):Int)==0)=false:=by rw [beq_eq_false_iff_ne];omega
   have hl0:0<m.length:=by omega
   clear hcell hA hsm h0 e1 e2 hbm;have eand:bits .and .u64 ((nth m 0:Nat):Int) 1=((nth m 0%2:Nat):Int):=by
    have h:=bits_and_u64_nat (nth m 0) 1 hlt0 (by omega);rw [Nat.and_one_is_mod] at h;exact h
   have eb:(nth m 0%2==1)=(((nth m 0%2:Nat):Int)==1):=by
    rcases Nat.mod_two_eq_zero_or_one (nth m 0) with h | h<;>rw [h]<;>rfl
   rw [eb];rw [Nat.add_zero] at hc0;generalize nth m 0%2=y at *;generalize nth m 0=x at *;generalize m.length=l at *;clear eb;have HC:=hid (fun w1 (k:Kept w w1)=>(k.cell (p:=⟨b,off,none⟩) hb).trans hc0);clear hc0;go_enter Tryz.func79,Tryz.ntmps79
   go_wp2_with (go_at_call 122;refine (HM.out _ (Ad _ _)).mono ?_;rintro e w1 ⟨rfl,q,rfl⟩;have hcc:=HC.out _ ((Ad w (.cells #[.bool neg,.slice (some ⟨b,off,none⟩) l c,.int .i64 e] 24)).drewN q))
   go_ret;exact ⟨rfl,(Ad _ _).drewN _⟩
theorem T4 {w:World}{v:Value}{r:Raw}(hv:DyR w v r)(hl:r.m.length≤17592186044416) :
 Calls Tryz.prog 100 #[v] w (RetK (.int .i64 (Re r)) w):=by
 have hm:=fun w1 (k:Kept w w1)=>Hz (hv.kept k) hl
 obtain ⟨neg,m,e⟩:=r;obtain ⟨s,rfl,hs,h1,h2⟩:=hv;obtain ⟨_,A,c,rfl,hc,_⟩:=hs;simp only at hc h1 h2 hl ⊢;unfold Re;simp only;have HM:=hid hm;clear hm;generalize hb:Eu ⟨neg,m,e⟩=bm at *;cases bm
 ·rw [if_pos (Or.inl rfl)];go_enter Tryz.func100,Tryz.ntmps100
  go_wp2_with (go_at_call 79;refine (HM.out _ (Ad _ _)).mono ?_;rintro e w1 ⟨rfl,q⟩)
  go_ret;exact ⟨rfl,(Ad _ _).trans q⟩
 ·clear hb;generalize m.length=l at *;by_cases h0:l=0
  ·rw [if_pos (Or.inr h0)];subst h0;clear hl hc;go_enter Tryz.func100,Tryz.ntmps100
   go_wp2_with (go_at_call 79;refine (HM.out _ (Ad _ _)).mono ?_;rintro e w1 ⟨rfl,q⟩;obtain ⟨_,c0,c1,c2,_⟩:=((blk_new _ _ _ _).kept q).facts)
   go_ret;exact ⟨rfl,(Ad _ _).trans q⟩
  ·rw [if_neg (by rintro (h | h);exact absurd h (by decide);exact h0 h)];have e0:(((l:Nat):Int)==0)=false:=by rw [beq_eq_false_iff_ne];omega
   have HL:=hid h0;clear h0
   cases neg<;>(
    go_enter Tryz.func100,Tryz.ntmps100
    go_wp2_with (go_at_call 79;refine (HM.out _ (Ad _ _)).mono ?_;rintro e w1 ⟨rfl,q⟩;obtain ⟨_,c0,c1,c2,_⟩:=((blk_new _ _ _ _).kept q).facts)
    go_ret;exact ⟨rfl,(Ad _ _).trans q⟩)
namespace Dg
theorem RetLim.good {xs:List Nat}{w w':World}{e:Ending}(h:RetLim xs w e w'):Ef (fun u w=>Lim w u xs) w e w':=by
 obtain ⟨v,he,hl,hk⟩:=h;exact ⟨v,he,hk,hl⟩
def DN (w:World) (v:Value) (b:Bool) (n:Nat) (e:Int):Prop:=∃ A l c,v=.agg #[.bool b,.slice A l c,.int .i64 e]∧Lim w (.slice A l c) (limbs n)
theorem DN.kept {w w':World}{v:Value}{b:Bool}{n:Nat}{e:Int}(h:DN w v b n e)(k:Kept w w'):DN w' v b n e:=by
 obtain ⟨A,l,c,rfl,h⟩:=h;exact ⟨A,l,c,rfl,h.kept k⟩
def RetN (b:Bool) (n:Nat) (e:Int) (w:World) (x:Ending) (w':World):Prop:=Kept w w'∧∃ v,x=.returned v∧DN w' v b n e
theorem RetN.good {b:Bool}{n:Nat}{e:Int}{w w':World}{x:Ending}(h:RetN b n e w x w'):Ef (fun u w=>DN w u b n e) w x w':=by
 obtain ⟨k,v,he,hl⟩:=h;exact ⟨v,he,k,hl⟩
theorem Lim.shape {w:World}{v:Value}{xs:List Nat}(h:Lim w v xs):∃ A c,v=.slice A xs.length c:=by
 obtain ⟨_,A,c,rfl,-,-⟩:=h;exact ⟨A,c,rfl⟩
def Blk (w:World) (b:Nat) (x y z:Value):Prop:=w.heap[b]?=some (.cells #[x,y,z] 81 (0,0))
theorem Blk.facts {w:World}{b:Nat}{x y z:Value}(h:Blk w b x y z):b<w.heap.size∧w.cell? ⟨b,0,none⟩=some x∧w.cell? ⟨b,1,none⟩=some y∧w.cell? ⟨b,2,none⟩=some z ∧
 w.frozen? ⟨b,0,none⟩=false∧w.frozen? ⟨b,1,none⟩=false∧w.frozen? ⟨b,2,none⟩=false :=
 ⟨(Array.getElem?_eq_some_iff.1 h).1,Ae h 0 _ rfl,Ae h 1 _ rfl,Ae h 2 _ rfl,An h 0,An h 1,An h 2⟩
theorem Blk.kept {w w1:World}{b:Nat}{x y z:Value}(h:Blk w b x y z)(k:Kept w w1):Blk w1 b x y z :=
 (k.block b (Array.getElem?_eq_some_iff.1 h).1).trans h
theorem blk_new (w:World)(x y z:Value):Blk (w.alloc (.cells #[x,y,z] 81)) w.heap.size x y z:=heap_alloc_new _ _
theorem Blk.laid {w:World}{b:Nat}{x y z:Value}(h:Blk w b x y z)(x' y' z':Value):Blk (dyW w b x' y' z') b x' y' z' :=
 Aw (Aw (Aw h _) _) _
theorem ret_n {fn:Func}{R:Ending→World→Prop}{a:Act}{w:World}{b t:Nat}{x y z:Value}(h:Blk w b x y z)
 (hres:fn.results=#[.cell t 81]) (ht:a.tmps.getD t undef=.pointer (some ⟨b,0,none⟩)) (hd:a.defers=[]) (hR:R (.returned (.agg #[x,y,z])) w) :
 bodyPost Tryz.prog fn R .ret a w:=by
 obtain ⟨_,c0,c1,c2,_⟩:=h.facts;refine bodyPost_ret (v:=.agg #[x,y,z]) ?_ hd hR;have ht2:a.tmps[t]?.getD undef=.pointer (some ⟨b,0,none⟩):=by simpa using ht
 simp [results,hres,ht2,go_sem,c0,c1,c2]
theorem Lim.dyW {w:World}{s:Value}{xs:List Nat}{b2:Nat}{T:TypeId}{x y z x' y' z':Value}(h:Lim w s xs)(h0:w.heap[b2]?=some (.cells #[x,y,z] T (0,0)))(hx:∀ n,¬x=.int .u32 n)(hy:∀ n,¬y=.int .u32 n)(hz:∀ n,¬z=.int .u32 n) :
 Lim (dyW w b2 x' y' z') s xs:=by
 obtain ⟨hsm,A,c,rfl,hc,hA⟩:=h;refine ⟨hsm,A,c,rfl,hc,fun hp=>?_⟩;obtain ⟨b,off,rfl,hb,hcell⟩:=hA hp;have n2:¬b=b2:=by
  rintro rfl;have h5:=hcell 0 hp;simp only [World.cell?,h0] at h5;rcases off with _ | _ | _ | off
  ·simp at h5;exact hx _ h5
  ·simp at h5;exact hy _ h5
  ·simp at h5;exact hz _ h5
  ·simp at h5
 have e:(Go.Proofs.YtinbgjcooolbiaaGreatDoor.dyW w b2 x' y' z').heap[b]?=w.heap[b]?:=by
  unfold Go.Proofs.YtinbgjcooolbiaaGreatDoor.dyW;rw [Below.heap_setCell _ _ _ _ n2,Below.heap_setCell _ _ _ _ n2,Below.heap_setCell _ _ _ _ n2]
 refine ⟨b,off,rfl,?_,fun i hi=>?_⟩
 ·unfold Go.Proofs.YtinbgjcooolbiaaGreatDoor.dyW;simpa [World.setCell] using hb
 ·rw [←hcell i hi];simp only [World.cell?,e]
theorem Abr (w:World)(x y z p q r:Value):∃ W,W=(w.alloc (.cells #[x,y,z] 24)).alloc (.cells #[p,q,r] 81) ∧
 Kept w W∧Go.Proofs.YtinbgjcooolbiaaGreatDoor.Blk W w.heap.size x y z∧Blk W (w.heap.size+1) p q r:=by
 refine ⟨_,rfl,(Ad _ _).trans (Ad _ _),Ax (Go.Proofs.YtinbgjcooolbiaaGreatDoor.blk_new _ _ _ _) _,?_⟩;have:=blk_new (w.alloc (.cells #[x,y,z] 24)) p q r;simpa using this
theorem of_c {w:World}{v:Value}{r:Raw}(hv:DyR w v r)(hl:r.m.length≤100000) :
 Calls Tryz.prog 84 #[v] w (RetN r.neg (Go.Proofs.YtinbgjcooolbiaaGreatDoor.val r.m) r.e w):=by
 obtain ⟨A,l,c,rfl,-,hs,-,-⟩:=hv.shape;have C:=hid (fun w1 (k:Kept w w1)=>Ab1 (hs.kept k) hl);clear hv hs hl;generalize Go.Proofs.YtinbgjcooolbiaaGreatDoor.val r.m=n at *;generalize r.neg=b at *;generalize r.e=e at *;obtain ⟨W,hW,kW,BA,BB⟩:=Abr w (.bool b) (.slice A l c) (.int .i64 e) (.bool false) (.slice none 0 0) (.int .i64 0);have HW:=hid hW;have K:=hid kW;have HA:=hid BA;have HB:=hid BB;clear hW kW BA BB;go_enter Tryz.func84,Tryz.ntmps84;go_wp2_with fail;rw [←HW.out]
 refine Pk 8 ([(vP w.heap.size 0),(vE (.bool b)),(vP w.heap.size 1),(vE (.slice A l c)),(fun v wv=>Lim wv v (limbs n)),(vP w.heap.size 2),(vE (.int .i64 e)),(fun v wv=>DN wv v b n e)])
  (hM:=⟨⟨mE,mE,mE,mE,fun v w w' k h=>Lim.kept h k,mE,mE,fun v w w' k h=>by first | exact h | exact h.kept k | exact ⟨h.1,h.2.kept k⟩,trivial⟩⟩) ⟨
    (gq 1),(gvl 0 3 fun _ k=>Af HA.out k 0 _ rfl),(gq 1),(gvl 2 5 fun _ k=>Af HA.out k 1 _ rfl),(fun aF wF F=>by have s6:=F.v 3 6;exact Ao (by simp [Region.wanted]) (by go_simp) (C.out _ (K.out.trans F.kept)) (fun _ _ h=>(RetLim.good h)) (fun _ _ h=>h)),(gq 1),(gvl 5 8 fun _ k=>Af HA.out k 2 _ rfl),(fun aF wF F=>by have s4:=F.v 1 4;have s7:=F.p 4 7;have s9:=F.v 6 9;simp only [Array.getD_eq_getD_getElem?] at s4;simp only [Array.getD_eq_getD_getElem?] at s9;obtain ⟨X1,X2,ee⟩:=s7.shape;rw [ee] at s7;simp only [Array.getD_eq_getD_getElem?] at ee;exact sv ⟨_,_,_,rfl,s7⟩),
    trivial⟩ ?_
 intro u w1 k1 hu;have p7:=hp hu 4;have p10:=hp hu 7;simp only [Av,Am,if_true,Act.put,zlA,zlB,zlC,zlD,zlE,zlF,zlG,hv hu 0,hv hu 1,hv hu 2,hv hu 3,hv hu 5,hv hu 6];clear hu;generalize u 4=v7,u 7=v10 at *;obtain ⟨A1,l1,c1,rfl,z1⟩:=p10;have hx:=HB.out.kept k1;obtain ⟨-,x0,x1,x2,f0,f1,f2⟩:=hx.facts;clear p7;have Z:=hid z1;have HX:=hid hx;have KK:=hid (K.out.trans k1);clear z1 hx k1;go_wp2_with fail;exact ret_n (HX.out.laid _ _ _) rfl rfl rfl ⟨Al KK.out (by omega),_,rfl,_,_,_,rfl,Z.out.dyW HX.out (by simp) (by simp) (by simp)⟩
end Dg
end Go.Proofs.YtinbgjcooolbiaaGreatDoor
