/- Words and contracts, part 18. -/
import Derived.Test.YtabjjdicffcolaaGreatDoorClaimJrootp17
set_option maxRecDepth 100000
set_option maxHeartbeats 0
namespace Go.Proofs.YtabjjdicffcolaaGreatDoor
open Go.Lib (hid)
open Go.RowKit
theorem Dx {x:Dy}(h:x.Ok):x.raw.m.length≤64:=h.len
theorem Alq {w:World}{va vb:Value}{x y:Dy}(ha:DyR w va x.raw)(hb:DyR w vb y.raw)(hx:x.Ok)(hy:y.Ok)(hT:Tab w) :
 Calls Tryz.prog 177 #[va,vb] w (Goes 129 (Dz x y).raw w):=by
 by_cases hx0:x.m=0
 ·unfold Dz;rw [if_pos hx0,show (good y).raw=⟨y.raw,0⟩ from rfl];have hc:=fun w1 (k:Kept w w1)=>St (hb.kept k) (by have:=Dx hy;omega)
  obtain ⟨A,l,c,rfl,hl,-,-,-⟩:=ha.shape;obtain ⟨A2,l2,c2,rfl,-,-,g1,g2⟩:=hb.shape;have hl0:l=0:=by rw [hl];simp only [Dy.raw];rw [hx0,Ay];rfl
  subst hl0;have HC:=hid hc;clear hc hl ha hb hx hx0 hT hy;generalize hn:x.raw.neg=n1 at *;generalize x.raw.e=e1 at *;clear hn;generalize y.raw=r at *;obtain ⟨W,hW,kW,B0,B1,B2⟩:=It w (.bool n1) (.slice A 0 c) (.int .i64 e1) (.bool r.neg) (.slice A2 l2 c2) (.int .i64 r.e);have HW:=hid hW;have HK:=hid kW;have HB:=hid B2;clear hW kW B0 B1 B2;go_enter Tryz.func177,Tryz.ntmps177
  go_wp2_with (go_at_call 181;rw [←HW.out];refine (HC.out _ HK.out).mono ?_;rintro e w1 ⟨q,u,rfl,hd⟩;obtain ⟨A',l',c',rfl,-,hd,g3,g4⟩:=hd.shape;have HD:=hid hd;have hb2:=HB.out.kept q;obtain ⟨_,c0,c1,c2,f0,f1,f2⟩:=hb2.facts;have HB2:=hid hb2;clear hd hb2)
  exact By (HB2.out.laid _ _ _) rfl rfl rfl ⟨Am (HK.out.trans q) (by omega),.inl ⟨rfl,_,rfl,(HD.out.dyW HB2.out (Ag _) (Ae _ _ _) (Ah _)).dyR g3 g4⟩⟩
 ·by_cases hy0:y.m=0
  ·unfold Dz;rw [if_neg hx0,if_pos hy0,show (good x).raw=⟨x.raw,0⟩ from rfl];have hc:=fun w1 (k:Kept w w1)=>St (ha.kept k) (by have:=Dx hx;omega)
   obtain ⟨A,l,c,rfl,hl1,-,-,-⟩:=ha.shape;obtain ⟨A2,l2,c2,rfl,hl,-,g1,g2⟩:=hb.shape;have hl0:l2=0:=by rw [hl];simp only [Dy.raw];rw [hy0,Ay];rfl
   subst hl0;have l0:((l:Int)==0)=false:=by have:=Bj x.m hx0;rw [beq_eq_false_iff_ne,hl1];simp only [Dy.raw];omega
   have HC:=hid hc;clear hc hl hl1 ha hb hx hx0 hT hy hy0;generalize hn:y.raw.neg=n2 at *;generalize y.raw.e=e2 at *;clear hn;generalize x.raw=r at *;obtain ⟨W,hW,kW,B0,B1,B2⟩:=It w (.bool r.neg) (.slice A l c) (.int .i64 r.e) (.bool n2) (.slice A2 0 c2) (.int .i64 e2);have HW:=hid hW;have HK:=hid kW;have HB:=hid B2;clear hW kW B0 B1 B2;go_enter Tryz.func177,Tryz.ntmps177
   go_wp2_with (go_at_call 181;rw [←HW.out];refine (HC.out _ HK.out).mono ?_;rintro e w1 ⟨q,u,rfl,hd⟩;obtain ⟨A',l',c',rfl,-,hd,g3,g4⟩:=hd.shape;have HD:=hid hd;have hb2:=HB.out.kept q;obtain ⟨_,c0,c1,c2,f0,f1,f2⟩:=hb2.facts;have HB2:=hid hb2;clear hd hb2)
   exact By (HB2.out.laid _ _ _) rfl rfl rfl ⟨Am (HK.out.trans q) (by omega),.inl ⟨rfl,_,rfl,(HD.out.dyW HB2.out (Ag _) (Ae _ _ _) (Ah _)).dyR g3 g4⟩⟩
  ·exact Ah7 ha hb hx hy hT hx0 hy0
theorem Ps (d:Dy)(h:d.Ok):Ajx d.raw=(D5 d).raw:=by
 unfold Ajx D5;by_cases h0:d.m=0
 ·rw [if_pos h0,if_neg];rintro ⟨_,h1⟩;simp only [Dy.raw] at h1;rw [h0,Ay] at h1;exact absurd h1 (Nat.lt_irrefl 0)
 ·rw [if_neg h0,if_pos ⟨h.may,Bj d.m h0⟩];rfl
theorem Ank {w:World}{va vb:Value}{x y:Dy}(ha:DyR w va x.raw)(hb:DyR w vb y.raw)(hx:x.Ok)(hy:y.Ok)(hT:Tab w) :
 Calls Tryz.prog 178 #[va,vb] w (Goes 129 (Dz x (D5 y)).raw w):=by
 have hn:=fun w1 (k:Kept w w1)=>Wv (hb.kept k) (by have:=Dx hy;omega)
 rw [Ps y hy] at hn;have hs:=fun w1 u (k:Kept w w1) (hu:DyR w1 u (D5 y).raw)=>Alq (ha.kept k) hu hx (Hh hy) (hT.kept k)
 obtain ⟨A,l,c,rfl,-,-,-,-⟩:=ha.shape;obtain ⟨A2,l2,c2,rfl,-,-,-,-⟩:=hb.shape;have HN:=hid hn;have HS:=hid hs;clear hn hs ha hb hx hy hT;generalize x.raw.neg=n1 at *;generalize x.raw.e=e1 at *;generalize y.raw.neg=n2 at *;generalize y.raw.e=e2 at *;generalize (D5 y).raw=r at *;generalize Dz x (D5 y)=o at *;obtain ⟨W,hW,kW,B0,B1,B2⟩:=It w (.bool n1) (.slice A l c) (.int .i64 e1) (.bool n2) (.slice A2 l2 c2) (.int .i64 e2);have HW:=hid hW;have HK:=hid kW;have HB0:=hid B0;have HB1:=hid B1;have HB2:=hid B2;clear hW kW B0 B1 B2;go_enter Tryz.func178,Tryz.ntmps178;go_wp2_with fail;rw [←HW.out]
 refine Ha 4 ([(vE (.agg #[.bool n1,.slice A l c,.int .i64 e1])),(vE (.agg #[.bool n2,.slice A2 l2 c2,.int .i64 e2])),(fun v wv=>DyR wv v r),(fun v wv=>o.raw.k=0∧DyR wv v o.raw.v)])
  ⟨
   (gql 2 fun _ k=>c3 HB0.out k),(gql 3 fun _ k=>c3 HB1.out k),(fun aF wF F=>by have s6:=F.v 1 6;exact sD (HN.out _ (HK.out.trans F.kept)) fun _ _ h=>h),(fun aF wF F=>by have s5:=F.v 0 5;have s7:=F.p 2 7;exact sG (HS.out _ _ (HK.out.trans F.kept) s7) (fun _ _ _ h0 h=>⟨h0,h⟩) (fun w2 k2 h0=>⟨F.defers,⟨HK.out.trans (F.kept.trans k2),.inr ⟨h0,rfl⟩⟩⟩)),
   trivial⟩ ?_
 intro u w1 k1 hu;have p7:=hp hu 2;have p8:=hp hu 3;simp only [Av,An,if_true,Act.put,zlA,zlB,zlC,zlD,zlE,zlF,zlG,hv hu 0,hv hu 1];clear hu;generalize u 2=v7,u 3=v8 at *;obtain ⟨h0,hd⟩:=p8;obtain ⟨A',l',c',rfl,hd,g1,g2⟩:=D4 hd;have hb:=HB2.out.kept k1;obtain ⟨_,c0,c1,c2,f0,f1,f2⟩:=hb.facts;have HD:=hid hd;have H0:=hid h0;have HB:=hid hb;have K1:=hid k1;clear hd h0 hb k1 p7;go_simp;go_wp2_with fail;exact By (HB.out.laid _ _ _) rfl rfl rfl ⟨Am (HK.out.trans K1.out) (by omega),.inl ⟨H0.out,_,rfl,(HD.out.dyW HB.out (Ag _) (Ae _ _ _) (Ah _)).dyR g1 g2⟩⟩
theorem Ab6 {w:World}{va vb:Value}{x y:Dy}(ha:DyR w va x.raw)(hb:DyR w vb y.raw)(hx:x.Ok)(hy:y.Ok)(hT:Tab w) :
 Calls Tryz.prog 133 #[va,vb] w (RetE (Dz x y).raw w):=by
 have hf:=fun w1 (k:Kept w w1)=>Aic (K:=177) (o:=(Dz x y).raw) (ha.kept k) (hb.kept k) (by have:=Dx hx;omega) (by have:=Dx hy;omega)
  (fun W k1 _ _=>Alq (ha.kept (k.trans k1)) (hb.kept (k.trans k1)) hx hy (hT.kept (k.trans k1)))
  (fun h=>by have:=J6 hx hy;show ((Dz x y).v).raw=rz;rw [this.2 h,E5]) (fun _=>rfl)
 have e:Qz x.raw y.raw (Dz x y).raw=(Dz x y).raw:=by unfold Qz;rw [hx.may,hy.may];rfl
 rw [e] at hf;obtain ⟨A,l,c,rfl,-,-,-,-⟩:=ha.shape;obtain ⟨A2,l2,c2,rfl,-,-,-,-⟩:=hb.shape;have HF:=hid hf;clear hf ha hb hx hy hT e;generalize (Dz x y).raw=o at *;generalize x.raw.neg=n1 at *;generalize x.raw.e=e1 at *;generalize y.raw.neg=n2 at *;generalize y.raw.e=e2 at *;obtain ⟨W,hW,kW,B0,B1,B2⟩:=It w (.bool n1) (.slice A l c) (.int .i64 e1) (.bool n2) (.slice A2 l2 c2) (.int .i64 e2);have HW:=hid hW;have HK:=hid kW;have HB:=hid B2;clear hW kW B0 B1 B2;go_enter Tryz.func133,Tryz.ntmps133
 go_wp2_with (go_at_call 176;rw [←HW.out];refine (HF.out _ HK.out).mono ?_;rintro e w1 ⟨q,u,rfl,hd⟩;obtain ⟨A',l',c',rfl,-,hd,g3,g4⟩:=hd.shape;have HD:=hid hd;have hb2:=HB.out.kept q;obtain ⟨_,c0,c1,c2,f0,f1,f2⟩:=hb2.facts;have HB2:=hid hb2;clear hd hb2)
 exact D7 (HB2.out.laid _ _ _) rfl rfl rfl ⟨Am (HK.out.trans q) (by omega),_,rfl,(HD.out.dyW HB2.out (Ag _) (Ae _ _ _) (Ah _)).dyR g3 g4⟩
theorem Alf {w:World}{va vb:Value}{x y:Dy}(ha:DyR w va x.raw)(hb:DyR w vb y.raw)(hx:x.Ok)(hy:y.Ok)(hT:Tab w) :
 Calls Tryz.prog 135 #[va,vb] w (RetE (Dz x (D5 y)).raw w):=by
 have hf:=fun w1 (k:Kept w w1)=>Aic (K:=178) (o:=(Dz x (D5 y)).raw) (ha.kept k) (hb.kept k) (by have:=Dx hx;omega) (by have:=Dx hy;omega)
  (fun W k1 _ _=>Ank (ha.kept (k.trans k1)) (hb.kept (k.trans k1)) hx hy (hT.kept (k.trans k1)))
  (fun h=>by have:=J6 hx (Hh hy);show ((Dz x (D5 y)).v).raw=rz;rw [this.2 h,E5]) (fun _=>rfl)
 have e:Qz x.raw y.raw (Dz x (D5 y)).raw=(Dz x (D5 y)).raw:=by unfold Qz;rw [hx.may,hy.may];rfl
 rw [e] at hf;obtain ⟨A,l,c,rfl,-,-,-,-⟩:=ha.shape;obtain ⟨A2,l2,c2,rfl,-,-,-,-⟩:=hb.shape;have HF:=hid hf;clear hf ha hb hx hy hT e;generalize (Dz x (D5 y)).raw=o at *;generalize x.raw.neg=n1 at *;generalize x.raw.e=e1 at *;generalize y.raw.neg=n2 at *;generalize y.raw.e=e2 at *;obtain ⟨W,hW,kW,B0,B1,B2⟩:=It w (.bool n1) (.slice A l c) (.int .i64 e1) (.bool n2) (.slice A2 l2 c2) (.int .i64 e2);have HW:=hid hW;have HK:=hid kW;have HB:=hid B2;clear hW kW B0 B1 B2;go_enter Tryz.func135,Tryz.ntmps135
 go_wp2_with (go_at_call 176;rw [←HW.out];refine (HF.out _ HK.out).mono ?_;rintro e w1 ⟨q,u,rfl,hd⟩;obtain ⟨A',l',c',rfl,-,hd,g3,g4⟩:=hd.shape;have HD:=hid hd;have hb2:=HB.out.kept q;obtain ⟨_,c0,c1,c2,f0,f1,f2⟩:=hb2.facts;have HB2:=hid hb2;clear hd hb2)
 exact D7 (HB2.out.laid _ _ _) rfl rfl rfl ⟨Am (HK.out.trans q) (by omega),_,rfl,(HD.out.dyW HB2.out (Ag _) (Ae _ _ _) (Ah _)).dyR g3 g4⟩
theorem Q6 {w:World}{va vb:Value}{x y:Dy}(ha:DyR w va x.raw)(hb:DyR w vb y.raw)(hx:x.Ok)(hy:y.Ok)(hT:Tab w) :
 Calls Tryz.prog 137 #[va,vb] w (RetE (Bq x y).raw w):=by
 have hf:=fun w1 (k:Kept w w1)=>Aic (K:=179) (o:=(Bq x y).raw) (ha.kept k) (hb.kept k) (by have:=Dx hx;omega) (by have:=Dx hy;omega)
  (fun W k1 _ _=>Amu (ha.kept (k.trans k1)) (hb.kept (k.trans k1)) hx hy (hT.kept (k.trans k1)))
  (fun h=>by have:=Jd x y;show ((Bq x y).v).raw=rz;rw [this.2 h,E5]) (fun _=>rfl)
 have e:Qz x.raw y.raw (Bq x y).raw=(Bq x y).raw:=by unfold Qz;rw [hx.may,hy.may];rfl
 rw [e] at hf;obtain ⟨A,l,c,rfl,-,-,-,-⟩:=ha.shape;obtain ⟨A2,l2,c2,rfl,-,-,-,-⟩:=hb.shape;have HF:=hid hf;clear hf ha hb hx hy hT e;generalize (Bq x y).raw=o at *;generalize x.raw.neg=n1 at *;generalize x.raw.e=e1 at *;generalize y.raw.neg=n2 at *;generalize y.raw.e=e2 at *;obtain ⟨W,hW,kW,B0,B1,B2⟩:=It w (.bool n1) (.slice A l c) (.int .i64 e1) (.bool n2) (.slice A2 l2 c2) (.int .i64 e2);have HW:=hid hW;have HK:=hid kW;have HB:=hid B2;clear hW kW B0 B1 B2;go_enter Tryz.func137,Tryz.ntmps137
 go_wp2_with (go_at_call 176;rw [←HW.out];refine (HF.out _ HK.out).mono ?_;rintro e w1 ⟨q,u,rfl,hd⟩;obtain ⟨A',l',c',rfl,-,hd,g3,g4⟩:=hd.shape;have HD:=hid hd;have hb2:=HB.out.kept q;obtain ⟨_,c0,c1,c2,f0,f1,f2⟩:=hb2.facts;have HB2:=hid hb2;clear hd hb2)
 exact D7 (HB2.out.laid _ _ _) rfl rfl rfl ⟨Am (HK.out.trans q) (by omega),_,rfl,(HD.out.dyW HB2.out (Ag _) (Ae _ _ _) (Ah _)).dyR g3 g4⟩
theorem Wo (w:World)(x y z x' y' z':Value):∃ W,W=(w.alloc (.cells #[x,y,z] 28)).alloc (.cells #[x',y',z'] 28) ∧
 Kept w W∧Blk W w.heap.size x y z∧Blk W (w.heap.size+1) x' y' z' :=
 ⟨_,rfl,(Ad _ _).trans (Ad _ _),Be (Bk _ _ _ _) _,Dt _ _ _ _ _⟩
theorem Aiz {w:World}{va vb:Value}{x y:Dy}(ha:DyR w va x.raw)(hb:DyR w vb y.raw)(hx:x.Ok)(hy:y.Ok)(hx0:x.m≠0)(hy0:y.m≠0) :
 Calls Tryz.prog 77 #[va,vb] w (RetK (.int .i64 (Mc x y)) w):=by
 obtain ⟨A,l,c,rfl,-,ha,-,-⟩:=ha.shape;obtain ⟨A2,l2,c2,rfl,-,hb,-,-⟩:=hb.shape;have hs1:=fun w1 (k:Kept w w1)=>Lz (ha.kept k) (by have:=hx.len;omega)
 have hs2:=fun w1 (k:Kept w w1)=>Lz (hb.kept k) (by have:=hy.len;omega)
 have bx:=Df x.m 64 hx.len;have bY:=Df y.m 64 hy.len;have x1:=hx.lo;have x2:=hx.hi;have y1:=hy.lo;have y2:=hy.hi;obtain ⟨j1,hj1⟩:∃ j:Nat,x.e-min x.e y.e=j:=⟨(x.e-min x.e y.e).toNat,by omega⟩;obtain ⟨j2,hj2⟩:∃ j:Nat,y.e-min x.e y.e=j:=⟨(y.e-min x.e y.e).toNat,by omega⟩;have b1:j1≤2097152:=by omega
 have b2:j2≤2097152:=by omega
 have hl1:=fun w1 (k:Kept w w1)=>Mp (ha.kept k) j1 (by have:=hx.len;omega) (by omega)
 have hl2:=fun w1 (k:Kept w w1)=>Mp (hb.kept k) j2 (by have:=hy.len;omega) (by omega)
 have lx:(Aj (x.m*2^j1)).length≤40000:=Dc _ _ (by rw [Hq _ _ hx0];omega);have ly:(Aj (y.m*2^j2)).length≤40000:=Dc _ _ (by rw [Hq _ _ hy0];omega);have ho:=fun w1 v u (h1:Lim w1 v (Aj (x.m*2^j1))) (h2:Lim w1 u (Aj (y.m*2^j2)))=>Lu h1 h2 (by omega) (by omega)
 have hwx:IntKind.i64.wrap ((bl x.m:Int)+x.e)=(bl x.m:Int)+x.e:=by simp [IntKind.wrap_i64];omega
 have hwy:IntKind.i64.wrap ((bl y.m:Int)+y.e)=(bl y.m:Int)+y.e:=by simp [IntKind.wrap_i64];omega
 have hw1:IntKind.i64.wrap (x.e-min x.e y.e)=(j1:Int):=by rw [hj1];simp [IntKind.wrap_i64];omega
 have hw2:IntKind.i64.wrap (y.e-min x.e y.e)=(j2:Int):=by rw [hj2];simp [IntKind.wrap_i64];omega
 have hD:Mc x y=if (bl x.m:Int)+x.e<bl y.m+y.e then -1 else if (bl y.m:Int)+y.e<bl x.m+x.e then 1 else E4 (x.m*2^j1) (y.m*2^j2):=by
  unfold Mc;rw [hj1,hj2];rfl
 have HD:=hid hD;have H1:=hid hs1;have H2:=hid hs2;have L1:=hid hl1;have L2:=hid hl2;have HO:=hid ho;clear hD hs1 hs2 hl1 hl2 ho lx ly ha hb bx bY x1 x2 y1 y2 hx hy hx0 hy0 b1 b2 hj1 hj2;generalize Aj (x.m*2^j1)=xs at *;generalize Aj (y.m*2^j2)=ys at *;generalize E4 (x.m*2^j1) (y.m*2^j2)=cc at *;obtain ⟨sx,hsx⟩:∃ sx,(bl x.m:Int)+x.e=sx:=⟨_,rfl⟩;obtain ⟨sy,hsy⟩:∃ sy,(bl y.m:Int)+y.e=sy:=⟨_,rfl⟩;rw [hsx,hsy] at HD;rw [hsx] at hwx;rw [hsy] at hwy;have HX:=hid hsx;have HY:=hid hsy;clear hsx hsy;obtain ⟨lo,hlo⟩:∃ lo,min x.e y.e=lo:=⟨_,rfl⟩;rw [hlo] at hw1 hw2;have HL:=hid hlo;clear hlo;generalize bl x.m=bx at *
 generalize bl y.m=bY at *;have hsz:=HD.out;generalize Mc x y=res at *;simp only [Dy.raw] at *;generalize x.neg=n1 at *;generalize x.e=e1 at *;generalize y.neg=n2 at *;generalize y.e=e2 at *;clear HD;obtain ⟨W,hW,kW,B0,B1⟩:=Wo w (.bool n1) (.slice A l c) (.int .i64 e1) (.bool n2) (.slice A2 l2 c2) (.int .i64 e2);have HW:=hid hW;have HK:=hid kW;have HB0:=hid B0;have HB1':=hid B1;clear hW kW B0 B1;by_cases h1:sx<sy
 ·rw [if_pos h1] at hsz;subst hsz;have d1:decide (sx<sy)=true:=by simp [h1]
  clear h1;go_enter Tryz.func77,Tryz.ntmps77;go_wp2_with fail;rw [←HW.out]
  refine rgL 14 ([(vP w.heap.size 1),(vE (.slice A l c)),(vE (.int .i64 bx)),(vP w.heap.size 2),(vE (.int .i64 e1)),(vE (.int .i64 sx)),(vP (w.heap.size+1) 1),(vE (.slice A2 l2 c2)),(vE (.int .i64 bY)),(vP (w.heap.size+1) 2),(vE (.int .i64 e2)),(vE (.int .i64 sy)),(vE (.int .i64 sx)),(vE (.int .i64 sy))])
   ⟨
    (gq 2),(gvl 0 8 fun _ k=>Ai HB0.out k 1 _ rfl),(fun aF wF F=>by have s9:=F.v 1 9;exact sQ (H1.out _ (HK.out.trans F.kept)) fun _ _ h=>h),(gq 2),(gvl 3 11 fun _ k=>Ai HB0.out k 2 _ rfl),(fun aF wF F=>by have s10:=F.v 2 10;have s12:=F.v 4 12;exact sw (by have:=HX.out;go_simp) rfl),(gq 3),(gvl 6 14 fun _ k=>Ai HB1'.out k 1 _ rfl),(fun aF wF F=>by have s15:=F.v 7 15;exact sQ (H2.out _ (HK.out.trans F.kept)) fun _ _ h=>h),(gq 3),(gvl 9 17 fun _ k=>Ai HB1'.out k 2 _ rfl),(fun aF wF F=>by have s16:=F.v 8 16;have s18:=F.v 10 18;exact sw (by have:=HY.out;go_simp) rfl),(gv 5 13),(gv 11 19),
    trivial⟩ ?_
  intro u w1 k1 hu;simp only [Av,An,if_true,Act.put,zlA,zlB,zlC,zlD,zlE,zlF,zlG,hv hu 0,hv hu 1,hv hu 2,hv hu 3,hv hu 4,hv hu 5,hv hu 6,hv hu 7,hv hu 8,hv hu 9,hv hu 10,hv hu 11,hv hu 12,hv hu 13];clear hu;go_wp2_with fail;go_ret;exact ⟨rfl,HK.out.trans k1⟩
 ·rw [if_neg h1] at hsz;have d1:decide (sx<sy)=false:=by simp;omega
  clear h1;by_cases h2:sy<sx
  ·rw [if_pos h2] at hsz;subst hsz;have d2:decide (sy<sx)=true:=by simp [h2]
   clear h2;go_enter Tryz.func77,Tryz.ntmps77;go_wp2_with fail;rw [←HW.out]
   refine rgL 14 ([(vP w.heap.size 1),(vE (.slice A l c)),(vE (.int .i64 bx)),(vP w.heap.size 2),(vE (.int .i64 e1)),(vE (.int .i64 sx)),(vP (w.heap.size+1) 1),(vE (.slice A2 l2 c2)),(vE (.int .i64 bY)),(vP (w.heap.size+1) 2),(vE (.int .i64 e2)),(vE (.int .i64 sy)),(vE (.int .i64 sx)),(vE (.int .i64 sy))])
    ⟨
     (gq 2),(gvl 0 8 fun _ k=>Ai HB0.out k 1 _ rfl),(fun aF wF F=>by have s9:=F.v 1 9;exact sQ (H1.out _ (HK.out.trans F.kept)) fun _ _ h=>h),(gq 2),(gvl 3 11 fun _ k=>Ai HB0.out k 2 _ rfl),(fun aF wF F=>by have s10:=F.v 2 10;have s12:=F.v 4 12;exact sw (by have:=HX.out;go_simp) rfl),(gq 3),(gvl 6 14 fun _ k=>Ai HB1'.out k 1 _ rfl),(fun aF wF F=>by have s15:=F.v 7 15;exact sQ (H2.out _ (HK.out.trans F.kept)) fun _ _ h=>h),(gq 3),(gvl 9 17 fun _ k=>Ai HB1'.out k 2 _ rfl),(fun aF wF F=>by have s16:=F.v 8 16;have s18:=F.v 10 18;exact sw (by have:=HY.out;go_simp) rfl),(gv 5 13),(gv 11 19),
     trivial⟩ ?_
   intro u w1 k1 hu;simp only [Av,An,if_true,Act.put,zlA,zlB,zlC,zlD,zlE,zlF,zlG,hv hu 0,hv hu 1,hv hu 2,hv hu 3,hv hu 4,hv hu 5,hv hu 6,hv hu 7,hv hu 8,hv hu 9,hv hu 10,hv hu 11,hv hu 12,hv hu 13];clear hu;go_wp2_with fail;go_ret;exact ⟨rfl,HK.out.trans k1⟩
  ·rw [if_neg h2] at hsz;subst hsz;have d2:decide (sy<sx)=false:=by simp;omega
   clear h2;go_enter Tryz.func77,Tryz.ntmps77;go_wp2_with fail;rw [←HW.out]
   refine rgL 14 ([(vP w.heap.size 1),(vE (.slice A l c)),(vE (.int .i64 bx)),(vP w.heap.size 2),(vE (.int .i64 e1)),(vE (.int .i64 sx)),(vP (w.heap.size+1) 1),(vE (.slice A2 l2 c2)),(vE (.int .i64 bY)),(vP (w.heap.size+1) 2),(vE (.int .i64 e2)),(vE (.int .i64 sy)),(vE (.int .i64 sx)),(vE (.int .i64 sy))])
    ⟨
     (gq 2),(gvl 0 8 fun _ k=>Ai HB0.out k 1 _ rfl),(fun aF wF F=>by have s9:=F.v 1 9;exact sQ (H1.out _ (HK.out.trans F.kept)) fun _ _ h=>h),(gq 2),(gvl 3 11 fun _ k=>Ai HB0.out k 2 _ rfl),(fun aF wF F=>by have s10:=F.v 2 10;have s12:=F.v 4 12;exact sw (by have:=HX.out;go_simp) rfl),(gq 3),(gvl 6 14 fun _ k=>Ai HB1'.out k 1 _ rfl),(fun aF wF F=>by have s15:=F.v 7 15;exact sQ (H2.out _ (HK.out.trans F.kept)) fun _ _ h=>h),(gq 3),(gvl 9 17 fun _ k=>Ai HB1'.out k 2 _ rfl),(fun aF wF F=>by have s16:=F.v 8 16;have s18:=F.v 10 18;exact sw (by have:=HY.out;go_simp) rfl),(gv 5 13),(gv 11 19),
     trivial⟩ ?_
   intro u w1 k1 hu;simp only [Av,An,if_true,Act.put,zlA,zlB,zlC,zlD,zlE,zlF,zlG,hv hu 0,hv hu 1,hv hu 2,hv hu 3,hv hu 4,hv hu 5,hv hu 6,hv hu 7,hv hu 8,hv hu 9,hv hu 10,hv hu 11,hv hu 12,hv hu 13];clear hu;obtain ⟨-,a0,a1,a2,-⟩:=(HB0.out.kept k1).facts;obtain ⟨-,b0,b1,b2,-⟩:=(HB1'.out.kept k1).facts;go_wp2_with fail;rw [HL.out];have K1:=hid k1;clear a0 a1 a2 b0 b1 b2 k1 hwx hwy d1 d2
   refine rgL 16 ([(vP w.heap.size 1),(vE (.slice A l c)),(vP w.heap.size 2),(vE (.int .i64 e1)),(vE (.int .i64 lo)),(vE (.int .i64 j1)),(fun v wv=>Lim wv v (xs)),(vP (w.heap.size+1) 1),(vE (.slice A2 l2 c2)),(vP (w.heap.size+1) 2),(vE (.int .i64 e2)),(vE (.int .i64 lo)),(vE (.int .i64 j2)),(fun v wv=>Lim wv v (ys)),(vE (.int .i64 res)),(vE (.int .i64 res))])
    ⟨
     (gq 2),(gvl 0 33 fun _ k=>Ai (HB0.out.kept K1.out) k 1 _ rfl),(gq 2),(gvl 2 35 fun _ k=>Ai (HB0.out.kept K1.out) k 2 _ rfl),(gq 7),(gvv 3 36 4 37),(fun aF wF F=>by have s34:=F.v 1 34;have s38:=F.v 5 38;exact sL (L1.out _ (HK.out.trans (K1.out.trans F.kept))) fun _ _ h=>h),(gq 3),(gvl 7 40 fun _ k=>Ai (HB1'.out.kept K1.out) k 1 _ rfl),(gq 3),(gvl 9 42 fun _ k=>Ai (HB1'.out.kept K1.out) k 2 _ rfl),(gq 7),(gvv 10 43 11 44),(fun aF wF F=>by have s41:=F.v 8 41;have s45:=F.v 12 45;exact sL (L2.out _ (HK.out.trans (K1.out.trans F.kept))) fun _ _ h=>h),(fun aF wF F=>by have s39:=F.p 6 39;have s46:=F.p 13 46;exact sQ (HO.out _ _ _ s39 s46) fun _ _ h=>h),(gv 14 47),
     trivial⟩ ?_
   intro u w1 k1 hu;have p39:=hp hu 6;have p46:=hp hu 13;simp only [Av,An,if_true,Act.put,zlA,zlB,zlC,zlD,zlE,zlF,zlG,hv hu 0,hv hu 1,hv hu 2,hv hu 3,hv hu 4,hv hu 5,hv hu 7,hv hu 8,hv hu 9,hv hu 10,hv hu 11,hv hu 12,hv hu 14,hv hu 15];clear hu;generalize u 6=v39,u 13=v46 at *;clear p39 p46;go_wp2_with fail;go_ret;exact ⟨rfl,HK.out.trans (K1.out.trans k1)⟩
theorem Ub (d:Dy)(h:d.Ok):Akv d.raw=sg d:=by
 unfold Akv sg;by_cases h0:d.m=0
 ·rw [if_pos h0,if_pos (Or.inr (by simp only [Dy.raw];rw [h0,Ay];rfl))]
 ·rw [if_neg h0,if_neg]
  ·rfl
  ·rintro (h1 | h1)
   ·rw [h.may] at h1;cases h1
   ·have:=Bj d.m h0;simp only [Dy.raw] at h1;omega
theorem Ka {w:World}{va vb:Value}{x y:Dy}(ha:DyR w va x.raw)(hb:DyR w vb y.raw)(hx:x.Ok)(hy:y.Ok) :
 Calls Tryz.prog 40 #[va,vb] w (RetK (.int .i64 (Ci x.q y.q)) w):=by
 have lx:=Dx hx;have ly:=Dx hy;have s1:=fun w1 (k:Kept w w1)=>Wx (ha.kept k) (by omega)
 have s2:=fun w1 (k:Kept w w1)=>Wx (hb.kept k) (by omega)
 have m1:=fun w1 (k:Kept w w1)=>Mr (ha.kept k) (by omega)
 have m2:=fun w1 (k:Kept w w1)=>Mr (hb.kept k) (by omega)
 have hsz:=fun w1 (k:Kept w w1) (h1:x.m≠0) (h2:y.m≠0)=>Aiz (ha.kept k) (hb.kept k) hx hy h1 h2
 rw [Ub x hx] at s1;rw [Ub y hy] at s2;rw [hx.may] at m1;rw [hy.may] at m2;have g1:=@Afp x y;have g2:=@Amc x y;have g3:=@Afq x y;have c1:=Ks x;have c2:=Ks y;have z1:sg x≠0→x.m≠0:=fun h h0=>h (by unfold sg;rw [if_pos h0])
 have z2:sg y≠0→y.m≠0:=fun h h0=>h (by unfold sg;rw [if_pos h0])
 have hsr:Mc x y=-1∨Mc x y=0∨Mc x y=1:=by
  unfold Mc E4;split
  ·exact .inl rfl
  ·split
   ·exact .inr (.inr rfl)
   ·split
    ·exact .inl rfl
    ·split
     ·exact .inr (.inl rfl)
     ·exact .inr (.inr rfl)
 obtain ⟨A,l,c,rfl,-,ha,-,-⟩:=ha.shape;obtain ⟨A2,l2,c2',rfl,-,hb,-,-⟩:=hb.shape;have S1:=hid s1;have S2:=hid s2;have M1:=hid m1;have M2:=hid m2;have HZ:=hid hsz;have G1:=hid g1;have G2:=hid g2;have G3:=hid g3;have Z1:=hid z1;have Z2:=hid z2;have C1:=hid c1;have C2:=hid c2;have HR:=hid hsr;clear s1 s2 m1 m2 hsz g1 g2 g3 z1 z2 c1 c2 hsr ha hb lx ly hx hy;generalize Ci x.q y.q=res at *;simp only [Dy.raw] at *;generalize x.neg=n1 at *;generalize x.e=e1 at *;generalize y.neg=n2 at *;generalize y.e=e2 at *;generalize Mc x y=zz at *;generalize sg x=g at *;generalize sg y=g' at *;obtain ⟨W,hW,kW,B0,B1⟩:=Wo w (.bool n1) (.slice A l c) (.int .i64 e1) (.bool n2) (.slice A2 l2 c2') (.int .i64 e2)
 have HW:=hid hW;have HK:=hid kW;have HB0:=hid B0;have HB1':=hid B1;clear hW kW B0 B1;by_cases h1:g<g'
 ·have hr:=G1.out h1;subst hr;have d1:(g==g')=false:=by rw [beq_eq_false_iff_ne];omega
  have d2:decide (g<g')=true:=by simp [h1]
  clear h1;go_enter Tryz.func40,Tryz.ntmps40;go_wp2_with fail;rw [←HW.out]
  refine rgL 6 ([(vE (.agg #[.bool n1,.slice A l c,.int .i64 e1])),(vE (.int .i64 g)),(vE (.agg #[.bool n2,.slice A2 l2 c2',.int .i64 e2])),(vE (.int .i64 g')),(vE (.int .i64 g)),(vE (.int .i64 g'))])
   ⟨
    (gql 2 fun _ k=>c3 HB0.out k),(fun aF wF F=>by have s7:=F.v 0 7;exact sK (S1.out _ (HK.out.trans F.kept)) fun _ _ h=>h),(gql 3 fun _ k=>c3 HB1'.out k),(fun aF wF F=>by have s9:=F.v 2 9;exact sK (S2.out _ (HK.out.trans F.kept)) fun _ _ h=>h),(gv 1 8),(gv 3 10),
    trivial⟩ ?_
  intro u w1 k1 hu;simp only [Av,An,if_true,Act.put,zlA,zlB,zlC,zlD,zlE,zlF,zlG,hv hu 0,hv hu 1,hv hu 2,hv hu 3,hv hu 4,hv hu 5];clear hu;have KX:=hid k1;obtain ⟨-,a0,a1,a2,-⟩:=(HB0.out.kept k1).facts;obtain ⟨-,b0,b1,b2,-⟩:=(HB1'.out.kept k1).facts;clear k1 u;go_wp2_with fail;refine (M1.out _ (HK.out.trans KX.out)).mono ?_;rintro e w2 ⟨rfl,q⟩;replace KX:=hid (KX.out.trans q);clear a0 a1 a2 b0 b1 b2 q;obtain ⟨-,a0,a1,a2,-⟩:=(HB0.out.kept KX.out).facts;obtain ⟨-,b0,b1,b2,-⟩:=(HB1'.out.kept KX.out).facts;simp only [];go_wp2_with fail;refine (M2.out _ (HK.out.trans KX.out)).mono ?_;rintro e w3 ⟨rfl,q⟩
  replace KX:=hid (KX.out.trans q);clear a0 a1 a2 b0 b1 b2 q;obtain ⟨-,a0,a1,a2,-⟩:=(HB0.out.kept KX.out).facts;obtain ⟨-,b0,b1,b2,-⟩:=(HB1'.out.kept KX.out).facts;simp only [];go_wp2_with fail;go_ret;exact ⟨rfl,HK.out.trans KX.out⟩
 ·have d2:decide (g<g')=false:=by simp;omega
  by_cases h2:g=g'
  ·have hr:=G3.out h2;obtain rfl:=h2;have d1:(g==g)=true:=by rw [beq_iff_eq]
   by_cases h3:g=0
   ·rw [if_pos h3] at hr;subst hr;have d3:(g==0)=true:=by rw [beq_iff_eq];exact h3
    clear h1 h3;go_enter Tryz.func40,Tryz.ntmps40;go_wp2_with fail;rw [←HW.out]
    refine rgL 6 ([(vE (.agg #[.bool n1,.slice A l c,.int .i64 e1])),(vE (.int .i64 g)),(vE (.agg #[.bool n2,.slice A2 l2 c2',.int .i64 e2])),(vE (.int .i64 g)),(vE (.int .i64 g)),(vE (.int .i64 g))])
     ⟨
      (gql 2 fun _ k=>c3 HB0.out k),(fun aF wF F=>by have s7:=F.v 0 7;exact sK (S1.out _ (HK.out.trans F.kept)) fun _ _ h=>h),(gql 3 fun _ k=>c3 HB1'.out k),(fun aF wF F=>by have s9:=F.v 2 9;exact sK (S2.out _ (HK.out.trans F.kept)) fun _ _ h=>h),(gv 1 8),(gv 3 10),
      trivial⟩ ?_
    intro u w1 k1 hu;simp only [Av,An,if_true,Act.put,zlA,zlB,zlC,zlD,zlE,zlF,zlG,hv hu 0,hv hu 1,hv hu 2,hv hu 3,hv hu 4,hv hu 5];clear hu;have KX:=hid k1;obtain ⟨-,a0,a1,a2,-⟩:=(HB0.out.kept k1).facts;obtain ⟨-,b0,b1,b2,-⟩:=(HB1'.out.kept k1).facts;clear k1 u;go_wp2_with fail;refine (M1.out _ (HK.out.trans KX.out)).mono ?_;rintro e w2 ⟨rfl,q⟩;replace KX:=hid (KX.out.trans q);clear a0 a1 a2 b0 b1 b2 q;obtain ⟨-,a0,a1,a2,-⟩:=(HB0.out.kept KX.out).facts;obtain ⟨-,b0,b1,b2,-⟩:=(HB1'.out.kept KX.out).facts;simp only [];go_wp2_with fail;refine (M2.out _ (HK.out.trans KX.out)).mono ?_;rintro e w3 ⟨rfl,q⟩
    replace KX:=hid (KX.out.trans q);clear a0 a1 a2 b0 b1 b2 q;obtain ⟨-,a0,a1,a2,-⟩:=(HB0.out.kept KX.out).facts;obtain ⟨-,b0,b1,b2,-⟩:=(HB1'.out.kept KX.out).facts;simp only [];go_wp2_with fail;go_ret;exact ⟨rfl,HK.out.trans KX.out⟩
   ·rw [if_neg h3] at hr;subst hr;have d3:(g==0)=false:=by rw [beq_eq_false_iff_ne];exact h3
    have hz:=fun w1 k=>HZ.out w1 k (Z1.out h3) (Z2.out h3)
    have hw:wrap64 (g*zz)=g*zz:=by
     rcases C1.out with h | h | h<;>rcases HR.out with h' | h' | h'<;>rw [h,h']<;>first | rfl | decide | simp [wrap64]
    clear HZ;have HZ:=hid hz;clear h1 h3 hz;go_enter Tryz.func40,Tryz.ntmps40;go_wp2_with fail;rw [←HW.out]
    refine rgL 6 ([(vE (.agg #[.bool n1,.slice A l c,.int .i64 e1])),(vE (.int .i64 g)),(vE (.agg #[.bool n2,.slice A2 l2 c2',.int .i64 e2])),(vE (.int .i64 g)),(vE (.int .i64 g)),(vE (.int .i64 g))])
     ⟨
      (gql 2 fun _ k=>c3 HB0.out k),(fun aF wF F=>by have s7:=F.v 0 7;exact sK (S1.out _ (HK.out.trans F.kept)) fun _ _ h=>h),(gql 3 fun _ k=>c3 HB1'.out k),(fun aF wF F=>by have s9:=F.v 2 9;exact sK (S2.out _ (HK.out.trans F.kept)) fun _ _ h=>h),(gv 1 8),(gv 3 10),
      trivial⟩ ?_
    intro u w1 k1 hu;simp only [Av,An,if_true,Act.put,zlA,zlB,zlC,zlD,zlE,zlF,zlG,hv hu 0,hv hu 1,hv hu 2,hv hu 3,hv hu 4,hv hu 5];clear hu;have KX:=hid k1;obtain ⟨-,a0,a1,a2,-⟩:=(HB0.out.kept k1).facts;obtain ⟨-,b0,b1,b2,-⟩:=(HB1'.out.kept k1).facts;clear k1 u;go_wp2_with fail;refine (M1.out _ (HK.out.trans KX.out)).mono ?_;rintro e w2 ⟨rfl,q⟩;replace KX:=hid (KX.out.trans q);clear a0 a1 a2 b0 b1 b2 q;obtain ⟨-,a0,a1,a2,-⟩:=(HB0.out.kept KX.out).facts;obtain ⟨-,b0,b1,b2,-⟩:=(HB1'.out.kept KX.out).facts;simp only [];go_wp2_with fail;refine (M2.out _ (HK.out.trans KX.out)).mono ?_;rintro e w3 ⟨rfl,q⟩
    replace KX:=hid (KX.out.trans q);clear a0 a1 a2 b0 b1 b2 q;obtain ⟨-,a0,a1,a2,-⟩:=(HB0.out.kept KX.out).facts;obtain ⟨-,b0,b1,b2,-⟩:=(HB1'.out.kept KX.out).facts;simp only []
    go_wp2_with (go_at_call 77;refine (HZ.out _ (HK.out.trans KX.out)).mono ?_;rintro e w2 ⟨rfl,q⟩;have KY:=hid (KX.out.trans q))
    go_ret;exact ⟨show Ending.returned (.int .i64 (wrap64 (g*zz)))=_ from by rw [hw],HK.out.trans KY.out⟩
  ·have hr:=G2.out (by omega);subst hr;have d1:(g==g')=false:=by rw [beq_eq_false_iff_ne];exact h2
   clear h1 h2;go_enter Tryz.func40,Tryz.ntmps40;go_wp2_with fail;rw [←HW.out]
   refine rgL 6 ([(vE (.agg #[.bool n1,.slice A l c,.int .i64 e1])),(vE (.int .i64 g)),(vE (.agg #[.bool n2,.slice A2 l2 c2',.int .i64 e2])),(vE (.int .i64 g')),(vE (.int .i64 g)),(vE (.int .i64 g'))])
    ⟨
     (gql 2 fun _ k=>c3 HB0.out k),(fun aF wF F=>by have s7:=F.v 0 7;exact sK (S1.out _ (HK.out.trans F.kept)) fun _ _ h=>h),(gql 3 fun _ k=>c3 HB1'.out k),(fun aF wF F=>by have s9:=F.v 2 9;exact sK (S2.out _ (HK.out.trans F.kept)) fun _ _ h=>h),(gv 1 8),(gv 3 10),
     trivial⟩ ?_
   intro u w1 k1 hu;simp only [Av,An,if_true,Act.put,zlA,zlB,zlC,zlD,zlE,zlF,zlG,hv hu 0,hv hu 1,hv hu 2,hv hu 3,hv hu 4,hv hu 5];clear hu;have KX:=hid k1;obtain ⟨-,a0,a1,a2,-⟩:=(HB0.out.kept k1).facts;obtain ⟨-,b0,b1,b2,-⟩:=(HB1'.out.kept k1).facts;clear k1 u;go_wp2_with fail;refine (M1.out _ (HK.out.trans KX.out)).mono ?_;rintro e w2 ⟨rfl,q⟩;replace KX:=hid (KX.out.trans q);clear a0 a1 a2 b0 b1 b2 q;obtain ⟨-,a0,a1,a2,-⟩:=(HB0.out.kept KX.out).facts;obtain ⟨-,b0,b1,b2,-⟩:=(HB1'.out.kept KX.out).facts;simp only [];go_wp2_with fail;refine (M2.out _ (HK.out.trans KX.out)).mono ?_;rintro e w3 ⟨rfl,q⟩
   replace KX:=hid (KX.out.trans q);clear a0 a1 a2 b0 b1 b2 q;obtain ⟨-,a0,a1,a2,-⟩:=(HB0.out.kept KX.out).facts;obtain ⟨-,b0,b1,b2,-⟩:=(HB1'.out.kept KX.out).facts;simp only [];go_wp2_with fail;go_ret;exact ⟨rfl,HK.out.trans KX.out⟩
end Go.Proofs.YtabjjdicffcolaaGreatDoor
