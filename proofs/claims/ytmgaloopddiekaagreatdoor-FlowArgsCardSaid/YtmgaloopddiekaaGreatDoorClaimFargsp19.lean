/- Words and contracts, part 19. -/
import Derived.Test.YtmgaloopddiekaaGreatDoorClaimFargsp18
set_option maxRecDepth 100000
set_option maxHeartbeats 0
namespace Go.Proofs.YtmgaloopddiekaaGreatDoor
open Go.Lib (hid)
open Go.RowKit
theorem Ds {x:Dy}(h:x.Ok):x.raw.m.length≤64:=h.len
theorem Ahb {w:World}{va vb:Value}{x y:Dy}(ha:DyR w va x.raw)(hb:DyR w vb y.raw)(hx:x.Ok)(hy:y.Ok)(hT:Tab w) :
 Calls Tryz.prog 99 #[va,vb] w (Goes 155 (Du x y).raw w):=by
 by_cases hx0:x.m=0
 ·unfold Du;rw [if_pos hx0,show (good y).raw=⟨y.raw,0⟩ from rfl];have hc:=fun w1 (k:Kept w w1)=>Pg (hb.kept k) (by have:=Ds hy;omega)
  obtain ⟨A,l,c,rfl,hl,-,-,-⟩:=ha.shape;obtain ⟨A2,l2,c2,rfl,-,-,g1,g2⟩:=hb.shape;have hl0:l=0:=by rw [hl];simp only [Dy.raw];rw [hx0,Bd];rfl
  subst hl0;have HC:=hid hc;clear hc hl ha hb hx hx0 hT hy;generalize hn:x.raw.neg=n1 at *;generalize x.raw.e=e1 at *;clear hn;generalize y.raw=r at *;obtain ⟨W,hW,kW,B0,B1,B2⟩:=Ie w (.bool n1) (.slice A 0 c) (.int .i64 e1) (.bool r.neg) (.slice A2 l2 c2) (.int .i64 r.e);have HW:=hid hW;have HK:=hid kW;have HB:=hid B2;clear hW kW B0 B1 B2;go_enter Tryz.func99,Tryz.ntmps99
  go_wp2_with (go_at_call 134;rw [←HW.out];refine (HC.out _ HK.out).mono ?_;rintro e w1 ⟨q,u,rfl,hd⟩;obtain ⟨A',l',c',rfl,-,hd,g3,g4⟩:=hd.shape;have HD:=hid hd;have hb2:=HB.out.kept q;obtain ⟨_,c0,c1,c2,f0,f1,f2⟩:=hb2.facts;have HB2:=hid hb2;clear hd hb2)
  exact Co (HB2.out.laid _ _ _) rfl rfl rfl ⟨Bj (HK.out.trans q) (by omega),.inl ⟨rfl,_,rfl,(HD.out.dyW HB2.out (An _) (Ak _ _ _) (Aq _)).dyR g3 g4⟩⟩
 ·by_cases hy0:y.m=0
  ·unfold Du;rw [if_neg hx0,if_pos hy0,show (good x).raw=⟨x.raw,0⟩ from rfl];have hc:=fun w1 (k:Kept w w1)=>Pg (ha.kept k) (by have:=Ds hx;omega)
   obtain ⟨A,l,c,rfl,hl1,-,-,-⟩:=ha.shape;obtain ⟨A2,l2,c2,rfl,hl,-,g1,g2⟩:=hb.shape;have hl0:l2=0:=by rw [hl];simp only [Dy.raw];rw [hy0,Bd];rfl
   subst hl0;have l0:((l:Int)==0)=false:=by have:=Bq x.m hx0;rw [beq_eq_false_iff_ne,hl1];simp only [Dy.raw];omega
   have HC:=hid hc;clear hc hl hl1 ha hb hx hx0 hT hy hy0;generalize hn:y.raw.neg=n2 at *;generalize y.raw.e=e2 at *;clear hn;generalize x.raw=r at *;obtain ⟨W,hW,kW,B0,B1,B2⟩:=Ie w (.bool r.neg) (.slice A l c) (.int .i64 r.e) (.bool n2) (.slice A2 0 c2) (.int .i64 e2);have HW:=hid hW;have HK:=hid kW;have HB:=hid B2;clear hW kW B0 B1 B2;go_enter Tryz.func99,Tryz.ntmps99
   go_wp2_with (go_at_call 134;rw [←HW.out];refine (HC.out _ HK.out).mono ?_;rintro e w1 ⟨q,u,rfl,hd⟩;obtain ⟨A',l',c',rfl,-,hd,g3,g4⟩:=hd.shape;have HD:=hid hd;have hb2:=HB.out.kept q;obtain ⟨_,c0,c1,c2,f0,f1,f2⟩:=hb2.facts;have HB2:=hid hb2;clear hd hb2)
   exact Co (HB2.out.laid _ _ _) rfl rfl rfl ⟨Bj (HK.out.trans q) (by omega),.inl ⟨rfl,_,rfl,(HD.out.dyW HB2.out (An _) (Ak _ _ _) (Aq _)).dyR g3 g4⟩⟩
  ·exact Aeg ha hb hx hy hT hx0 hy0
theorem Ada (d:Dy)(h:d.Ok):Af6 d.raw=(Fg d).raw:=by
 unfold Af6 Fg;by_cases h0:d.m=0
 ·rw [if_pos h0,if_neg];rintro ⟨_,h1⟩;simp only [Dy.raw] at h1;rw [h0,Bd] at h1;exact absurd h1 (Nat.lt_irrefl 0)
 ·rw [if_neg h0,if_pos ⟨h.may,Bq d.m h0⟩];rfl
theorem Aik {w:World}{va vb:Value}{x y:Dy}(ha:DyR w va x.raw)(hb:DyR w vb y.raw)(hx:x.Ok)(hy:y.Ok)(hT:Tab w) :
 Calls Tryz.prog 152 #[va,vb] w (Goes 155 (Du x (Fg y)).raw w):=by
 have hn:=fun w1 (k:Kept w w1)=>Ahs (hb.kept k) (by have:=Ds hy;omega)
 rw [Ada y hy] at hn;have hs:=fun w1 u (k:Kept w w1) (hu:DyR w1 u (Fg y).raw)=>Ahb (ha.kept k) hu hx (M4 hy) (hT.kept k)
 obtain ⟨A,l,c,rfl,-,-,-,-⟩:=ha.shape;obtain ⟨A2,l2,c2,rfl,-,-,-,-⟩:=hb.shape;have HN:=hid hn;have HS:=hid hs;clear hn hs ha hb hx hy hT;generalize x.raw.neg=n1 at *;generalize x.raw.e=e1 at *;generalize y.raw.neg=n2 at *;generalize y.raw.e=e2 at *;generalize (Fg y).raw=r at *;generalize Du x (Fg y)=o at *;obtain ⟨W,hW,kW,B0,B1,B2⟩:=Ie w (.bool n1) (.slice A l c) (.int .i64 e1) (.bool n2) (.slice A2 l2 c2) (.int .i64 e2);have HW:=hid hW;have HK:=hid kW;have HB0:=hid B0;have HB1:=hid B1;have HB2:=hid B2;clear hW kW B0 B1 B2;go_enter Tryz.func152,Tryz.ntmps152;go_wp2_with fail;rw [←HW.out]
 refine Nb 4 ([(vE (.agg #[.bool n1,.slice A l c,.int .i64 e1])),(vE (.agg #[.bool n2,.slice A2 l2 c2,.int .i64 e2])),(fun v wv=>DyR wv v r),(fun v wv=>o.raw.k=0∧DyR wv v o.raw.v)])
  ⟨
   (gql 2 fun _ k=>c3 HB0.out k),(gql 3 fun _ k=>c3 HB1.out k),(fun aF wF F=>by have s6:=F.v 1 6;exact sD (HN.out _ (HK.out.trans F.kept)) fun _ _ h=>h),(fun aF wF F=>by have s5:=F.v 0 5;have s7:=F.p 2 7;exact sG (HS.out _ _ (HK.out.trans F.kept) s7) (fun _ _ _ h0 h=>⟨h0,h⟩) (fun w2 k2 h0=>⟨F.defers,⟨HK.out.trans (F.kept.trans k2),.inr ⟨h0,rfl⟩⟩⟩)),
   trivial⟩ ?_
 intro u w1 k1 hu;have p7:=hp hu 2;have p8:=hp hu 3;simp only [Bl,Au,if_true,Act.put,zlA,zlB,zlC,zlD,zlE,zlF,zlG,hv hu 0,hv hu 1];clear hu;generalize u 2=v7,u 3=v8 at *;obtain ⟨h0,hd⟩:=p8;obtain ⟨A',l',c',rfl,hd,g1,g2⟩:=Eu hd;have hb:=HB2.out.kept k1;obtain ⟨_,c0,c1,c2,f0,f1,f2⟩:=hb.facts;have HD:=hid hd;have H0:=hid h0;have HB:=hid hb;have K1:=hid k1;clear hd h0 hb k1 p7;go_simp;go_wp2_with fail;exact Co (HB.out.laid _ _ _) rfl rfl rfl ⟨Bj (HK.out.trans K1.out) (by omega),.inl ⟨H0.out,_,rfl,(HD.out.dyW HB.out (An _) (Ak _ _ _) (Aq _)).dyR g1 g2⟩⟩
theorem Th {w:World}{va vb:Value}{x y:Dy}(ha:DyR w va x.raw)(hb:DyR w vb y.raw)(hx:x.Ok)(hy:y.Ok)(hT:Tab w) :
 Calls Tryz.prog 65 #[va,vb] w (RetE (Du x y).raw w):=by
 have hf:=fun w1 (k:Kept w w1)=>Aen (K:=99) (o:=(Du x y).raw) (ha.kept k) (hb.kept k) (by have:=Ds hx;omega) (by have:=Ds hy;omega)
  (fun W k1 _ _=>Ahb (ha.kept (k.trans k1)) (hb.kept (k.trans k1)) hx hy (hT.kept (k.trans k1)))
  (fun h=>by have:=Nf hx hy;show ((Du x y).v).raw=rz;rw [this.2 h,Hq]) (fun _=>rfl)
 have e:Ny x.raw y.raw (Du x y).raw=(Du x y).raw:=by unfold Ny;rw [hx.may,hy.may];rfl
 rw [e] at hf;obtain ⟨A,l,c,rfl,-,-,-,-⟩:=ha.shape;obtain ⟨A2,l2,c2,rfl,-,-,-,-⟩:=hb.shape;have HF:=hid hf;clear hf ha hb hx hy hT e;generalize (Du x y).raw=o at *;generalize x.raw.neg=n1 at *;generalize x.raw.e=e1 at *;generalize y.raw.neg=n2 at *;generalize y.raw.e=e2 at *;obtain ⟨W,hW,kW,B0,B1,B2⟩:=Ie w (.bool n1) (.slice A l c) (.int .i64 e1) (.bool n2) (.slice A2 l2 c2) (.int .i64 e2);have HW:=hid hW;have HK:=hid kW;have HB:=hid B2;clear hW kW B0 B1 B2;go_enter Tryz.func65,Tryz.ntmps65
 go_wp2_with (go_at_call 98;rw [←HW.out];refine (HF.out _ HK.out).mono ?_;rintro e w1 ⟨q,u,rfl,hd⟩;obtain ⟨A',l',c',rfl,-,hd,g3,g4⟩:=hd.shape;have HD:=hid hd;have hb2:=HB.out.kept q;obtain ⟨_,c0,c1,c2,f0,f1,f2⟩:=hb2.facts;have HB2:=hid hb2;clear hd hb2)
 exact Hd (HB2.out.laid _ _ _) rfl rfl rfl ⟨Bj (HK.out.trans q) (by omega),_,rfl,(HD.out.dyW HB2.out (An _) (Ak _ _ _) (Aq _)).dyR g3 g4⟩
theorem Aa5 {w:World}{va vb:Value}{x y:Dy}(ha:DyR w va x.raw)(hb:DyR w vb y.raw)(hx:x.Ok)(hy:y.Ok)(hT:Tab w) :
 Calls Tryz.prog 115 #[va,vb] w (RetE (Du x (Fg y)).raw w):=by
 have hf:=fun w1 (k:Kept w w1)=>Aen (K:=152) (o:=(Du x (Fg y)).raw) (ha.kept k) (hb.kept k) (by have:=Ds hx;omega) (by have:=Ds hy;omega)
  (fun W k1 _ _=>Aik (ha.kept (k.trans k1)) (hb.kept (k.trans k1)) hx hy (hT.kept (k.trans k1)))
  (fun h=>by have:=Nf hx (M4 hy);show ((Du x (Fg y)).v).raw=rz;rw [this.2 h,Hq]) (fun _=>rfl)
 have e:Ny x.raw y.raw (Du x (Fg y)).raw=(Du x (Fg y)).raw:=by unfold Ny;rw [hx.may,hy.may];rfl
 rw [e] at hf;obtain ⟨A,l,c,rfl,-,-,-,-⟩:=ha.shape;obtain ⟨A2,l2,c2,rfl,-,-,-,-⟩:=hb.shape;have HF:=hid hf;clear hf ha hb hx hy hT e;generalize (Du x (Fg y)).raw=o at *;generalize x.raw.neg=n1 at *;generalize x.raw.e=e1 at *;generalize y.raw.neg=n2 at *;generalize y.raw.e=e2 at *;obtain ⟨W,hW,kW,B0,B1,B2⟩:=Ie w (.bool n1) (.slice A l c) (.int .i64 e1) (.bool n2) (.slice A2 l2 c2) (.int .i64 e2);have HW:=hid hW;have HK:=hid kW;have HB:=hid B2;clear hW kW B0 B1 B2;go_enter Tryz.func115,Tryz.ntmps115
 go_wp2_with (go_at_call 98;rw [←HW.out];refine (HF.out _ HK.out).mono ?_;rintro e w1 ⟨q,u,rfl,hd⟩;obtain ⟨A',l',c',rfl,-,hd,g3,g4⟩:=hd.shape;have HD:=hid hd;have hb2:=HB.out.kept q;obtain ⟨_,c0,c1,c2,f0,f1,f2⟩:=hb2.facts;have HB2:=hid hb2;clear hd hb2)
 exact Hd (HB2.out.laid _ _ _) rfl rfl rfl ⟨Bj (HK.out.trans q) (by omega),_,rfl,(HD.out.dyW HB2.out (An _) (Ak _ _ _) (Aq _)).dyR g3 g4⟩
theorem Tj {w:World}{va vb:Value}{x y:Dy}(ha:DyR w va x.raw)(hb:DyR w vb y.raw)(hx:x.Ok)(hy:y.Ok)(hT:Tab w) :
 Calls Tryz.prog 116 #[va,vb] w (RetE (D7 x y).raw w):=by
 have hf:=fun w1 (k:Kept w w1)=>Aen (K:=154) (o:=(D7 x y).raw) (ha.kept k) (hb.kept k) (by have:=Ds hx;omega) (by have:=Ds hy;omega)
  (fun W k1 _ _=>Ah7 (ha.kept (k.trans k1)) (hb.kept (k.trans k1)) hx hy (hT.kept (k.trans k1)))
  (fun h=>by have:=Ld x y;show ((D7 x y).v).raw=rz;rw [this.2 h,Hq]) (fun _=>rfl)
 have e:Ny x.raw y.raw (D7 x y).raw=(D7 x y).raw:=by unfold Ny;rw [hx.may,hy.may];rfl
 rw [e] at hf;obtain ⟨A,l,c,rfl,-,-,-,-⟩:=ha.shape;obtain ⟨A2,l2,c2,rfl,-,-,-,-⟩:=hb.shape;have HF:=hid hf;clear hf ha hb hx hy hT e;generalize (D7 x y).raw=o at *;generalize x.raw.neg=n1 at *;generalize x.raw.e=e1 at *;generalize y.raw.neg=n2 at *;generalize y.raw.e=e2 at *;obtain ⟨W,hW,kW,B0,B1,B2⟩:=Ie w (.bool n1) (.slice A l c) (.int .i64 e1) (.bool n2) (.slice A2 l2 c2) (.int .i64 e2);have HW:=hid hW;have HK:=hid kW;have HB:=hid B2;clear hW kW B0 B1 B2;go_enter Tryz.func116,Tryz.ntmps116
 go_wp2_with (go_at_call 98;rw [←HW.out];refine (HF.out _ HK.out).mono ?_;rintro e w1 ⟨q,u,rfl,hd⟩;obtain ⟨A',l',c',rfl,-,hd,g3,g4⟩:=hd.shape;have HD:=hid hd;have hb2:=HB.out.kept q;obtain ⟨_,c0,c1,c2,f0,f1,f2⟩:=hb2.facts;have HB2:=hid hb2;clear hd hb2)
 exact Hd (HB2.out.laid _ _ _) rfl rfl rfl ⟨Bj (HK.out.trans q) (by omega),_,rfl,(HD.out.dyW HB2.out (An _) (Ak _ _ _) (Aq _)).dyR g3 g4⟩
theorem Pc (w:World)(x y z x' y' z':Value):∃ W,W=(w.alloc (.cells #[x,y,z] 30)).alloc (.cells #[x',y',z'] 30) ∧
 Kept w W∧Blk W w.heap.size x y z∧Blk W (w.heap.size+1) x' y' z' :=
 ⟨_,rfl,(Ad _ _).trans (Ad _ _),Bn (blk_new _ _ _ _) _,C8 _ _ _ _ _⟩
theorem Ae9 {w:World}{va vb:Value}{x y:Dy}(ha:DyR w va x.raw)(hb:DyR w vb y.raw)(hx:x.Ok)(hy:y.Ok)(hx0:x.m≠0)(hy0:y.m≠0) :
 Calls Tryz.prog 89 #[va,vb] w (RetK (.int .i64 (Fw x y)) w):=by
 obtain ⟨A,l,c,rfl,-,ha,-,-⟩:=ha.shape;obtain ⟨A2,l2,c2,rfl,-,hb,-,-⟩:=hb.shape;have hs1:=fun w1 (k:Kept w w1)=>Kr (ha.kept k) (by have:=hx.len;omega)
 have hs2:=fun w1 (k:Kept w w1)=>Kr (hb.kept k) (by have:=hy.len;omega)
 have bx:=Eb x.m 64 hx.len;have bY:=Eb y.m 64 hy.len;have x1:=hx.lo;have x2:=hx.hi;have y1:=hy.lo;have y2:=hy.hi;obtain ⟨j1,hj1⟩:∃ j:Nat,x.e-min x.e y.e=j:=⟨(x.e-min x.e y.e).toNat,by omega⟩;obtain ⟨j2,hj2⟩:∃ j:Nat,y.e-min x.e y.e=j:=⟨(y.e-min x.e y.e).toNat,by omega⟩;have b1:j1≤2097152:=by omega
 have b2:j2≤2097152:=by omega
 have hl1:=fun w1 (k:Kept w w1)=>Nn (ha.kept k) j1 (by have:=hx.len;omega) (by omega)
 have hl2:=fun w1 (k:Kept w w1)=>Nn (hb.kept k) j2 (by have:=hy.len;omega) (by omega)
 have lx:(limbs (x.m*2^j1)).length≤40000:=Dk _ _ (by rw [Gu _ _ hx0];omega);have ly:(limbs (y.m*2^j2)).length≤40000:=Dk _ _ (by rw [Gu _ _ hy0];omega);have ho:=fun w1 v u (h1:Lim w1 v (limbs (x.m*2^j1))) (h2:Lim w1 u (limbs (y.m*2^j2)))=>M5 h1 h2 (by omega) (by omega)
 have hwx:IntKind.i64.wrap ((bl x.m:Int)+x.e)=(bl x.m:Int)+x.e:=by simp [IntKind.wrap_i64];omega
 have hwy:IntKind.i64.wrap ((bl y.m:Int)+y.e)=(bl y.m:Int)+y.e:=by simp [IntKind.wrap_i64];omega
 have hw1:IntKind.i64.wrap (x.e-min x.e y.e)=(j1:Int):=by rw [hj1];simp [IntKind.wrap_i64];omega
 have hw2:IntKind.i64.wrap (y.e-min x.e y.e)=(j2:Int):=by rw [hj2];simp [IntKind.wrap_i64];omega
 have hD:Fw x y=if (bl x.m:Int)+x.e<bl y.m+y.e then -1 else if (bl y.m:Int)+y.e<bl x.m+x.e then 1 else Ea (x.m*2^j1) (y.m*2^j2):=by
  unfold Fw;rw [hj1,hj2];rfl
 have HD:=hid hD;have H1:=hid hs1;have H2:=hid hs2;have L1:=hid hl1;have L2:=hid hl2;have HO:=hid ho;clear hD hs1 hs2 hl1 hl2 ho lx ly ha hb bx bY x1 x2 y1 y2 hx hy hx0 hy0 b1 b2 hj1 hj2;generalize limbs (x.m*2^j1)=xs at *;generalize limbs (y.m*2^j2)=ys at *;generalize Ea (x.m*2^j1) (y.m*2^j2)=cc at *;obtain ⟨sx,hsx⟩:∃ sx,(bl x.m:Int)+x.e=sx:=⟨_,rfl⟩;obtain ⟨sy,hsy⟩:∃ sy,(bl y.m:Int)+y.e=sy:=⟨_,rfl⟩;rw [hsx,hsy] at HD;rw [hsx] at hwx;rw [hsy] at hwy;have HX:=hid hsx;have HY:=hid hsy;clear hsx hsy;obtain ⟨lo,hlo⟩:∃ lo,min x.e y.e=lo:=⟨_,rfl⟩;rw [hlo] at hw1 hw2;have HL:=hid hlo;clear hlo;generalize bl x.m=bx at *
 generalize bl y.m=bY at *;have hsz:=HD.out;generalize Fw x y=res at *;simp only [Dy.raw] at *;generalize x.neg=n1 at *;generalize x.e=e1 at *;generalize y.neg=n2 at *;generalize y.e=e2 at *;clear HD;obtain ⟨W,hW,kW,B0,B1⟩:=Pc w (.bool n1) (.slice A l c) (.int .i64 e1) (.bool n2) (.slice A2 l2 c2) (.int .i64 e2);have HW:=hid hW;have HK:=hid kW;have HB0:=hid B0;have HB1':=hid B1;clear hW kW B0 B1;by_cases h1:sx<sy
 ·rw [if_pos h1] at hsz;subst hsz;have d1:decide (sx<sy)=true:=by simp [h1]
  clear h1;go_enter Tryz.func89,Tryz.ntmps89;go_wp2_with fail;rw [←HW.out]
  refine rgL 14 ([(vP w.heap.size 1),(vE (.slice A l c)),(vE (.int .i64 bx)),(vP w.heap.size 2),(vE (.int .i64 e1)),(vE (.int .i64 sx)),(vP (w.heap.size+1) 1),(vE (.slice A2 l2 c2)),(vE (.int .i64 bY)),(vP (w.heap.size+1) 2),(vE (.int .i64 e2)),(vE (.int .i64 sy)),(vE (.int .i64 sx)),(vE (.int .i64 sy))])
   ⟨
    (gq 2),(gvl 0 8 fun _ k=>Ai HB0.out k 1 _ rfl),(fun aF wF F=>by have s9:=F.v 1 9;exact sQ (H1.out _ (HK.out.trans F.kept)) fun _ _ h=>h),(gq 2),(gvl 3 11 fun _ k=>Ai HB0.out k 2 _ rfl),(fun aF wF F=>by have s10:=F.v 2 10;have s12:=F.v 4 12;exact sw (by have:=HX.out;go_simp) rfl),(gq 3),(gvl 6 14 fun _ k=>Ai HB1'.out k 1 _ rfl),(fun aF wF F=>by have s15:=F.v 7 15;exact sQ (H2.out _ (HK.out.trans F.kept)) fun _ _ h=>h),(gq 3),(gvl 9 17 fun _ k=>Ai HB1'.out k 2 _ rfl),(fun aF wF F=>by have s16:=F.v 8 16;have s18:=F.v 10 18;exact sw (by have:=HY.out;go_simp) rfl),(gv 5 13),(gv 11 19),
    trivial⟩ ?_
  intro u w1 k1 hu;simp only [Bl,Au,if_true,Act.put,zlA,zlB,zlC,zlD,zlE,zlF,zlG,hv hu 0,hv hu 1,hv hu 2,hv hu 3,hv hu 4,hv hu 5,hv hu 6,hv hu 7,hv hu 8,hv hu 9,hv hu 10,hv hu 11,hv hu 12,hv hu 13];clear hu;go_wp2_with fail;go_ret;exact ⟨rfl,HK.out.trans k1⟩
 ·rw [if_neg h1] at hsz;have d1:decide (sx<sy)=false:=by simp;omega
  clear h1;by_cases h2:sy<sx
  ·rw [if_pos h2] at hsz;subst hsz;have d2:decide (sy<sx)=true:=by simp [h2]
   clear h2;go_enter Tryz.func89,Tryz.ntmps89;go_wp2_with fail;rw [←HW.out]
   refine rgL 14 ([(vP w.heap.size 1),(vE (.slice A l c)),(vE (.int .i64 bx)),(vP w.heap.size 2),(vE (.int .i64 e1)),(vE (.int .i64 sx)),(vP (w.heap.size+1) 1),(vE (.slice A2 l2 c2)),(vE (.int .i64 bY)),(vP (w.heap.size+1) 2),(vE (.int .i64 e2)),(vE (.int .i64 sy)),(vE (.int .i64 sx)),(vE (.int .i64 sy))])
    ⟨
     (gq 2),(gvl 0 8 fun _ k=>Ai HB0.out k 1 _ rfl),(fun aF wF F=>by have s9:=F.v 1 9;exact sQ (H1.out _ (HK.out.trans F.kept)) fun _ _ h=>h),(gq 2),(gvl 3 11 fun _ k=>Ai HB0.out k 2 _ rfl),(fun aF wF F=>by have s10:=F.v 2 10;have s12:=F.v 4 12;exact sw (by have:=HX.out;go_simp) rfl),(gq 3),(gvl 6 14 fun _ k=>Ai HB1'.out k 1 _ rfl),(fun aF wF F=>by have s15:=F.v 7 15;exact sQ (H2.out _ (HK.out.trans F.kept)) fun _ _ h=>h),(gq 3),(gvl 9 17 fun _ k=>Ai HB1'.out k 2 _ rfl),(fun aF wF F=>by have s16:=F.v 8 16;have s18:=F.v 10 18;exact sw (by have:=HY.out;go_simp) rfl),(gv 5 13),(gv 11 19),
     trivial⟩ ?_
   intro u w1 k1 hu;simp only [Bl,Au,if_true,Act.put,zlA,zlB,zlC,zlD,zlE,zlF,zlG,hv hu 0,hv hu 1,hv hu 2,hv hu 3,hv hu 4,hv hu 5,hv hu 6,hv hu 7,hv hu 8,hv hu 9,hv hu 10,hv hu 11,hv hu 12,hv hu 13];clear hu;go_wp2_with fail;go_ret;exact ⟨rfl,HK.out.trans k1⟩
  ·rw [if_neg h2] at hsz;subst hsz;have d2:decide (sy<sx)=false:=by simp;omega
   clear h2;go_enter Tryz.func89,Tryz.ntmps89;go_wp2_with fail;rw [←HW.out]
   refine rgL 14 ([(vP w.heap.size 1),(vE (.slice A l c)),(vE (.int .i64 bx)),(vP w.heap.size 2),(vE (.int .i64 e1)),(vE (.int .i64 sx)),(vP (w.heap.size+1) 1),(vE (.slice A2 l2 c2)),(vE (.int .i64 bY)),(vP (w.heap.size+1) 2),(vE (.int .i64 e2)),(vE (.int .i64 sy)),(vE (.int .i64 sx)),(vE (.int .i64 sy))])
    ⟨
     (gq 2),(gvl 0 8 fun _ k=>Ai HB0.out k 1 _ rfl),(fun aF wF F=>by have s9:=F.v 1 9;exact sQ (H1.out _ (HK.out.trans F.kept)) fun _ _ h=>h),(gq 2),(gvl 3 11 fun _ k=>Ai HB0.out k 2 _ rfl),(fun aF wF F=>by have s10:=F.v 2 10;have s12:=F.v 4 12;exact sw (by have:=HX.out;go_simp) rfl),(gq 3),(gvl 6 14 fun _ k=>Ai HB1'.out k 1 _ rfl),(fun aF wF F=>by have s15:=F.v 7 15;exact sQ (H2.out _ (HK.out.trans F.kept)) fun _ _ h=>h),(gq 3),(gvl 9 17 fun _ k=>Ai HB1'.out k 2 _ rfl),(fun aF wF F=>by have s16:=F.v 8 16;have s18:=F.v 10 18;exact sw (by have:=HY.out;go_simp) rfl),(gv 5 13),(gv 11 19),
     trivial⟩ ?_
   intro u w1 k1 hu;simp only [Bl,Au,if_true,Act.put,zlA,zlB,zlC,zlD,zlE,zlF,zlG,hv hu 0,hv hu 1,hv hu 2,hv hu 3,hv hu 4,hv hu 5,hv hu 6,hv hu 7,hv hu 8,hv hu 9,hv hu 10,hv hu 11,hv hu 12,hv hu 13];clear hu;obtain ⟨-,a0,a1,a2,-⟩:=(HB0.out.kept k1).facts;obtain ⟨-,b0,b1,b2,-⟩:=(HB1'.out.kept k1).facts;go_wp2_with fail;rw [HL.out];have K1:=hid k1;clear a0 a1 a2 b0 b1 b2 k1 hwx hwy d1 d2
   refine rgL 16 ([(vP w.heap.size 1),(vE (.slice A l c)),(vP w.heap.size 2),(vE (.int .i64 e1)),(vE (.int .i64 lo)),(vE (.int .i64 j1)),(fun v wv=>Lim wv v (xs)),(vP (w.heap.size+1) 1),(vE (.slice A2 l2 c2)),(vP (w.heap.size+1) 2),(vE (.int .i64 e2)),(vE (.int .i64 lo)),(vE (.int .i64 j2)),(fun v wv=>Lim wv v (ys)),(vE (.int .i64 res)),(vE (.int .i64 res))])
    ⟨
     (gq 2),(gvl 0 33 fun _ k=>Ai (HB0.out.kept K1.out) k 1 _ rfl),(gq 2),(gvl 2 35 fun _ k=>Ai (HB0.out.kept K1.out) k 2 _ rfl),(gq 7),(gvv 3 36 4 37),(fun aF wF F=>by have s34:=F.v 1 34;have s38:=F.v 5 38;exact sL (L1.out _ (HK.out.trans (K1.out.trans F.kept))) fun _ _ h=>h),(gq 3),(gvl 7 40 fun _ k=>Ai (HB1'.out.kept K1.out) k 1 _ rfl),(gq 3),(gvl 9 42 fun _ k=>Ai (HB1'.out.kept K1.out) k 2 _ rfl),(gq 7),(gvv 10 43 11 44),(fun aF wF F=>by have s41:=F.v 8 41;have s45:=F.v 12 45;exact sL (L2.out _ (HK.out.trans (K1.out.trans F.kept))) fun _ _ h=>h),(fun aF wF F=>by have s39:=F.p 6 39;have s46:=F.p 13 46;exact sQ (HO.out _ _ _ s39 s46) fun _ _ h=>h),(gv 14 47),
     trivial⟩ ?_
   intro u w1 k1 hu;have p39:=hp hu 6;have p46:=hp hu 13;simp only [Bl,Au,if_true,Act.put,zlA,zlB,zlC,zlD,zlE,zlF,zlG,hv hu 0,hv hu 1,hv hu 2,hv hu 3,hv hu 4,hv hu 5,hv hu 7,hv hu 8,hv hu 9,hv hu 10,hv hu 11,hv hu 12,hv hu 14,hv hu 15];clear hu;generalize u 6=v39,u 13=v46 at *;clear p39 p46;go_wp2_with fail;go_ret;exact ⟨rfl,HK.out.trans (K1.out.trans k1)⟩
theorem Kq (d:Dy)(h:d.Ok):Jr d.raw=sg d:=by
 unfold Jr sg;by_cases h0:d.m=0
 ·rw [if_pos h0,if_pos (Or.inr (by simp only [Dy.raw];rw [h0,Bd];rfl))]
 ·rw [if_neg h0,if_neg]
  ·rfl
  ·rintro (h1 | h1)
   ·rw [h.may] at h1;cases h1
   ·have:=Bq d.m h0;simp only [Dy.raw] at h1;omega
theorem Hp {w:World}{va vb:Value}{x y:Dy}(ha:DyR w va x.raw)(hb:DyR w vb y.raw)(hx:x.Ok)(hy:y.Ok) :
 Calls Tryz.prog 52 #[va,vb] w (RetK (.int .i64 (Ce x.q y.q)) w):=by
 have lx:=Ds hx;have ly:=Ds hy;have s1:=fun w1 (k:Kept w w1)=>Mp (ha.kept k) (by omega)
 have s2:=fun w1 (k:Kept w w1)=>Mp (hb.kept k) (by omega)
 have m1:=fun w1 (k:Kept w w1)=>J9 (ha.kept k) (by omega)
 have m2:=fun w1 (k:Kept w w1)=>J9 (hb.kept k) (by omega)
 have hsz:=fun w1 (k:Kept w w1) (h1:x.m≠0) (h2:y.m≠0)=>Ae9 (ha.kept k) (hb.kept k) hx hy h1 h2
 rw [Kq x hx] at s1;rw [Kq y hy] at s2;rw [hx.may] at m1;rw [hy.may] at m2;have g1:=@We x y;have g2:=@Abm x y;have g3:=@Tz x y;have c1:=Hm x;have c2:=Hm y;have z1:sg x≠0→x.m≠0:=fun h h0=>h (by unfold sg;rw [if_pos h0])
 have z2:sg y≠0→y.m≠0:=fun h h0=>h (by unfold sg;rw [if_pos h0])
 have hsr:Fw x y=-1∨Fw x y=0∨Fw x y=1:=by
  unfold Fw Ea;split
  ·exact .inl rfl
  ·split
   ·exact .inr (.inr rfl)
   ·split
    ·exact .inl rfl
    ·split
     ·exact .inr (.inl rfl)
     ·exact .inr (.inr rfl)
 obtain ⟨A,l,c,rfl,-,ha,-,-⟩:=ha.shape;obtain ⟨A2,l2,c2',rfl,-,hb,-,-⟩:=hb.shape;have S1:=hid s1;have S2:=hid s2;have M1:=hid m1;have M2:=hid m2;have HZ:=hid hsz;have G1:=hid g1;have G2:=hid g2;have G3:=hid g3;have Z1:=hid z1;have Z2:=hid z2;have C1:=hid c1;have C2:=hid c2;have HR:=hid hsr;clear s1 s2 m1 m2 hsz g1 g2 g3 z1 z2 c1 c2 hsr ha hb lx ly hx hy;generalize Ce x.q y.q=res at *;simp only [Dy.raw] at *;generalize x.neg=n1 at *;generalize x.e=e1 at *;generalize y.neg=n2 at *;generalize y.e=e2 at *;generalize Fw x y=zz at *;generalize sg x=g at *;generalize sg y=g' at *;obtain ⟨W,hW,kW,B0,B1⟩:=Pc w (.bool n1) (.slice A l c) (.int .i64 e1) (.bool n2) (.slice A2 l2 c2') (.int .i64 e2)
 have HW:=hid hW;have HK:=hid kW;have HB0:=hid B0;have HB1':=hid B1;clear hW kW B0 B1;by_cases h1:g<g'
 ·have hr:=G1.out h1;subst hr;have d1:(g==g')=false:=by rw [beq_eq_false_iff_ne];omega
  have d2:decide (g<g')=true:=by simp [h1]
  clear h1;go_enter Tryz.func52,Tryz.ntmps52;go_wp2_with fail;rw [←HW.out]
  refine rgL 6 ([(vE (.agg #[.bool n1,.slice A l c,.int .i64 e1])),(vE (.int .i64 g)),(vE (.agg #[.bool n2,.slice A2 l2 c2',.int .i64 e2])),(vE (.int .i64 g')),(vE (.int .i64 g)),(vE (.int .i64 g'))])
   ⟨
    (gql 2 fun _ k=>c3 HB0.out k),(fun aF wF F=>by have s7:=F.v 0 7;exact sK (S1.out _ (HK.out.trans F.kept)) fun _ _ h=>h),(gql 3 fun _ k=>c3 HB1'.out k),(fun aF wF F=>by have s9:=F.v 2 9;exact sK (S2.out _ (HK.out.trans F.kept)) fun _ _ h=>h),(gv 1 8),(gv 3 10),
    trivial⟩ ?_
  intro u w1 k1 hu;simp only [Bl,Au,if_true,Act.put,zlA,zlB,zlC,zlD,zlE,zlF,zlG,hv hu 0,hv hu 1,hv hu 2,hv hu 3,hv hu 4,hv hu 5];clear hu;have KX:=hid k1;obtain ⟨-,a0,a1,a2,-⟩:=(HB0.out.kept k1).facts;obtain ⟨-,b0,b1,b2,-⟩:=(HB1'.out.kept k1).facts;clear k1 u;go_wp2_with fail;refine (M1.out _ (HK.out.trans KX.out)).mono ?_;rintro e w2 ⟨rfl,q⟩;replace KX:=hid (KX.out.trans q);clear a0 a1 a2 b0 b1 b2 q;obtain ⟨-,a0,a1,a2,-⟩:=(HB0.out.kept KX.out).facts;obtain ⟨-,b0,b1,b2,-⟩:=(HB1'.out.kept KX.out).facts;simp only [];go_wp2_with fail;refine (M2.out _ (HK.out.trans KX.out)).mono ?_;rintro e w3 ⟨rfl,q⟩
  replace KX:=hid (KX.out.trans q);clear a0 a1 a2 b0 b1 b2 q;obtain ⟨-,a0,a1,a2,-⟩:=(HB0.out.kept KX.out).facts;obtain ⟨-,b0,b1,b2,-⟩:=(HB1'.out.kept KX.out).facts;simp only [];go_wp2_with fail;go_ret;exact ⟨rfl,HK.out.trans KX.out⟩
 ·have d2:decide (g<g')=false:=by simp;omega
  by_cases h2:g=g'
  ·have hr:=G3.out h2;obtain rfl:=h2;have d1:(g==g)=true:=by rw [beq_iff_eq]
   by_cases h3:g=0
   ·rw [if_pos h3] at hr;subst hr;have d3:(g==0)=true:=by rw [beq_iff_eq];exact h3
    clear h1 h3;go_enter Tryz.func52,Tryz.ntmps52;go_wp2_with fail;rw [←HW.out]
    refine rgL 6 ([(vE (.agg #[.bool n1,.slice A l c,.int .i64 e1])),(vE (.int .i64 g)),(vE (.agg #[.bool n2,.slice A2 l2 c2',.int .i64 e2])),(vE (.int .i64 g)),(vE (.int .i64 g)),(vE (.int .i64 g))])
     ⟨
      (gql 2 fun _ k=>c3 HB0.out k),(fun aF wF F=>by have s7:=F.v 0 7;exact sK (S1.out _ (HK.out.trans F.kept)) fun _ _ h=>h),(gql 3 fun _ k=>c3 HB1'.out k),(fun aF wF F=>by have s9:=F.v 2 9;exact sK (S2.out _ (HK.out.trans F.kept)) fun _ _ h=>h),(gv 1 8),(gv 3 10),
      trivial⟩ ?_
    intro u w1 k1 hu;simp only [Bl,Au,if_true,Act.put,zlA,zlB,zlC,zlD,zlE,zlF,zlG,hv hu 0,hv hu 1,hv hu 2,hv hu 3,hv hu 4,hv hu 5];clear hu;have KX:=hid k1;obtain ⟨-,a0,a1,a2,-⟩:=(HB0.out.kept k1).facts;obtain ⟨-,b0,b1,b2,-⟩:=(HB1'.out.kept k1).facts;clear k1 u;go_wp2_with fail;refine (M1.out _ (HK.out.trans KX.out)).mono ?_;rintro e w2 ⟨rfl,q⟩;replace KX:=hid (KX.out.trans q);clear a0 a1 a2 b0 b1 b2 q;obtain ⟨-,a0,a1,a2,-⟩:=(HB0.out.kept KX.out).facts;obtain ⟨-,b0,b1,b2,-⟩:=(HB1'.out.kept KX.out).facts;simp only [];go_wp2_with fail;refine (M2.out _ (HK.out.trans KX.out)).mono ?_;rintro e w3 ⟨rfl,q⟩
    replace KX:=hid (KX.out.trans q);clear a0 a1 a2 b0 b1 b2 q;obtain ⟨-,a0,a1,a2,-⟩:=(HB0.out.kept KX.out).facts;obtain ⟨-,b0,b1,b2,-⟩:=(HB1'.out.kept KX.out).facts;simp only [];go_wp2_with fail;go_ret;exact ⟨rfl,HK.out.trans KX.out⟩
   ·rw [if_neg h3] at hr;subst hr;have d3:(g==0)=false:=by rw [beq_eq_false_iff_ne];exact h3
    have hz:=fun w1 k=>HZ.out w1 k (Z1.out h3) (Z2.out h3)
    have hw:wrap64 (g*zz)=g*zz:=by
     rcases C1.out with h | h | h<;>rcases HR.out with h' | h' | h'<;>rw [h,h']<;>first | rfl | decide | simp [wrap64]
    clear HZ;have HZ:=hid hz;clear h1 h3 hz;go_enter Tryz.func52,Tryz.ntmps52;go_wp2_with fail;rw [←HW.out]
    refine rgL 6 ([(vE (.agg #[.bool n1,.slice A l c,.int .i64 e1])),(vE (.int .i64 g)),(vE (.agg #[.bool n2,.slice A2 l2 c2',.int .i64 e2])),(vE (.int .i64 g)),(vE (.int .i64 g)),(vE (.int .i64 g))])
     ⟨
      (gql 2 fun _ k=>c3 HB0.out k),(fun aF wF F=>by have s7:=F.v 0 7;exact sK (S1.out _ (HK.out.trans F.kept)) fun _ _ h=>h),(gql 3 fun _ k=>c3 HB1'.out k),(fun aF wF F=>by have s9:=F.v 2 9;exact sK (S2.out _ (HK.out.trans F.kept)) fun _ _ h=>h),(gv 1 8),(gv 3 10),
      trivial⟩ ?_
    intro u w1 k1 hu;simp only [Bl,Au,if_true,Act.put,zlA,zlB,zlC,zlD,zlE,zlF,zlG,hv hu 0,hv hu 1,hv hu 2,hv hu 3,hv hu 4,hv hu 5];clear hu;have KX:=hid k1;obtain ⟨-,a0,a1,a2,-⟩:=(HB0.out.kept k1).facts;obtain ⟨-,b0,b1,b2,-⟩:=(HB1'.out.kept k1).facts;clear k1 u;go_wp2_with fail;refine (M1.out _ (HK.out.trans KX.out)).mono ?_;rintro e w2 ⟨rfl,q⟩;replace KX:=hid (KX.out.trans q);clear a0 a1 a2 b0 b1 b2 q;obtain ⟨-,a0,a1,a2,-⟩:=(HB0.out.kept KX.out).facts;obtain ⟨-,b0,b1,b2,-⟩:=(HB1'.out.kept KX.out).facts;simp only [];go_wp2_with fail;refine (M2.out _ (HK.out.trans KX.out)).mono ?_;rintro e w3 ⟨rfl,q⟩
    replace KX:=hid (KX.out.trans q);clear a0 a1 a2 b0 b1 b2 q;obtain ⟨-,a0,a1,a2,-⟩:=(HB0.out.kept KX.out).facts;obtain ⟨-,b0,b1,b2,-⟩:=(HB1'.out.kept KX.out).facts;simp only []
    go_wp2_with (go_at_call 89;refine (HZ.out _ (HK.out.trans KX.out)).mono ?_;rintro e w2 ⟨rfl,q⟩;have KY:=hid (KX.out.trans q))
    go_ret;exact ⟨show Ending.returned (.int .i64 (wrap64 (g*zz)))=_ from by rw [hw],HK.out.trans KY.out⟩
  ·have hr:=G2.out (by omega);subst hr;have d1:(g==g')=false:=by rw [beq_eq_false_iff_ne];exact h2
   clear h1 h2;go_enter Tryz.func52,Tryz.ntmps52;go_wp2_with fail;rw [←HW.out]
   refine rgL 6 ([(vE (.agg #[.bool n1,.slice A l c,.int .i64 e1])),(vE (.int .i64 g)),(vE (.agg #[.bool n2,.slice A2 l2 c2',.int .i64 e2])),(vE (.int .i64 g')),(vE (.int .i64 g)),(vE (.int .i64 g'))])
    ⟨
     (gql 2 fun _ k=>c3 HB0.out k),(fun aF wF F=>by have s7:=F.v 0 7;exact sK (S1.out _ (HK.out.trans F.kept)) fun _ _ h=>h),(gql 3 fun _ k=>c3 HB1'.out k),(fun aF wF F=>by have s9:=F.v 2 9;exact sK (S2.out _ (HK.out.trans F.kept)) fun _ _ h=>h),(gv 1 8),(gv 3 10),
     trivial⟩ ?_
   intro u w1 k1 hu;simp only [Bl,Au,if_true,Act.put,zlA,zlB,zlC,zlD,zlE,zlF,zlG,hv hu 0,hv hu 1,hv hu 2,hv hu 3,hv hu 4,hv hu 5];clear hu;have KX:=hid k1;obtain ⟨-,a0,a1,a2,-⟩:=(HB0.out.kept k1).facts;obtain ⟨-,b0,b1,b2,-⟩:=(HB1'.out.kept k1).facts;clear k1 u;go_wp2_with fail;refine (M1.out _ (HK.out.trans KX.out)).mono ?_;rintro e w2 ⟨rfl,q⟩;replace KX:=hid (KX.out.trans q);clear a0 a1 a2 b0 b1 b2 q;obtain ⟨-,a0,a1,a2,-⟩:=(HB0.out.kept KX.out).facts;obtain ⟨-,b0,b1,b2,-⟩:=(HB1'.out.kept KX.out).facts;simp only [];go_wp2_with fail;refine (M2.out _ (HK.out.trans KX.out)).mono ?_;rintro e w3 ⟨rfl,q⟩
   replace KX:=hid (KX.out.trans q);clear a0 a1 a2 b0 b1 b2 q;obtain ⟨-,a0,a1,a2,-⟩:=(HB0.out.kept KX.out).facts;obtain ⟨-,b0,b1,b2,-⟩:=(HB1'.out.kept KX.out).facts;simp only [];go_wp2_with fail;go_ret;exact ⟨rfl,HK.out.trans KX.out⟩
theorem Acq {neg:Bool}{m:List Nat}{e:Int}(h:Ll m=false∨e < -1048576∨1048576<e):Di ⟨neg,m,e⟩=false:=by
 unfold Di;simp only;split
 ·rename_i h0;have hm:Ll m=true:=by unfold Ll;simp [h0]
  have he:¬e=0:=by
   rcases h with h | h | h
   ·rw [hm] at h;cases h
   ·omega
   ·omega
  simp [he]
 ·rcases h with h | h | h
  ·simp [h]
  ·have:¬-1048576≤e:=by omega
   simp [this]
  ·have:¬e≤1048576:=by omega
   simp [this]
theorem Kn {w:World}{v:Value}{r:Raw}(hv:DyR w v r)(hl:r.m.length≤17592186044416) :
 Calls Tryz.prog 10 #[v] w (RetK (.bool (Di r)) w):=by
 obtain ⟨neg,m,e⟩:=r;obtain ⟨s,rfl,hs,h1,h2⟩:=hv;simp only at hs h1 h2 hl ⊢;have hm:=fun w1 (k:Kept w w1)=>Agd (hs.kept k) hl
 obtain ⟨hsm,A,c,rfl,hc,hA⟩:=hs;have HM:=hid hm;have HO:=hid (@Acq neg m e);clear hm;obtain ⟨bm,hbm⟩:∃ b,Ll m=b:=⟨_,rfl⟩;rw [hbm] at HM HO;by_cases hbad:bm=false∨e < -1048576∨1048576<e
 ·rw [HO.out hbad];have hb2:Hid (bm=false∨e < -1048576∨1048576<e):=hbad;clear HO hbad hA hsm hbm h1 h2;generalize m.length=l at *;rcases hb2.out with rfl | hb | hb
  ·clear hb2;go_enter Tryz.func10,Tryz.ntmps10
   go_wp2_with (go_at_call 26;refine (HM.out _ (Ad _ _)).mono ?_;rintro e w1 ⟨rfl,q,rfl⟩)
   go_ret;exact ⟨rfl,(Ad _ _).drewN _⟩
  ·clear hb2;have d1:decide (e < -1048576)=true:=by simp [hb]
   cases bm<;>(
    go_enter Tryz.func10,Tryz.ntmps10
    go_wp2_with (go_at_call 26;refine (HM.out _ (Ad _ _)).mono ?_;rintro e w1 ⟨rfl,q,rfl⟩)
    go_ret;exact ⟨rfl,(Ad _ _).drewN _⟩)
  ·clear hb2;have d1:decide (e < -1048576)=false:=by simp;omega
   have d2:decide (1048576<e)=true:=by simp [hb]
   cases bm<;>(
    go_enter Tryz.func10,Tryz.ntmps10
    go_wp2_with (go_at_call 26;refine (HM.out _ (Ad _ _)).mono ?_;rintro e w1 ⟨rfl,q,rfl⟩)
    go_ret;exact ⟨rfl,(Ad _ _).drewN _⟩)
 ·obtain rfl:bm=true:=by cases bm<;>simp_all
  have e1:-1048576≤e:=by
   by_cases h:-1048576≤e
   ·exact h
   ·exact absurd (.inr (.inl (by omega))) hbad
  have e2:e≤1048576:=by
   by_cases h:e≤1048576
   ·exact h
   ·exact absurd (.inr (.inr (by omega))) hbad
  have d1:decide (e < -1048576)=false:=by simp;omega
  have d2:decide (1048576<e)=false:=by simp;omega
  clear hbad HO;unfold Di;simp only;by_cases h0:m.length=0
  ·rw [if_pos h0];clear hsm hA hbm;rw [h0];have HL:=hid h0;clear h0 hl hc e1 e2 h1 h2
   cases neg<;>(
    go_enter Tryz.func10,Tryz.ntmps10
    go_wp2_with (go_at_call 26;rw [HL.out] at HM;refine (HM.out _ (Ad _ _)).mono ?_;rintro e w1 ⟨rfl,q,rfl⟩)
    go_ret;exact ⟨rfl,(Ad _ _).drewN _⟩)
  ·rw [if_neg h0,hbm,decide_eq_true e1,decide_eq_true e2,Bool.and_true,Bool.and_true,Bool.true_and];obtain ⟨b,off,rfl,hb,hcell⟩:=hA (by omega);have hc0:=hcell 0 (by omega);have hlt0:=nth_lt hsm 0;have e0:(((m.length:Nat):Int)==0)=false:=by rw [beq_eq_false_iff_ne];omega
   have hl0:0<m.length:=by omega
   clear hcell hA hsm h0 e1 e2 hbm;have eand:bits .and .u64 ((nth m 0:Nat):Int) 1=((nth m 0%2:Nat):Int):=by
    have h:=bits_and_u64_nat (nth m 0) 1 hlt0 (by omega);rw [Nat.and_one_is_mod] at h;exact h
   have eb:(nth m 0%2==1)=(((nth m 0%2:Nat):Int)==1):=by
    rcases Nat.mod_two_eq_zero_or_one (nth m 0) with h | h<;>rw [h]<;>rfl
   rw [eb];rw [Nat.add_zero] at hc0;generalize nth m 0%2=y at *;generalize nth m 0=x at *;generalize m.length=l at *;clear eb;have HC:=hid (fun w1 (k:Kept w w1)=>(k.cell (p:=⟨b,off,none⟩) hb).trans hc0);clear hc0;go_enter Tryz.func10,Tryz.ntmps10
   go_wp2_with (go_at_call 26;refine (HM.out _ (Ad _ _)).mono ?_;rintro e w1 ⟨rfl,q,rfl⟩;have hcc:=HC.out _ ((Ad w (.cells #[.bool neg,.slice (some ⟨b,off,none⟩) l c,.int .i64 e] 30)).drewN q))
   go_ret;exact ⟨rfl,(Ad _ _).drewN _⟩
theorem Sy {w:World}{v:Value}{r:Raw}(hv:DyR w v r)(hl:r.m.length≤17592186044416) :
 Calls Tryz.prog 11 #[v] w (RetK (.int .i64 (Jr r)) w):=by
 have hm:=fun w1 (k:Kept w w1)=>Kn (hv.kept k) hl
 obtain ⟨neg,m,e⟩:=r;obtain ⟨s,rfl,hs,h1,h2⟩:=hv;obtain ⟨_,A,c,rfl,hc,_⟩:=hs;simp only at hc h1 h2 hl ⊢;unfold Jr;simp only;have HM:=hid hm;clear hm;generalize hb:Di ⟨neg,m,e⟩=bm at *;cases bm
 ·rw [if_pos (Or.inl rfl)];go_enter Tryz.func11,Tryz.ntmps11
  go_wp2_with (go_at_call 10;refine (HM.out _ (Ad _ _)).mono ?_;rintro e w1 ⟨rfl,q⟩)
  go_ret;exact ⟨rfl,(Ad _ _).trans q⟩
 ·clear hb;generalize m.length=l at *;by_cases h0:l=0
  ·rw [if_pos (Or.inr h0)];subst h0;clear hl hc;go_enter Tryz.func11,Tryz.ntmps11
   go_wp2_with (go_at_call 10;refine (HM.out _ (Ad _ _)).mono ?_;rintro e w1 ⟨rfl,q⟩;obtain ⟨_,c0,c1,c2,_⟩:=((blk_new _ _ _ _).kept q).facts)
   go_ret;exact ⟨rfl,(Ad _ _).trans q⟩
  ·rw [if_neg (by rintro (h | h);exact absurd h (by decide);exact h0 h)];have e0:(((l:Nat):Int)==0)=false:=by rw [beq_eq_false_iff_ne];omega
   have HL:=hid h0;clear h0
   cases neg<;>(
    go_enter Tryz.func11,Tryz.ntmps11
    go_wp2_with (go_at_call 10;refine (HM.out _ (Ad _ _)).mono ?_;rintro e w1 ⟨rfl,q⟩;obtain ⟨_,c0,c1,c2,_⟩:=((blk_new _ _ _ _).kept q).facts)
    go_ret;exact ⟨rfl,(Ad _ _).trans q⟩)
namespace Dg
theorem RetLim.good {xs:List Nat}{w w':World}{e:Ending}(h:RetLim xs w e w'):Ex (fun u w=>Lim w u xs) w e w':=by
 obtain ⟨v,he,hl,hk⟩:=h;exact ⟨v,he,hk,hl⟩
def DN (w:World) (v:Value) (b:Bool) (n:Nat) (e:Int):Prop:=∃ A l c,v=.agg #[.bool b,.slice A l c,.int .i64 e]∧Lim w (.slice A l c) (limbs n)
theorem DN.kept {w w':World}{v:Value}{b:Bool}{n:Nat}{e:Int}(h:DN w v b n e)(k:Kept w w'):DN w' v b n e:=by
 obtain ⟨A,l,c,rfl,h⟩:=h;exact ⟨A,l,c,rfl,h.kept k⟩
def RetN (b:Bool) (n:Nat) (e:Int) (w:World) (x:Ending) (w':World):Prop:=Kept w w'∧∃ v,x=.returned v∧DN w' v b n e
theorem RetN.good {b:Bool}{n:Nat}{e:Int}{w w':World}{x:Ending}(h:RetN b n e w x w'):Ex (fun u w=>DN w u b n e) w x w':=by
 obtain ⟨k,v,he,hl⟩:=h;exact ⟨v,he,k,hl⟩
theorem Lim.shape {w:World}{v:Value}{xs:List Nat}(h:Lim w v xs):∃ A c,v=.slice A xs.length c:=by
 obtain ⟨_,A,c,rfl,-,-⟩:=h;exact ⟨A,c,rfl⟩
def Blk (w:World) (b:Nat) (x y z:Value):Prop:=w.heap[b]?=some (.cells #[x,y,z] 62 (0,0))
theorem Blk.facts {w:World}{b:Nat}{x y z:Value}(h:Blk w b x y z):b<w.heap.size∧w.cell? ⟨b,0,none⟩=some x∧w.cell? ⟨b,1,none⟩=some y∧w.cell? ⟨b,2,none⟩=some z ∧
 w.frozen? ⟨b,0,none⟩=false∧w.frozen? ⟨b,1,none⟩=false∧w.frozen? ⟨b,2,none⟩=false :=
 ⟨(Array.getElem?_eq_some_iff.1 h).1,Ag h 0 _ rfl,Ag h 1 _ rfl,Ag h 2 _ rfl,Am h 0,Am h 1,Am h 2⟩
theorem Blk.kept {w w1:World}{b:Nat}{x y z:Value}(h:Blk w b x y z)(k:Kept w w1):Blk w1 b x y z :=
 (k.block b (Array.getElem?_eq_some_iff.1 h).1).trans h
theorem blk_new (w:World)(x y z:Value):Blk (w.alloc (.cells #[x,y,z] 62)) w.heap.size x y z:=heap_alloc_new _ _
theorem Blk.laid {w:World}{b:Nat}{x y z:Value}(h:Blk w b x y z)(x' y' z':Value):Blk (dyW w b x' y' z') b x' y' z' :=
 Av (Av (Av h _) _) _
theorem Ajs {fn:Func}{R:Ending→World→Prop}{a:Act}{w:World}{b t:Nat}{x y z:Value}(h:Blk w b x y z)
 (hres:fn.results=#[.cell t 62]) (ht:a.tmps.getD t undef=.pointer (some ⟨b,0,none⟩)) (hd:a.defers=[]) (hR:R (.returned (.agg #[x,y,z])) w) :
 bodyPost Tryz.prog fn R .ret a w:=by
 obtain ⟨_,c0,c1,c2,_⟩:=h.facts;refine bodyPost_ret (v:=.agg #[x,y,z]) ?_ hd hR;have ht2:a.tmps[t]?.getD undef=.pointer (some ⟨b,0,none⟩):=by simpa using ht
 simp [results,hres,ht2,go_sem,c0,c1,c2]
theorem Lim.dyW {w:World}{s:Value}{xs:List Nat}{b2:Nat}{T:TypeId}{x y z x' y' z':Value}(h:Lim w s xs)(h0:w.heap[b2]?=some (.cells #[x,y,z] T (0,0)))(hx:∀ n,¬x=.int .u32 n)(hy:∀ n,¬y=.int .u32 n)(hz:∀ n,¬z=.int .u32 n) :
 Lim (dyW w b2 x' y' z') s xs:=by
 obtain ⟨hsm,A,c,rfl,hc,hA⟩:=h;refine ⟨hsm,A,c,rfl,hc,fun hp=>?_⟩;obtain ⟨b,off,rfl,hb,hcell⟩:=hA hp;have n2:¬b=b2:=by
  rintro rfl;have h5:=hcell 0 hp;simp only [World.cell?,h0] at h5;rcases off with _ | _ | _ | off
  ·simp at h5;exact hx _ h5
  ·simp at h5;exact hy _ h5
  ·simp at h5;exact hz _ h5
  ·simp at h5
 have e:(Go.Proofs.YtmgaloopddiekaaGreatDoor.dyW w b2 x' y' z').heap[b]?=w.heap[b]?:=by
  unfold Go.Proofs.YtmgaloopddiekaaGreatDoor.dyW;rw [Below.heap_setCell _ _ _ _ n2,Below.heap_setCell _ _ _ _ n2,Below.heap_setCell _ _ _ _ n2]
 refine ⟨b,off,rfl,?_,fun i hi=>?_⟩
 ·unfold Go.Proofs.YtmgaloopddiekaaGreatDoor.dyW;simpa [World.setCell] using hb
 ·rw [←hcell i hi];simp only [World.cell?,e]
theorem Ahl (w:World)(x y z p q r:Value):∃ W,W=(w.alloc (.cells #[x,y,z] 30)).alloc (.cells #[p,q,r] 62) ∧
 Kept w W∧Go.Proofs.YtmgaloopddiekaaGreatDoor.Blk W w.heap.size x y z∧Blk W (w.heap.size+1) p q r:=by
 refine ⟨_,rfl,(Ad _ _).trans (Ad _ _),Bn (Go.Proofs.YtmgaloopddiekaaGreatDoor.blk_new _ _ _ _) _,?_⟩;have:=blk_new (w.alloc (.cells #[x,y,z] 30)) p q r;simpa using this
theorem of_c {w:World}{v:Value}{r:Raw}(hv:DyR w v r)(hl:r.m.length≤100000) :
 Calls Tryz.prog 27 #[v] w (RetN r.neg (Go.Proofs.YtmgaloopddiekaaGreatDoor.val r.m) r.e w):=by
 obtain ⟨A,l,c,rfl,-,hs,-,-⟩:=hv.shape;have C:=hid (fun w1 (k:Kept w w1)=>Ahv (hs.kept k) hl);clear hv hs hl;generalize Go.Proofs.YtmgaloopddiekaaGreatDoor.val r.m=n at *;generalize r.neg=b at *;generalize r.e=e at *;obtain ⟨W,hW,kW,BA,BB⟩:=Ahl w (.bool b) (.slice A l c) (.int .i64 e) (.bool false) (.slice none 0 0) (.int .i64 0);have HW:=hid hW;have K:=hid kW;have HA:=hid BA;have HB:=hid BB;clear hW kW BA BB;go_enter Tryz.func27,Tryz.ntmps27;go_wp2_with fail;rw [←HW.out]
 refine Nb 8 ([(vP w.heap.size 0),(vE (.bool b)),(vP w.heap.size 1),(vE (.slice A l c)),(fun v wv=>Lim wv v (limbs n)),(vP w.heap.size 2),(vE (.int .i64 e)),(fun v wv=>DN wv v b n e)])
  (hM:=⟨⟨mE,mE,mE,mE,fun v w w' k h=>Lim.kept h k,mE,mE,fun v w w' k h=>by first | exact h | exact h.kept k | exact ⟨h.1,h.2.kept k⟩,trivial⟩⟩) ⟨
    (gq 1),(gvl 0 3 fun _ k=>Ai HA.out k 0 _ rfl),(gq 1),(gvl 2 5 fun _ k=>Ai HA.out k 1 _ rfl),(fun aF wF F=>by have s6:=F.v 3 6;exact Bi (by simp [Region.wanted]) (by go_simp) (C.out _ (K.out.trans F.kept)) (fun _ _ h=>(RetLim.good h)) (fun _ _ h=>h)),(gq 1),(gvl 5 8 fun _ k=>Ai HA.out k 2 _ rfl),(fun aF wF F=>by have s4:=F.v 1 4;have s7:=F.p 4 7;have s9:=F.v 6 9;simp only [Array.getD_eq_getD_getElem?] at s4;simp only [Array.getD_eq_getD_getElem?] at s9;obtain ⟨X1,X2,ee⟩:=s7.shape;rw [ee] at s7;simp only [Array.getD_eq_getD_getElem?] at ee;exact sv ⟨_,_,_,rfl,s7⟩),
    trivial⟩ ?_
 intro u w1 k1 hu;have p7:=hp hu 4;have p10:=hp hu 7;simp only [Bl,Au,if_true,Act.put,zlA,zlB,zlC,zlD,zlE,zlF,zlG,hv hu 0,hv hu 1,hv hu 2,hv hu 3,hv hu 5,hv hu 6];clear hu;generalize u 4=v7,u 7=v10 at *;obtain ⟨A1,l1,c1,rfl,z1⟩:=p10;have hx:=HB.out.kept k1;obtain ⟨-,x0,x1,x2,f0,f1,f2⟩:=hx.facts;clear p7;have Z:=hid z1;have HX:=hid hx;have KK:=hid (K.out.trans k1);clear z1 hx k1;go_wp2_with fail;exact Ajs (HX.out.laid _ _ _) rfl rfl rfl ⟨Bj KK.out (by omega),_,rfl,_,_,_,rfl,Z.out.dyW HX.out (by simp) (by simp) (by simp)⟩
end Dg
theorem Ac5 (k:Int)(w:World):Calls Tryz.prog 78 #[.bool true,.int .i64 k] w fun e w'=>e=.returned (.tuple #[])∧w=w':=by
 go_enter Tryz.func78,Tryz.ntmps78;go_wp2
 go_end0
 exact ⟨rfl,rfl⟩
theorem Zy (k:Int)(w:World):Calls Tryz.prog 78 #[.bool false,.int .i64 k] w fun e w'=>e=.panicked (Ch 112 k)∧w=w':=by
 go_enter Tryz.func78,Tryz.ntmps78;go_wp2;exact ⟨rfl,rfl,rfl⟩
theorem Ow (b:Bool)(k:Int)(w:World):Calls Tryz.prog 78 #[.bool b,.int .i64 k] w fun e w'=>e=Rl 112 b k∧w=w':=by
 cases b
 ·exact Zy k w
 ·exact Ac5 k w
theorem F6 (k:Int)(w:World):Calls Tryz.prog 78 #[.bool true,.int .i64 k] w (RetK (.tuple #[]) w):=(Ow true k w).mono fun _ _ ⟨he,hw⟩=>⟨he,hw▸Below.refl _ _⟩
theorem Nu (k:Int)(w:World):(Instr.typeAssert (.iface 112 (.agg #[.int .i64 k])) 20 112 true).run Tryz.prog w=.ok (.tuple #[.agg #[.int .i64 k],.bool true]) w:=by
 kernel_rfl
theorem Ht (w:World):(Instr.typeAssert .nilIface 20 112 true).run Tryz.prog w=.ok (.tuple #[.agg #[.int .i64 0],.bool false]) w:=by
 kernel_rfl
def Ga (w:World) (b2 b3:Nat) (x q:Value) (o:Obj):World:=((w.setCell ⟨b2,0,none⟩ x).setCell ⟨b3,0,none⟩ q).alloc o
theorem Tr (b2 b3:Nat)(w:World)(k:Int)(x q:Value)
 (h0:w.heap[b2]?=some (.cells #[x] 26 (0,0))) (h1:w.heap[b3]?=some (.cells #[q] 3 (0,0))) (hne:¬b2=b3) :
 CallsD Tryz.prog 77 #[.pointer (some ⟨b2,0,none⟩),.pointer (some ⟨b3,0,none⟩)] (.panicking (Ch 112 k)) w fun e u' w' =>
  e=.returned (.tuple #[])∧u'=.panicking [{ v:=.iface 112 (.agg #[.int .i64 k]),recovered:=true }]∧w'=(Ga w b2 b3 (.slice none 0 0) (.int .i64 k) (.cells #[.int .i64 k] 112)).drew:=by
 have ha:=Nu k;have l2:b2<w.heap.size:=(Array.getElem?_eq_some_iff.1 h0).1;have l3:b3<w.heap.size:=(Array.getElem?_eq_some_iff.1 h1).1;have n2:¬b2=w.heap.size:=by omega
 have n3:¬b3=w.heap.size:=by omega
 have n2':¬w.heap.size=b2:=by omega
 have n3':¬w.heap.size=b3:=by omega
 have hne':¬b3=b2:=fun h=>hne h.symm
 have c20:=Ag h0 0 x rfl;have c30:=Ag h1 0 q rfl;have f20:=Am h0 0;have f30:=Am h1 0;refine callsD_of_wpS Tryz.func77 rfl fun c₀ cs hu=>?_
 simp only [Tryz.ntmps77,List.size_toArray,List.length_cons,List.length_nil,Nat.reduceAdd,Nat.reduceSub,Array.replicate_succ,
  Array.replicate_zero,List.push_toArray,List.append_toArray,List.nil_append,List.cons_append]
 refine Ct (v:=.iface 112 (.agg #[.int .i64 k])) (cs':={ c₀ with mode:=.panicking [{ v:=.iface 112 (.agg #[.int .i64 k]),recovered:=true }] }::cs) (w':=w) rfl ?_ ?_ ?_
 ·simp [go_sem]
 ·rw [recoverD,hu];exact ⟨rfl,rfl⟩
 go_wp2_with fail;go_region;exact ⟨rfl,_,rfl,_,results_none rfl _ _ _,rfl,rfl,rfl⟩
theorem Ts (b2 b3:Nat)(w:World) :
 CallsD Tryz.prog 77 #[.pointer (some ⟨b2,0,none⟩),.pointer (some ⟨b3,0,none⟩)] .returning w fun e u' w' =>
  e=.returned (.tuple #[])∧u'=.returning∧w'=w.alloc (.cells #[.int .i64 0] 112):=by
 have ha:=Ht;refine callsD_of_wpS Tryz.func77 rfl fun c₀ cs hu=>?_
 simp only [Tryz.ntmps77,List.size_toArray,List.length_cons,List.length_nil,Nat.reduceAdd,Nat.reduceSub,Array.replicate_succ,
  Array.replicate_zero,List.push_toArray,List.append_toArray,List.nil_append,List.cons_append]
 refine Ct (v:=.nilIface) (cs':=c₀::cs) (w':=w) rfl ?_ ?_ ?_
 ·simp [go_sem]
 ·rw [recoverD,hu];exact ⟨rfl,rfl⟩
 go_wp2_with fail;exact ⟨rfl,.returning,by rw [←hu],_,results_none rfl _ _ _,rfl,rfl,rfl⟩
theorem Rb {w:World}{K:Nat}{cap:Array Value}{k:Int}(h:∀ w1,Kept w w1→Calls Tryz.prog K cap w1 (fun e w2=>e=.panicked (Ch 112 k)∧Kept w1 w2))
 (hk:∀ w,(callFunc K cap).run Tryz.prog w=.ok (.enter K cap) w) :
 Calls Tryz.prog 44 #[.func (.func K) #[] cap] w (RetK (.tuple #[.slice none 0 0,.int .i64 k]) w):=by
 have hmf:=Es;have HH:=hid h;clear h
 go_enter_defers Tryz.func44,Tryz.ntmps44
 go_wp2_with fail;have k1:Kept w ((w.alloc (.cells #[.slice none 0 0] 26)).alloc (.cells #[.int .i64 0] 3)):=(Ad _ _).trans (Ad _ _);refine (HH.out _ k1).mono ?_;have b0:((w.alloc (.cells #[.slice none 0 0] 26)).alloc (.cells #[.int .i64 0] 3)).heap[w.heap.size]?=some (.cells #[.slice none 0 0] 26 (0,0)):=by
  rw [Below.heap_alloc _ _ _ (by simp)];exact heap_alloc_new _ _
 have b1:((w.alloc (.cells #[.slice none 0 0] 26)).alloc (.cells #[.int .i64 0] 3)).heap[w.heap.size+1]?=some (.cells #[.int .i64 0] 3 (0,0)):=by
  have:=heap_alloc_new (w.alloc (.cells #[.slice none 0 0] 26)) (.cells #[.int .i64 0] 3);simpa using this
 rintro e w1 ⟨rfl,q⟩;have c0:=(q.block w.heap.size (by simp;omega)).trans b0;have c1:=(q.block (w.heap.size+1) (by simp)).trans b1;have k2:=k1.trans q;clear q b0 b1 k1 HH;have hs1:w.heap.size+1<w1.heap.size:=(Array.getElem?_eq_some_iff.1 c1).1;have hs0:w.heap.size<w1.heap.size:=by omega
 have n1:¬w.heap.size=w1.heap.size:=by omega
 have n2:¬w.heap.size+1=w1.heap.size:=by omega
 have n3:¬w.heap.size=w.heap.size+1:=by omega
 have n4:¬w.heap.size+1=w.heap.size:=by omega
 have c20:w1.cell? ⟨w.heap.size,0,none⟩=some (.slice none 0 0):=Ag c0 0 _ rfl;have c30:w1.cell? ⟨w.heap.size+1,0,none⟩=some (.int .i64 0):=Ag c1 0 _ rfl;have f20:=Am c0 0;have f30:=Am c1 0;have KK:=hid k2;clear k2;have fin:∀ (x q:Value) (o:Obj),(Ga w1 w.heap.size (w.heap.size+1) x q o).cell? ⟨w.heap.size,0,none⟩=some x∧(Ga w1 w.heap.size (w.heap.size+1) x q o).cell? ⟨w.heap.size+1,0,none⟩=some q∧Kept w (Ga w1 w.heap.size (w.heap.size+1) x q o):=by
  intro x q o;have g0:(Ga w1 w.heap.size (w.heap.size+1) x q o).heap[w.heap.size]?=some (.cells #[x] 26 (0,0)):=by
   unfold Ga;rw [Below.heap_alloc _ _ _ (by simp [World.setCell];omega)];exact Aw (Av c0 _) n3 _
  have g1:(Ga w1 w.heap.size (w.heap.size+1) x q o).heap[w.heap.size+1]?=some (.cells #[q] 3 (0,0)):=by
   unfold Ga;rw [Below.heap_alloc _ _ _ (by simp [World.setCell];omega)];exact Av (Aw c1 n4 _) _
  exact ⟨Ag g0 0 _ rfl,Ag g1 0 _ rfl,((KK.out.setCell (p:=⟨w.heap.size,0,none⟩) (Nat.le_refl _) x).setCell (p:=⟨w.heap.size+1,0,none⟩) (Nat.le_succ _) q).alloc (by simpa [World.setCell] using KK.out.size) o⟩
 have FF:=hid fin;clear fin;simp only [];refine leaves_cons (f:=77) (args:=#[.pointer (some ⟨w.heap.size,0,none⟩),.pointer (some ⟨w.heap.size+1,0,none⟩)]) (by simp) (by simp [go_sem]) ?_;refine (Tr _ _ _ _ _ _ c0 c1 n3).mono ?_;rintro e u' w2 ⟨rfl,rfl,rfl⟩;obtain ⟨d0,d1,kk⟩:=FF.out (.slice none 0 0) (.int .i64 k) (.cells #[.int .i64 k] 112);refine ⟨.tuple #[.slice none 0 0,.int .i64 k],?_,?_⟩
 ·change (results Tryz.f44 _).run Tryz.prog (Ga w1 w.heap.size (w.heap.size+1) (.slice none 0 0) (.int .i64 k) (.cells #[.int .i64 k] 112)).drew=.ok _ (Ga w1 w.heap.size (w.heap.size+1) (.slice none 0 0) (.int .i64 k) (.cells #[.int .i64 k] 112)).drew;generalize Ga w1 w.heap.size (w.heap.size+1) (.slice none 0 0) (.int .i64 k) (.cells #[.int .i64 k] 112)=W at *;simp [results,Tryz.results44,go_sem,d0,d1]
 ·exact ⟨rfl,kk.drew⟩
def GoF (P:Value→World→Prop) (k:Int) (w:World) (e:Ending) (w':World):Prop:=Kept w w'∧((k=0∧∃ v,e=.returned v∧P v w')∨(k≠0∧e=.panicked (Ch 112 k)))
theorem Ai6 (w:World)(x y z:Value):∃ W,W=(w.alloc (.cells #[x,y,z] 30)).alloc (.cells #[.bool false,.slice none 0 0,.int .i64 0] 30) ∧
 Kept w W∧Blk W w.heap.size x y z∧Blk W (w.heap.size+1) (.bool false) (.slice none 0 0) (.int .i64 0) :=
 ⟨_,rfl,(Ad _ _).trans (Ad _ _),Bn (blk_new _ _ _ _) _,C8 _ _ _ _ _⟩
theorem Xa {w:World}{v:Value}{d:Dy}{k:Int}(hv:DyR w v d.raw) :
 Calls Tryz.prog 117 #[v,.int .i64 k] w (GoF (fun v' w'=>DyR w' v' d.raw) k w):=by
 obtain ⟨A,l,c,rfl,-,h1,g1,g2⟩:=hv.shape;have LA:=hid h1;have GA:=hid g1;have GA':=hid g2;clear hv h1 g1 g2;simp only [Dy.raw] at *;obtain ⟨W,hW,kW,BA,BC⟩:=Ai6 w (.bool d.neg) (.slice A l c) (.int .i64 d.e);have HW:=hid hW;have K:=hid kW;have HA:=hid BA;have HC:=hid BC;clear hW kW BA BC;generalize d.neg=n at *;generalize d.e=e1' at *;by_cases k0:k=0
 ·subst k0;go_enter Tryz.func117,Tryz.ntmps117;go_wp2_with fail;rw [←HW.out];refine (F6 0 _).mono ?_;rintro _ w1 ⟨rfl,q⟩;replace K:=hid (K.out.trans q);replace HA:=hid (HA.out.kept q);replace HC:=hid (HC.out.kept q);clear q;obtain ⟨-,a0,a1,a2,-⟩:=HA.out.facts;obtain ⟨-,c0,c1,c2,f0,f1,f2⟩:=HC.out.facts;simp only [];go_wp2_with fail;exact Co (HC.out.laid _ _ _) rfl rfl rfl ⟨Bj K.out (by omega),.inl ⟨rfl,_,rfl,((LA.out.kept K.out).dyW HC.out (An _) (Ak _ _ _) (Aq _)).dyR (r:=⟨_,_,_⟩) GA.out GA'.out⟩⟩
 ·have e0:(k==0)=false:=by simpa using k0
  go_enter Tryz.func117,Tryz.ntmps117;go_wp2_with fail;rw [←HW.out];refine (Ow false k _).mono ?_;rintro e w1 ⟨he,rfl⟩;obtain rfl:e=.panicked (Ch 112 k):=he;exact ⟨rfl,K.out,.inr ⟨k0,rfl⟩⟩
theorem rowF_c {w:World}{v:Value}{k:Int} :
 Calls Tryz.prog 48 #[v,.int .i64 k] w (GoF (fun v' _=>v'=v) k w):=by
 by_cases k0:k=0
 ·subst k0;go_enter Tryz.func48,Tryz.ntmps48;go_wp2_with fail;refine (F6 0 _).mono ?_;rintro _ w1 ⟨rfl,q⟩;simp only [];go_wp2_with fail;go_ret;exact ⟨q,.inl ⟨rfl,_,rfl,rfl⟩⟩
 ·have e0:(k==0)=false:=by simpa using k0
  go_enter Tryz.func48,Tryz.ntmps48;go_wp2_with fail;refine (Ow false k _).mono ?_;rintro e w1 ⟨he,rfl⟩;obtain rfl:e=.panicked (Ch 112 k):=he;exact ⟨rfl,Below.refl _ _,.inr ⟨k0,rfl⟩⟩
theorem Tv (b2:Nat)(w:World) :
 CallsD Tryz.prog 120 #[.pointer (some ⟨b2,0,none⟩)] .returning w fun e u' w' =>
  e=.returned (.tuple #[])∧u'=.returning∧w'=w.alloc (.cells #[.int .i64 0] 112):=by
 have ha:=Ht;refine callsD_of_wpS Tryz.func120 rfl fun c₀ cs hu=>?_
 simp only [Tryz.ntmps120,List.size_toArray,List.length_cons,List.length_nil,Nat.reduceAdd,Nat.reduceSub,Array.replicate_succ,
  Array.replicate_zero,List.push_toArray,List.append_toArray,List.nil_append,List.cons_append]
 refine Ct (v:=.nilIface) (cs':=c₀::cs) (w':=w) rfl ?_ ?_ ?_
 ·simp [go_sem]
 ·rw [recoverD,hu];exact ⟨rfl,rfl⟩
 go_wp2_with fail;exact ⟨rfl,.returning,by rw [←hu],_,results_none rfl _ _ _,rfl,rfl,rfl⟩
theorem Tq (b2:Nat)(w:World) :
 CallsD Tryz.prog 118 #[.pointer (some ⟨b2,0,none⟩)] .returning w fun e u' w' =>
  e=.returned (.tuple #[])∧u'=.returning∧w'=w.alloc (.cells #[.int .i64 0] 112):=by
 have ha:=Ht;refine callsD_of_wpS Tryz.func118 rfl fun c₀ cs hu=>?_
 simp only [Tryz.ntmps118,List.size_toArray,List.length_cons,List.length_nil,Nat.reduceAdd,Nat.reduceSub,Array.replicate_succ,
  Array.replicate_zero,List.push_toArray,List.append_toArray,List.nil_append,List.cons_append]
 refine Ct (v:=.nilIface) (cs':=c₀::cs) (w':=w) rfl ?_ ?_ ?_
 ·simp [go_sem]
 ·rw [recoverD,hu];exact ⟨rfl,rfl⟩
 go_wp2_with fail;exact ⟨rfl,.returning,by rw [←hu],_,results_none rfl _ _ _,rfl,rfl,rfl⟩
def TrR (b0 v:Value) (T:TypeId) (R:World→World→Prop) (w:World) (w':World):Prop :=
 ∃ w1 w2,w1=w.alloc (.cells #[b0] T)∧R w1 w2∧w'=(w2.setCell ⟨w.heap.size,0,none⟩ v).alloc (.cells #[.int .i64 0] 112)
theorem Kv {w:World}{K:Nat}{cap:Array Value}{R:World→World→Prop}
 (h:∀ w1,w1=w.alloc (.cells #[.bool false] 4)→Calls Tryz.prog K cap w1 (fun e w2=>e=.returned (.tuple #[])∧R w1 w2∧∃ x,w2.heap[w.heap.size]?=some (.cells #[x] 4 (0,0))))
 (hk:∀ w,(callFunc K cap).run Tryz.prog w=.ok (.enter K cap) w) :
 Calls Tryz.prog 83 #[.func (.func K) #[] cap] w (fun e w'=>e=.returned (.bool true)∧TrR (.bool false) (.bool true) 4 R w w'):=by
 have hmf:=Es;have HH:=hid h;clear h
 go_enter_defers Tryz.func83,Tryz.ntmps83
 go_wp2_with fail;refine (HH.out _ rfl).mono ?_;rintro e w2 ⟨rfl,hr,x,hx⟩;have c20:w2.cell? ⟨w.heap.size,0,none⟩=some x:=Ag hx 0 _ rfl;have f20:=Am hx 0;have HR:=hid hr;have HX:=hid hx;clear hr hx HH;simp only [];go_wp2_with fail;refine leaves_cons (f:=120) (args:=#[.pointer (some ⟨w.heap.size,0,none⟩)]) (by simp) (by simp [go_sem]) ?_;refine (Tv _ _).mono ?_;rintro e u' w3 ⟨rfl,rfl,rfl⟩;have lt:w.heap.size<w2.heap.size:=(Array.getElem?_eq_some_iff.1 HX.out).1;have d0:((w2.setCell ⟨w.heap.size,0,none⟩ (.bool true)).alloc (.cells #[.int .i64 0] 112)).cell? ⟨w.heap.size,0,none⟩=some (.bool true):=by
  have g0:((w2.setCell ⟨w.heap.size,0,none⟩ (.bool true)).alloc (.cells #[.int .i64 0] 112)).heap[w.heap.size]?=some (.cells #[.bool true] 4 (0,0)):=by
   rw [Below.heap_alloc _ _ _ (by simp [World.setCell];omega)];exact Av HX.out _
  exact Ag g0 0 _ rfl
 refine ⟨.bool true,?_,?_⟩
 ·change (results Tryz.f83 _).run Tryz.prog ((w2.setCell ⟨w.heap.size,0,none⟩ (.bool true)).alloc (.cells #[.int .i64 0] 112))=.ok _ ((w2.setCell ⟨w.heap.size,0,none⟩ (.bool true)).alloc (.cells #[.int .i64 0] 112));generalize (w2.setCell ⟨w.heap.size,0,none⟩ (.bool true)).alloc (.cells #[.int .i64 0] 112)=W at *;simp [results,Tryz.results83,go_sem,d0]
 ·exact ⟨rfl,_,w2,rfl,HR.out,rfl⟩
theorem Zh {w:World}{K:Nat}{cap:Array Value}{R:World→World→Prop}
 (h:∀ w1,w1=w.alloc (.cells #[.int .i64 0] 3)→Calls Tryz.prog K cap w1 (fun e w2=>e=.returned (.tuple #[])∧R w1 w2∧∃ x,w2.heap[w.heap.size]?=some (.cells #[x] 3 (0,0))))
 (hk:∀ w,(callFunc K cap).run Tryz.prog w=.ok (.enter K cap) w) :
 Calls Tryz.prog 80 #[.func (.func K) #[] cap] w (fun e w'=>e=.returned (.int .i64 0)∧TrR (.int .i64 0) (.int .i64 0) 3 R w w'):=by
 have hmf:=Es;have HH:=hid h;clear h
 go_enter_defers Tryz.func80,Tryz.ntmps80
 go_wp2_with fail;refine (HH.out _ rfl).mono ?_;rintro e w2 ⟨rfl,hr,x,hx⟩;have c20:w2.cell? ⟨w.heap.size,0,none⟩=some x:=Ag hx 0 _ rfl;have f20:=Am hx 0;have HR:=hid hr;have HX:=hid hx;clear hr hx HH;simp only [];go_wp2_with fail;refine leaves_cons (f:=118) (args:=#[.pointer (some ⟨w.heap.size,0,none⟩)]) (by simp) (by simp [go_sem]) ?_;refine (Tq _ _).mono ?_;rintro e u' w3 ⟨rfl,rfl,rfl⟩;have lt:w.heap.size<w2.heap.size:=(Array.getElem?_eq_some_iff.1 HX.out).1;have d0:((w2.setCell ⟨w.heap.size,0,none⟩ (.int .i64 0)).alloc (.cells #[.int .i64 0] 112)).cell? ⟨w.heap.size,0,none⟩=some (.int .i64 0):=by
  have g0:((w2.setCell ⟨w.heap.size,0,none⟩ (.int .i64 0)).alloc (.cells #[.int .i64 0] 112)).heap[w.heap.size]?=some (.cells #[.int .i64 0] 3 (0,0)):=by
   rw [Below.heap_alloc _ _ _ (by simp [World.setCell];omega)];exact Av HX.out _
  exact Ag g0 0 _ rfl
 refine ⟨.int .i64 0,?_,?_⟩
 ·change (results Tryz.f80 _).run Tryz.prog ((w2.setCell ⟨w.heap.size,0,none⟩ (.int .i64 0)).alloc (.cells #[.int .i64 0] 112))=.ok _ ((w2.setCell ⟨w.heap.size,0,none⟩ (.int .i64 0)).alloc (.cells #[.int .i64 0] 112));generalize (w2.setCell ⟨w.heap.size,0,none⟩ (.int .i64 0)).alloc (.cells #[.int .i64 0] 112)=W at *;simp [results,Tryz.results80,go_sem,d0]
 ·exact ⟨rfl,_,w2,rfl,HR.out,rfl⟩
end Go.Proofs.YtmgaloopddiekaaGreatDoor
