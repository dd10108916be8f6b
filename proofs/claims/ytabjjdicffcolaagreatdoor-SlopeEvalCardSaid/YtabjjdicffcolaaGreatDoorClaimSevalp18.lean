/- Words and contracts, part 18. -/
import Derived.Test.YtabjjdicffcolaaGreatDoorClaimSevalp17
set_option maxRecDepth 100000
set_option maxHeartbeats 0
namespace Go.Proofs.YtabjjdicffcolaaGreatDoor
open Go.Lib (hid)
open Go.RowKit
theorem Dr {x:Dy}(h:x.Ok):x.raw.m.length≤64:=h.len
theorem Aie {w:World}{va vb:Value}{x y:Dy}(ha:DyR w va x.raw)(hb:DyR w vb y.raw)(hx:x.Ok)(hy:y.Ok)(hT:Tab w) :
 Calls Tryz.prog 177 #[va,vb] w (Goes 129 (Dj x y).raw w):=by
 by_cases hx0:x.m=0
 ·unfold Dj;rw [if_pos hx0,show (good y).raw=⟨y.raw,0⟩ from rfl];have hc:=fun w1 (k:Kept w w1)=>Qo (hb.kept k) (by have:=Dr hy;omega)
  obtain ⟨A,l,c,rfl,hl,-,-,-⟩:=ha.shape;obtain ⟨A2,l2,c2,rfl,-,-,g1,g2⟩:=hb.shape;have hl0:l=0:=by rw [hl];simp only [Dy.raw];rw [hx0,Aw];rfl
  subst hl0;have HC:=hid hc;clear hc hl ha hb hx hx0 hT hy;generalize hn:x.raw.neg=n1 at *;generalize x.raw.e=e1 at *;clear hn;generalize y.raw=r at *;obtain ⟨W,hW,kW,B0,B1,B2⟩:=Jg w (.bool n1) (.slice A 0 c) (.int .i64 e1) (.bool r.neg) (.slice A2 l2 c2) (.int .i64 r.e);have HW:=hid hW;have HK:=hid kW;have HB:=hid B2;clear hW kW B0 B1 B2;go_enter Tryz.func177,Tryz.ntmps177
  go_wp2_with (go_at_call 181;rw [←HW.out];refine (HC.out _ HK.out).mono ?_;rintro e w1 ⟨q,u,rfl,hd⟩;obtain ⟨A',l',c',rfl,-,hd,g3,g4⟩:=hd.shape;have HD:=hid hd;have hb2:=HB.out.kept q;obtain ⟨_,c0,c1,c2,f0,f1,f2⟩:=hb2.facts;have HB2:=hid hb2;clear hd hb2)
  exact Ca (HB2.out.laid _ _ _) rfl rfl rfl ⟨Am (HK.out.trans q) (by omega),.inl ⟨rfl,_,rfl,(HD.out.dyW HB2.out (Ah _) (Ag _ _ _) (Af _)).dyR g3 g4⟩⟩
 ·by_cases hy0:y.m=0
  ·unfold Dj;rw [if_neg hx0,if_pos hy0,show (good x).raw=⟨x.raw,0⟩ from rfl];have hc:=fun w1 (k:Kept w w1)=>Qo (ha.kept k) (by have:=Dr hx;omega)
   obtain ⟨A,l,c,rfl,hl1,-,-,-⟩:=ha.shape;obtain ⟨A2,l2,c2,rfl,hl,-,g1,g2⟩:=hb.shape;have hl0:l2=0:=by rw [hl];simp only [Dy.raw];rw [hy0,Aw];rfl
   subst hl0;have l0:((l:Int)==0)=false:=by have:=Bj x.m hx0;rw [beq_eq_false_iff_ne,hl1];simp only [Dy.raw];omega
   have HC:=hid hc;clear hc hl hl1 ha hb hx hx0 hT hy hy0;generalize hn:y.raw.neg=n2 at *;generalize y.raw.e=e2 at *;clear hn;generalize x.raw=r at *;obtain ⟨W,hW,kW,B0,B1,B2⟩:=Jg w (.bool r.neg) (.slice A l c) (.int .i64 r.e) (.bool n2) (.slice A2 0 c2) (.int .i64 e2);have HW:=hid hW;have HK:=hid kW;have HB:=hid B2;clear hW kW B0 B1 B2;go_enter Tryz.func177,Tryz.ntmps177
   go_wp2_with (go_at_call 181;rw [←HW.out];refine (HC.out _ HK.out).mono ?_;rintro e w1 ⟨q,u,rfl,hd⟩;obtain ⟨A',l',c',rfl,-,hd,g3,g4⟩:=hd.shape;have HD:=hid hd;have hb2:=HB.out.kept q;obtain ⟨_,c0,c1,c2,f0,f1,f2⟩:=hb2.facts;have HB2:=hid hb2;clear hd hb2)
   exact Ca (HB2.out.laid _ _ _) rfl rfl rfl ⟨Am (HK.out.trans q) (by omega),.inl ⟨rfl,_,rfl,(HD.out.dyW HB2.out (Ah _) (Ag _ _ _) (Af _)).dyR g3 g4⟩⟩
  ·exact Afc ha hb hx hy hT hx0 hy0
theorem N5 (d:Dy)(h:d.Ok):Ag5 d.raw=(D9 d).raw:=by
 unfold Ag5 D9;by_cases h0:d.m=0
 ·rw [if_pos h0,if_neg];rintro ⟨_,h1⟩;simp only [Dy.raw] at h1;rw [h0,Aw] at h1;exact absurd h1 (Nat.lt_irrefl 0)
 ·rw [if_neg h0,if_pos ⟨h.may,Bj d.m h0⟩];rfl
theorem Ajx {w:World}{va vb:Value}{x y:Dy}(ha:DyR w va x.raw)(hb:DyR w vb y.raw)(hx:x.Ok)(hy:y.Ok)(hT:Tab w) :
 Calls Tryz.prog 178 #[va,vb] w (Goes 129 (Dj x (D9 y)).raw w):=by
 have hn:=fun w1 (k:Kept w w1)=>Uc (hb.kept k) (by have:=Dr hy;omega)
 rw [N5 y hy] at hn;have hs:=fun w1 u (k:Kept w w1) (hu:DyR w1 u (D9 y).raw)=>Aie (ha.kept k) hu hx (Hg hy) (hT.kept k)
 obtain ⟨A,l,c,rfl,-,-,-,-⟩:=ha.shape;obtain ⟨A2,l2,c2,rfl,-,-,-,-⟩:=hb.shape;have HN:=hid hn;have HS:=hid hs;clear hn hs ha hb hx hy hT;generalize x.raw.neg=n1 at *;generalize x.raw.e=e1 at *;generalize y.raw.neg=n2 at *;generalize y.raw.e=e2 at *;generalize (D9 y).raw=r at *;generalize Dj x (D9 y)=o at *;obtain ⟨W,hW,kW,B0,B1,B2⟩:=Jg w (.bool n1) (.slice A l c) (.int .i64 e1) (.bool n2) (.slice A2 l2 c2) (.int .i64 e2);have HW:=hid hW;have HK:=hid kW;have HB0:=hid B0;have HB1:=hid B1;have HB2:=hid B2;clear hW kW B0 B1 B2;go_enter Tryz.func178,Tryz.ntmps178;go_wp2_with fail;rw [←HW.out]
 refine Ni 4 ([(vE (.agg #[.bool n1,.slice A l c,.int .i64 e1])),(vE (.agg #[.bool n2,.slice A2 l2 c2,.int .i64 e2])),(fun v wv=>DyR wv v r),(fun v wv=>o.raw.k=0∧DyR wv v o.raw.v)])
  ⟨
   (gql 2 fun _ k=>c3 HB0.out k),(gql 3 fun _ k=>c3 HB1.out k),(fun aF wF F=>by have s6:=F.v 1 6;exact sD (HN.out _ (HK.out.trans F.kept)) fun _ _ h=>h),(fun aF wF F=>by have s5:=F.v 0 5;have s7:=F.p 2 7;exact sG (HS.out _ _ (HK.out.trans F.kept) s7) (fun _ _ _ h0 h=>⟨h0,h⟩) (fun w2 k2 h0=>⟨F.defers,⟨HK.out.trans (F.kept.trans k2),.inr ⟨h0,rfl⟩⟩⟩)),
   trivial⟩ ?_
 intro u w1 k1 hu;have p7:=hp hu 2;have p8:=hp hu 3;simp only [Ay,An,if_true,Act.put,zlA,zlB,zlC,zlD,zlE,zlF,zlG,hv hu 0,hv hu 1];clear hu;generalize u 2=v7,u 3=v8 at *;obtain ⟨h0,hd⟩:=p8;obtain ⟨A',l',c',rfl,hd,g1,g2⟩:=Dt hd;have hb:=HB2.out.kept k1;obtain ⟨_,c0,c1,c2,f0,f1,f2⟩:=hb.facts;have HD:=hid hd;have H0:=hid h0;have HB:=hid hb;have K1:=hid k1;clear hd h0 hb k1 p7;go_simp;go_wp2_with fail;exact Ca (HB.out.laid _ _ _) rfl rfl rfl ⟨Am (HK.out.trans K1.out) (by omega),.inl ⟨H0.out,_,rfl,(HD.out.dyW HB.out (Ah _) (Ag _ _ _) (Af _)).dyR g1 g2⟩⟩
theorem Zb {w:World}{va vb:Value}{x y:Dy}(ha:DyR w va x.raw)(hb:DyR w vb y.raw)(hx:x.Ok)(hy:y.Ok)(hT:Tab w) :
 Calls Tryz.prog 133 #[va,vb] w (RetE (Dj x y).raw w):=by
 have hf:=fun w1 (k:Kept w w1)=>Afk (K:=177) (o:=(Dj x y).raw) (ha.kept k) (hb.kept k) (by have:=Dr hx;omega) (by have:=Dr hy;omega)
  (fun W k1 _ _=>Aie (ha.kept (k.trans k1)) (hb.kept (k.trans k1)) hx hy (hT.kept (k.trans k1)))
  (fun h=>by have:=Ii hx hy;show ((Dj x y).v).raw=rz;rw [this.2 h,Ez]) (fun _=>rfl)
 have e:Pe x.raw y.raw (Dj x y).raw=(Dj x y).raw:=by unfold Pe;rw [hx.may,hy.may];rfl
 rw [e] at hf;obtain ⟨A,l,c,rfl,-,-,-,-⟩:=ha.shape;obtain ⟨A2,l2,c2,rfl,-,-,-,-⟩:=hb.shape;have HF:=hid hf;clear hf ha hb hx hy hT e;generalize (Dj x y).raw=o at *;generalize x.raw.neg=n1 at *;generalize x.raw.e=e1 at *;generalize y.raw.neg=n2 at *;generalize y.raw.e=e2 at *;obtain ⟨W,hW,kW,B0,B1,B2⟩:=Jg w (.bool n1) (.slice A l c) (.int .i64 e1) (.bool n2) (.slice A2 l2 c2) (.int .i64 e2);have HW:=hid hW;have HK:=hid kW;have HB:=hid B2;clear hW kW B0 B1 B2;go_enter Tryz.func133,Tryz.ntmps133
 go_wp2_with (go_at_call 176;rw [←HW.out];refine (HF.out _ HK.out).mono ?_;rintro e w1 ⟨q,u,rfl,hd⟩;obtain ⟨A',l',c',rfl,-,hd,g3,g4⟩:=hd.shape;have HD:=hid hd;have hb2:=HB.out.kept q;obtain ⟨_,c0,c1,c2,f0,f1,f2⟩:=hb2.facts;have HB2:=hid hb2;clear hd hb2)
 exact Dv (HB2.out.laid _ _ _) rfl rfl rfl ⟨Am (HK.out.trans q) (by omega),_,rfl,(HD.out.dyW HB2.out (Ah _) (Ag _ _ _) (Af _)).dyR g3 g4⟩
theorem Ah4 {w:World}{va vb:Value}{x y:Dy}(ha:DyR w va x.raw)(hb:DyR w vb y.raw)(hx:x.Ok)(hy:y.Ok)(hT:Tab w) :
 Calls Tryz.prog 135 #[va,vb] w (RetE (Dj x (D9 y)).raw w):=by
 have hf:=fun w1 (k:Kept w w1)=>Afk (K:=178) (o:=(Dj x (D9 y)).raw) (ha.kept k) (hb.kept k) (by have:=Dr hx;omega) (by have:=Dr hy;omega)
  (fun W k1 _ _=>Ajx (ha.kept (k.trans k1)) (hb.kept (k.trans k1)) hx hy (hT.kept (k.trans k1)))
  (fun h=>by have:=Ii hx (Hg hy);show ((Dj x (D9 y)).v).raw=rz;rw [this.2 h,Ez]) (fun _=>rfl)
 have e:Pe x.raw y.raw (Dj x (D9 y)).raw=(Dj x (D9 y)).raw:=by unfold Pe;rw [hx.may,hy.may];rfl
 rw [e] at hf;obtain ⟨A,l,c,rfl,-,-,-,-⟩:=ha.shape;obtain ⟨A2,l2,c2,rfl,-,-,-,-⟩:=hb.shape;have HF:=hid hf;clear hf ha hb hx hy hT e;generalize (Dj x (D9 y)).raw=o at *;generalize x.raw.neg=n1 at *;generalize x.raw.e=e1 at *;generalize y.raw.neg=n2 at *;generalize y.raw.e=e2 at *;obtain ⟨W,hW,kW,B0,B1,B2⟩:=Jg w (.bool n1) (.slice A l c) (.int .i64 e1) (.bool n2) (.slice A2 l2 c2) (.int .i64 e2);have HW:=hid hW;have HK:=hid kW;have HB:=hid B2;clear hW kW B0 B1 B2;go_enter Tryz.func135,Tryz.ntmps135
 go_wp2_with (go_at_call 176;rw [←HW.out];refine (HF.out _ HK.out).mono ?_;rintro e w1 ⟨q,u,rfl,hd⟩;obtain ⟨A',l',c',rfl,-,hd,g3,g4⟩:=hd.shape;have HD:=hid hd;have hb2:=HB.out.kept q;obtain ⟨_,c0,c1,c2,f0,f1,f2⟩:=hb2.facts;have HB2:=hid hb2;clear hd hb2)
 exact Dv (HB2.out.laid _ _ _) rfl rfl rfl ⟨Am (HK.out.trans q) (by omega),_,rfl,(HD.out.dyW HB2.out (Ah _) (Ag _ _ _) (Af _)).dyR g3 g4⟩
theorem Ph {w:World}{va vb:Value}{x y:Dy}(ha:DyR w va x.raw)(hb:DyR w vb y.raw)(hx:x.Ok)(hy:y.Ok)(hT:Tab w) :
 Calls Tryz.prog 137 #[va,vb] w (RetE (Ch x y).raw w):=by
 have hf:=fun w1 (k:Kept w w1)=>Afk (K:=179) (o:=(Ch x y).raw) (ha.kept k) (hb.kept k) (by have:=Dr hx;omega) (by have:=Dr hy;omega)
  (fun W k1 _ _=>Ajj (ha.kept (k.trans k1)) (hb.kept (k.trans k1)) hx hy (hT.kept (k.trans k1)))
  (fun h=>by have:=Hf x y;show ((Ch x y).v).raw=rz;rw [this.2 h,Ez]) (fun _=>rfl)
 have e:Pe x.raw y.raw (Ch x y).raw=(Ch x y).raw:=by unfold Pe;rw [hx.may,hy.may];rfl
 rw [e] at hf;obtain ⟨A,l,c,rfl,-,-,-,-⟩:=ha.shape;obtain ⟨A2,l2,c2,rfl,-,-,-,-⟩:=hb.shape;have HF:=hid hf;clear hf ha hb hx hy hT e;generalize (Ch x y).raw=o at *;generalize x.raw.neg=n1 at *;generalize x.raw.e=e1 at *;generalize y.raw.neg=n2 at *;generalize y.raw.e=e2 at *;obtain ⟨W,hW,kW,B0,B1,B2⟩:=Jg w (.bool n1) (.slice A l c) (.int .i64 e1) (.bool n2) (.slice A2 l2 c2) (.int .i64 e2);have HW:=hid hW;have HK:=hid kW;have HB:=hid B2;clear hW kW B0 B1 B2;go_enter Tryz.func137,Tryz.ntmps137
 go_wp2_with (go_at_call 176;rw [←HW.out];refine (HF.out _ HK.out).mono ?_;rintro e w1 ⟨q,u,rfl,hd⟩;obtain ⟨A',l',c',rfl,-,hd,g3,g4⟩:=hd.shape;have HD:=hid hd;have hb2:=HB.out.kept q;obtain ⟨_,c0,c1,c2,f0,f1,f2⟩:=hb2.facts;have HB2:=hid hb2;clear hd hb2)
 exact Dv (HB2.out.laid _ _ _) rfl rfl rfl ⟨Am (HK.out.trans q) (by omega),_,rfl,(HD.out.dyW HB2.out (Ah _) (Ag _ _ _) (Af _)).dyR g3 g4⟩
theorem Qi (w:World)(x y z x' y' z':Value):∃ W,W=(w.alloc (.cells #[x,y,z] 28)).alloc (.cells #[x',y',z'] 28) ∧
 Kept w W∧Blk W w.heap.size x y z∧Blk W (w.heap.size+1) x' y' z' :=
 ⟨_,rfl,(Ad _ _).trans (Ad _ _),Bb (Bk _ _ _ _) _,Dp _ _ _ _ _⟩
theorem Af8 {w:World}{va vb:Value}{x y:Dy}(ha:DyR w va x.raw)(hb:DyR w vb y.raw)(hx:x.Ok)(hy:y.Ok)(hx0:x.m≠0)(hy0:y.m≠0) :
 Calls Tryz.prog 77 #[va,vb] w (RetK (.int .i64 (La x y)) w):=by
 obtain ⟨A,l,c,rfl,-,ha,-,-⟩:=ha.shape;obtain ⟨A2,l2,c2,rfl,-,hb,-,-⟩:=hb.shape;have hs1:=fun w1 (k:Kept w w1)=>Kx (ha.kept k) (by have:=hx.len;omega)
 have hs2:=fun w1 (k:Kept w w1)=>Kx (hb.kept k) (by have:=hy.len;omega)
 have bx:=Da x.m 64 hx.len;have bY:=Da y.m 64 hy.len;have x1:=hx.lo;have x2:=hx.hi;have y1:=hy.lo;have y2:=hy.hi;obtain ⟨j1,hj1⟩:∃ j:Nat,x.e-min x.e y.e=j:=⟨(x.e-min x.e y.e).toNat,by omega⟩;obtain ⟨j2,hj2⟩:∃ j:Nat,y.e-min x.e y.e=j:=⟨(y.e-min x.e y.e).toNat,by omega⟩;have b1:j1≤2097152:=by omega
 have b2:j2≤2097152:=by omega
 have hl1:=fun w1 (k:Kept w w1)=>Lp (ha.kept k) j1 (by have:=hx.len;omega) (by omega)
 have hl2:=fun w1 (k:Kept w w1)=>Lp (hb.kept k) j2 (by have:=hy.len;omega) (by omega)
 have lx:(Ai (x.m*2^j1)).length≤40000:=Cx _ _ (by rw [Gs _ _ hx0];omega);have ly:(Ai (y.m*2^j2)).length≤40000:=Cx _ _ (by rw [Gs _ _ hy0];omega);have ho:=fun w1 v u (h1:Lim w1 v (Ai (x.m*2^j1))) (h2:Lim w1 u (Ai (y.m*2^j2)))=>Ks h1 h2 (by omega) (by omega)
 have hwx:IntKind.i64.wrap ((bl x.m:Int)+x.e)=(bl x.m:Int)+x.e:=by simp [IntKind.wrap_i64];omega
 have hwy:IntKind.i64.wrap ((bl y.m:Int)+y.e)=(bl y.m:Int)+y.e:=by simp [IntKind.wrap_i64];omega
 have hw1:IntKind.i64.wrap (x.e-min x.e y.e)=(j1:Int):=by rw [hj1];simp [IntKind.wrap_i64];omega
 have hw2:IntKind.i64.wrap (y.e-min x.e y.e)=(j2:Int):=by rw [hj2];simp [IntKind.wrap_i64];omega
 have hD:La x y=if (bl x.m:Int)+x.e<bl y.m+y.e then -1 else if (bl y.m:Int)+y.e<bl x.m+x.e then 1 else Em (x.m*2^j1) (y.m*2^j2):=by
  unfold La;rw [hj1,hj2];rfl
 have HD:=hid hD;have H1:=hid hs1;have H2:=hid hs2;have L1:=hid hl1;have L2:=hid hl2;have HO:=hid ho;clear hD hs1 hs2 hl1 hl2 ho lx ly ha hb bx bY x1 x2 y1 y2 hx hy hx0 hy0 b1 b2 hj1 hj2;generalize Ai (x.m*2^j1)=xs at *;generalize Ai (y.m*2^j2)=ys at *;generalize Em (x.m*2^j1) (y.m*2^j2)=cc at *;obtain ⟨sx,hsx⟩:∃ sx,(bl x.m:Int)+x.e=sx:=⟨_,rfl⟩;obtain ⟨sy,hsy⟩:∃ sy,(bl y.m:Int)+y.e=sy:=⟨_,rfl⟩;rw [hsx,hsy] at HD;rw [hsx] at hwx;rw [hsy] at hwy;have HX:=hid hsx;have HY:=hid hsy;clear hsx hsy;obtain ⟨lo,hlo⟩:∃ lo,min x.e y.e=lo:=⟨_,rfl⟩;rw [hlo] at hw1 hw2;have HL:=hid hlo;clear hlo;generalize bl x.m=bx at *
 generalize bl y.m=bY at *;have hsz:=HD.out;generalize La x y=res at *;simp only [Dy.raw] at *;generalize x.neg=n1 at *;generalize x.e=e1 at *;generalize y.neg=n2 at *;generalize y.e=e2 at *;clear HD;obtain ⟨W,hW,kW,B0,B1⟩:=Qi w (.bool n1) (.slice A l c) (.int .i64 e1) (.bool n2) (.slice A2 l2 c2) (.int .i64 e2);have HW:=hid hW;have HK:=hid kW;have HB0:=hid B0;have HB1':=hid B1;clear hW kW B0 B1;by_cases h1:sx<sy
 ·rw [if_pos h1] at hsz;subst hsz;have d1:decide (sx<sy)=true:=by simp [h1]
  clear h1;go_enter Tryz.func77,Tryz.ntmps77;go_wp2_with fail;rw [←HW.out]
  refine rgL 14 ([(vP w.heap.size 1),(vE (.slice A l c)),(vE (.int .i64 bx)),(vP w.heap.size 2),(vE (.int .i64 e1)),(vE (.int .i64 sx)),(vP (w.heap.size+1) 1),(vE (.slice A2 l2 c2)),(vE (.int .i64 bY)),(vP (w.heap.size+1) 2),(vE (.int .i64 e2)),(vE (.int .i64 sy)),(vE (.int .i64 sx)),(vE (.int .i64 sy))])
   ⟨
    (gq 2),(gvl 0 8 fun _ k=>Aj HB0.out k 1 _ rfl),(fun aF wF F=>by have s9:=F.v 1 9;exact sQ (H1.out _ (HK.out.trans F.kept)) fun _ _ h=>h),(gq 2),(gvl 3 11 fun _ k=>Aj HB0.out k 2 _ rfl),(fun aF wF F=>by have s10:=F.v 2 10;have s12:=F.v 4 12;exact sw (by have:=HX.out;go_simp) rfl),(gq 3),(gvl 6 14 fun _ k=>Aj HB1'.out k 1 _ rfl),(fun aF wF F=>by have s15:=F.v 7 15;exact sQ (H2.out _ (HK.out.trans F.kept)) fun _ _ h=>h),(gq 3),(gvl 9 17 fun _ k=>Aj HB1'.out k 2 _ rfl),(fun aF wF F=>by have s16:=F.v 8 16;have s18:=F.v 10 18;exact sw (by have:=HY.out;go_simp) rfl),(gv 5 13),(gv 11 19),
    trivial⟩ ?_
  intro u w1 k1 hu;simp only [Ay,An,if_true,Act.put,zlA,zlB,zlC,zlD,zlE,zlF,zlG,hv hu 0,hv hu 1,hv hu 2,hv hu 3,hv hu 4,hv hu 5,hv hu 6,hv hu 7,hv hu 8,hv hu 9,hv hu 10,hv hu 11,hv hu 12,hv hu 13];clear hu;go_wp2_with fail;go_ret;exact ⟨rfl,HK.out.trans k1⟩
 ·rw [if_neg h1] at hsz;have d1:decide (sx<sy)=false:=by simp;omega
  clear h1;by_cases h2:sy<sx
  ·rw [if_pos h2] at hsz;subst hsz;have d2:decide (sy<sx)=true:=by simp [h2]
   clear h2;go_enter Tryz.func77,Tryz.ntmps77;go_wp2_with fail;rw [←HW.out]
   refine rgL 14 ([(vP w.heap.size 1),(vE (.slice A l c)),(vE (.int .i64 bx)),(vP w.heap.size 2),(vE (.int .i64 e1)),(vE (.int .i64 sx)),(vP (w.heap.size+1) 1),(vE (.slice A2 l2 c2)),(vE (.int .i64 bY)),(vP (w.heap.size+1) 2),(vE (.int .i64 e2)),(vE (.int .i64 sy)),(vE (.int .i64 sx)),(vE (.int .i64 sy))])
    ⟨
     (gq 2),(gvl 0 8 fun _ k=>Aj HB0.out k 1 _ rfl),(fun aF wF F=>by have s9:=F.v 1 9;exact sQ (H1.out _ (HK.out.trans F.kept)) fun _ _ h=>h),(gq 2),(gvl 3 11 fun _ k=>Aj HB0.out k 2 _ rfl),(fun aF wF F=>by have s10:=F.v 2 10;have s12:=F.v 4 12;exact sw (by have:=HX.out;go_simp) rfl),(gq 3),(gvl 6 14 fun _ k=>Aj HB1'.out k 1 _ rfl),(fun aF wF F=>by have s15:=F.v 7 15;exact sQ (H2.out _ (HK.out.trans F.kept)) fun _ _ h=>h),(gq 3),(gvl 9 17 fun _ k=>Aj HB1'.out k 2 _ rfl),(fun aF wF F=>by have s16:=F.v 8 16;have s18:=F.v 10 18;exact sw (by have:=HY.out;go_simp) rfl),(gv 5 13),(gv 11 19),
     trivial⟩ ?_
   intro u w1 k1 hu;simp only [Ay,An,if_true,Act.put,zlA,zlB,zlC,zlD,zlE,zlF,zlG,hv hu 0,hv hu 1,hv hu 2,hv hu 3,hv hu 4,hv hu 5,hv hu 6,hv hu 7,hv hu 8,hv hu 9,hv hu 10,hv hu 11,hv hu 12,hv hu 13];clear hu;go_wp2_with fail;go_ret;exact ⟨rfl,HK.out.trans k1⟩
  ·rw [if_neg h2] at hsz;subst hsz;have d2:decide (sy<sx)=false:=by simp;omega
   clear h2;go_enter Tryz.func77,Tryz.ntmps77;go_wp2_with fail;rw [←HW.out]
   refine rgL 14 ([(vP w.heap.size 1),(vE (.slice A l c)),(vE (.int .i64 bx)),(vP w.heap.size 2),(vE (.int .i64 e1)),(vE (.int .i64 sx)),(vP (w.heap.size+1) 1),(vE (.slice A2 l2 c2)),(vE (.int .i64 bY)),(vP (w.heap.size+1) 2),(vE (.int .i64 e2)),(vE (.int .i64 sy)),(vE (.int .i64 sx)),(vE (.int .i64 sy))])
    ⟨
     (gq 2),(gvl 0 8 fun _ k=>Aj HB0.out k 1 _ rfl),(fun aF wF F=>by have s9:=F.v 1 9;exact sQ (H1.out _ (HK.out.trans F.kept)) fun _ _ h=>h),(gq 2),(gvl 3 11 fun _ k=>Aj HB0.out k 2 _ rfl),(fun aF wF F=>by have s10:=F.v 2 10;have s12:=F.v 4 12;exact sw (by have:=HX.out;go_simp) rfl),(gq 3),(gvl 6 14 fun _ k=>Aj HB1'.out k 1 _ rfl),(fun aF wF F=>by have s15:=F.v 7 15;exact sQ (H2.out _ (HK.out.trans F.kept)) fun _ _ h=>h),(gq 3),(gvl 9 17 fun _ k=>Aj HB1'.out k 2 _ rfl),(fun aF wF F=>by have s16:=F.v 8 16;have s18:=F.v 10 18;exact sw (by have:=HY.out;go_simp) rfl),(gv 5 13),(gv 11 19),
     trivial⟩ ?_
   intro u w1 k1 hu;simp only [Ay,An,if_true,Act.put,zlA,zlB,zlC,zlD,zlE,zlF,zlG,hv hu 0,hv hu 1,hv hu 2,hv hu 3,hv hu 4,hv hu 5,hv hu 6,hv hu 7,hv hu 8,hv hu 9,hv hu 10,hv hu 11,hv hu 12,hv hu 13];clear hu;obtain ⟨-,a0,a1,a2,-⟩:=(HB0.out.kept k1).facts;obtain ⟨-,b0,b1,b2,-⟩:=(HB1'.out.kept k1).facts;go_wp2_with fail;rw [HL.out];have K1:=hid k1;clear a0 a1 a2 b0 b1 b2 k1 hwx hwy d1 d2
   refine rgL 16 ([(vP w.heap.size 1),(vE (.slice A l c)),(vP w.heap.size 2),(vE (.int .i64 e1)),(vE (.int .i64 lo)),(vE (.int .i64 j1)),(fun v wv=>Lim wv v (xs)),(vP (w.heap.size+1) 1),(vE (.slice A2 l2 c2)),(vP (w.heap.size+1) 2),(vE (.int .i64 e2)),(vE (.int .i64 lo)),(vE (.int .i64 j2)),(fun v wv=>Lim wv v (ys)),(vE (.int .i64 res)),(vE (.int .i64 res))])
    ⟨
     (gq 2),(gvl 0 33 fun _ k=>Aj (HB0.out.kept K1.out) k 1 _ rfl),(gq 2),(gvl 2 35 fun _ k=>Aj (HB0.out.kept K1.out) k 2 _ rfl),(gq 7),(gvv 3 36 4 37),(fun aF wF F=>by have s34:=F.v 1 34;have s38:=F.v 5 38;exact sL (L1.out _ (HK.out.trans (K1.out.trans F.kept))) fun _ _ h=>h),(gq 3),(gvl 7 40 fun _ k=>Aj (HB1'.out.kept K1.out) k 1 _ rfl),(gq 3),(gvl 9 42 fun _ k=>Aj (HB1'.out.kept K1.out) k 2 _ rfl),(gq 7),(gvv 10 43 11 44),(fun aF wF F=>by have s41:=F.v 8 41;have s45:=F.v 12 45;exact sL (L2.out _ (HK.out.trans (K1.out.trans F.kept))) fun _ _ h=>h),(fun aF wF F=>by have s39:=F.p 6 39;have s46:=F.p 13 46;exact sQ (HO.out _ _ _ s39 s46) fun _ _ h=>h),(gv 14 47),
     trivial⟩ ?_
   intro u w1 k1 hu;have p39:=hp hu 6;have p46:=hp hu 13;simp only [Ay,An,if_true,Act.put,zlA,zlB,zlC,zlD,zlE,zlF,zlG,hv hu 0,hv hu 1,hv hu 2,hv hu 3,hv hu 4,hv hu 5,hv hu 7,hv hu 8,hv hu 9,hv hu 10,hv hu 11,hv hu 12,hv hu 14,hv hu 15];clear hu;generalize u 6=v39,u 13=v46 at *;clear p39 p46;go_wp2_with fail;go_ret;exact ⟨rfl,HK.out.trans (K1.out.trans k1)⟩
theorem Rv (d:Dy)(h:d.Ok):Ahl d.raw=sg d:=by
 unfold Ahl sg;by_cases h0:d.m=0
 ·rw [if_pos h0,if_pos (Or.inr (by simp only [Dy.raw];rw [h0,Aw];rfl))]
 ·rw [if_neg h0,if_neg]
  ·rfl
  ·rintro (h1 | h1)
   ·rw [h.may] at h1;cases h1
   ·have:=Bj d.m h0;simp only [Dy.raw] at h1;omega
theorem M6 {w:World}{va vb:Value}{x y:Dy}(ha:DyR w va x.raw)(hb:DyR w vb y.raw)(hx:x.Ok)(hy:y.Ok) :
 Calls Tryz.prog 40 #[va,vb] w (RetK (.int .i64 (Co x.q y.q)) w):=by
 have lx:=Dr hx;have ly:=Dr hy;have s1:=fun w1 (k:Kept w w1)=>Ud (ha.kept k) (by omega)
 have s2:=fun w1 (k:Kept w w1)=>Ud (hb.kept k) (by omega)
 have m1:=fun w1 (k:Kept w w1)=>Lq (ha.kept k) (by omega)
 have m2:=fun w1 (k:Kept w w1)=>Lq (hb.kept k) (by omega)
 have hsz:=fun w1 (k:Kept w w1) (h1:x.m≠0) (h2:y.m≠0)=>Af8 (ha.kept k) (hb.kept k) hx hy h1 h2
 rw [Rv x hx] at s1;rw [Rv y hy] at s2;rw [hx.may] at m1;rw [hy.may] at m2;have g1:=@Ac1 x y;have g2:=@Aiz x y;have g3:=@Ac2 x y;have c1:=J2 x;have c2:=J2 y;have z1:sg x≠0→x.m≠0:=fun h h0=>h (by unfold sg;rw [if_pos h0])
 have z2:sg y≠0→y.m≠0:=fun h h0=>h (by unfold sg;rw [if_pos h0])
 have hsr:La x y=-1∨La x y=0∨La x y=1:=by
  unfold La Em;split
  ·exact .inl rfl
  ·split
   ·exact .inr (.inr rfl)
   ·split
    ·exact .inl rfl
    ·split
     ·exact .inr (.inl rfl)
     ·exact .inr (.inr rfl)
 obtain ⟨A,l,c,rfl,-,ha,-,-⟩:=ha.shape;obtain ⟨A2,l2,c2',rfl,-,hb,-,-⟩:=hb.shape;have S1:=hid s1;have S2:=hid s2;have M1:=hid m1;have M2:=hid m2;have HZ:=hid hsz;have G1:=hid g1;have G2:=hid g2;have G3:=hid g3;have Z1:=hid z1;have Z2:=hid z2;have C1:=hid c1;have C2:=hid c2;have HR:=hid hsr;clear s1 s2 m1 m2 hsz g1 g2 g3 z1 z2 c1 c2 hsr ha hb lx ly hx hy;generalize Co x.q y.q=res at *;simp only [Dy.raw] at *;generalize x.neg=n1 at *;generalize x.e=e1 at *;generalize y.neg=n2 at *;generalize y.e=e2 at *;generalize La x y=zz at *;generalize sg x=g at *;generalize sg y=g' at *;obtain ⟨W,hW,kW,B0,B1⟩:=Qi w (.bool n1) (.slice A l c) (.int .i64 e1) (.bool n2) (.slice A2 l2 c2') (.int .i64 e2)
 have HW:=hid hW;have HK:=hid kW;have HB0:=hid B0;have HB1':=hid B1;clear hW kW B0 B1;by_cases h1:g<g'
 ·have hr:=G1.out h1;subst hr;have d1:(g==g')=false:=by rw [beq_eq_false_iff_ne];omega
  have d2:decide (g<g')=true:=by simp [h1]
  clear h1;go_enter Tryz.func40,Tryz.ntmps40;go_wp2_with fail;rw [←HW.out]
  refine rgL 6 ([(vE (.agg #[.bool n1,.slice A l c,.int .i64 e1])),(vE (.int .i64 g)),(vE (.agg #[.bool n2,.slice A2 l2 c2',.int .i64 e2])),(vE (.int .i64 g')),(vE (.int .i64 g)),(vE (.int .i64 g'))])
   ⟨
    (gql 2 fun _ k=>c3 HB0.out k),(fun aF wF F=>by have s7:=F.v 0 7;exact sK (S1.out _ (HK.out.trans F.kept)) fun _ _ h=>h),(gql 3 fun _ k=>c3 HB1'.out k),(fun aF wF F=>by have s9:=F.v 2 9;exact sK (S2.out _ (HK.out.trans F.kept)) fun _ _ h=>h),(gv 1 8),(gv 3 10),
    trivial⟩ ?_
  intro u w1 k1 hu;simp only [Ay,An,if_true,Act.put,zlA,zlB,zlC,zlD,zlE,zlF,zlG,hv hu 0,hv hu 1,hv hu 2,hv hu 3,hv hu 4,hv hu 5];clear hu;have KX:=hid k1;obtain ⟨-,a0,a1,a2,-⟩:=(HB0.out.kept k1).facts;obtain ⟨-,b0,b1,b2,-⟩:=(HB1'.out.kept k1).facts;clear k1 u;go_wp2_with fail;refine (M1.out _ (HK.out.trans KX.out)).mono ?_;rintro e w2 ⟨rfl,q⟩;replace KX:=hid (KX.out.trans q);clear a0 a1 a2 b0 b1 b2 q;obtain ⟨-,a0,a1,a2,-⟩:=(HB0.out.kept KX.out).facts;obtain ⟨-,b0,b1,b2,-⟩:=(HB1'.out.kept KX.out).facts;simp only [];go_wp2_with fail;refine (M2.out _ (HK.out.trans KX.out)).mono ?_;rintro e w3 ⟨rfl,q⟩
  replace KX:=hid (KX.out.trans q);clear a0 a1 a2 b0 b1 b2 q;obtain ⟨-,a0,a1,a2,-⟩:=(HB0.out.kept KX.out).facts;obtain ⟨-,b0,b1,b2,-⟩:=(HB1'.out.kept KX.out).facts;simp only [];go_wp2_with fail;go_ret;exact ⟨rfl,HK.out.trans KX.out⟩
 ·have d2:decide (g<g')=false:=by simp;omega
  by_cases h2:g=g'
  ·have hr:=G3.out h2;obtain rfl:=h2;have d1:(g==g)=true:=by rw [beq_iff_eq]
   by_cases h3:g=0
   ·rw [if_pos h3] at hr;subst hr;have d3:(g==0)=true:=by rw [beq_iff_eq];exact h3
    clear h1 h3;go_enter Tryz.func40,Tryz.ntmps40;go_wp2_with fail;rw [←HW.out]
    refine rgL 6 ([(vE (.agg #[.bool n1,.slice A l c,.int .i64 e1])),(vE (.int .i64 g)),(vE (.agg #[.bool n2,.slice A2 l2 c2',.int .i64 e2])),(vE (.int .i64 g)),(vE (.int .i64 g)),(vE (.int .i64 g))])
     ⟨
      (gql 2 fun _ k=>c3 HB0.out k),(fun aF wF F=>by have s7:=F.v 0 7;exact sK (S1.out _ (HK.out.trans F.kept)) fun _ _ h=>h),(gql 3 fun _ k=>c3 HB1'.out k),(fun aF wF F=>by have s9:=F.v 2 9;exact sK (S2.out _ (HK.out.trans F.kept)) fun _ _ h=>h),(gv 1 8),(gv 3 10),
      trivial⟩ ?_
    intro u w1 k1 hu;simp only [Ay,An,if_true,Act.put,zlA,zlB,zlC,zlD,zlE,zlF,zlG,hv hu 0,hv hu 1,hv hu 2,hv hu 3,hv hu 4,hv hu 5];clear hu;have KX:=hid k1;obtain ⟨-,a0,a1,a2,-⟩:=(HB0.out.kept k1).facts;obtain ⟨-,b0,b1,b2,-⟩:=(HB1'.out.kept k1).facts;clear k1 u;go_wp2_with fail;refine (M1.out _ (HK.out.trans KX.out)).mono ?_;rintro e w2 ⟨rfl,q⟩;replace KX:=hid (KX.out.trans q);clear a0 a1 a2 b0 b1 b2 q;obtain ⟨-,a0,a1,a2,-⟩:=(HB0.out.kept KX.out).facts;obtain ⟨-,b0,b1,b2,-⟩:=(HB1'.out.kept KX.out).facts;simp only [];go_wp2_with fail;refine (M2.out _ (HK.out.trans KX.out)).mono ?_;rintro e w3 ⟨rfl,q⟩
    replace KX:=hid (KX.out.trans q);clear a0 a1 a2 b0 b1 b2 q;obtain ⟨-,a0,a1,a2,-⟩:=(HB0.out.kept KX.out).facts;obtain ⟨-,b0,b1,b2,-⟩:=(HB1'.out.kept KX.out).facts;simp only [];go_wp2_with fail;go_ret;exact ⟨rfl,HK.out.trans KX.out⟩
   ·rw [if_neg h3] at hr;subst hr;have d3:(g==0)=false:=by rw [beq_eq_false_iff_ne];exact h3
    have hz:=fun w1 k=>HZ.out w1 k (Z1.out h3) (Z2.out h3)
    have hw:wrap64 (g*zz)=g*zz:=by
     rcases C1.out with h | h | h<;>rcases HR.out with h' | h' | h'<;>rw [h,h']<;>first | rfl | decide | simp [wrap64]
    clear HZ;have HZ:=hid hz;clear h1 h3 hz;go_enter Tryz.func40,Tryz.ntmps40;go_wp2_with fail;rw [←HW.out]
    refine rgL 6 ([(vE (.agg #[.bool n1,.slice A l c,.int .i64 e1])),(vE (.int .i64 g)),(vE (.agg #[.bool n2,.slice A2 l2 c2',.int .i64 e2])),(vE (.int .i64 g)),(vE (.int .i64 g)),(vE (.int .i64 g))])
     ⟨
      (gql 2 fun _ k=>c3 HB0.out k),(fun aF wF F=>by have s7:=F.v 0 7;exact sK (S1.out _ (HK.out.trans F.kept)) fun _ _ h=>h),(gql 3 fun _ k=>c3 HB1'.out k),(fun aF wF F=>by have s9:=F.v 2 9;exact sK (S2.out _ (HK.out.trans F.kept)) fun _ _ h=>h),(gv 1 8),(gv 3 10),
      trivial⟩ ?_
    intro u w1 k1 hu;simp only [Ay,An,if_true,Act.put,zlA,zlB,zlC,zlD,zlE,zlF,zlG,hv hu 0,hv hu 1,hv hu 2,hv hu 3,hv hu 4,hv hu 5];clear hu;have KX:=hid k1;obtain ⟨-,a0,a1,a2,-⟩:=(HB0.out.kept k1).facts;obtain ⟨-,b0,b1,b2,-⟩:=(HB1'.out.kept k1).facts;clear k1 u;go_wp2_with fail;refine (M1.out _ (HK.out.trans KX.out)).mono ?_;rintro e w2 ⟨rfl,q⟩;replace KX:=hid (KX.out.trans q);clear a0 a1 a2 b0 b1 b2 q;obtain ⟨-,a0,a1,a2,-⟩:=(HB0.out.kept KX.out).facts;obtain ⟨-,b0,b1,b2,-⟩:=(HB1'.out.kept KX.out).facts;simp only [];go_wp2_with fail;refine (M2.out _ (HK.out.trans KX.out)).mono ?_;rintro e w3 ⟨rfl,q⟩
    replace KX:=hid (KX.out.trans q);clear a0 a1 a2 b0 b1 b2 q;obtain ⟨-,a0,a1,a2,-⟩:=(HB0.out.kept KX.out).facts;obtain ⟨-,b0,b1,b2,-⟩:=(HB1'.out.kept KX.out).facts;simp only []
    go_wp2_with (go_at_call 77;refine (HZ.out _ (HK.out.trans KX.out)).mono ?_;rintro e w2 ⟨rfl,q⟩;have KY:=hid (KX.out.trans q))
    go_ret;exact ⟨show Ending.returned (.int .i64 (wrap64 (g*zz)))=_ from by rw [hw],HK.out.trans KY.out⟩
  ·have hr:=G2.out (by omega);subst hr;have d1:(g==g')=false:=by rw [beq_eq_false_iff_ne];exact h2
   clear h1 h2;go_enter Tryz.func40,Tryz.ntmps40;go_wp2_with fail;rw [←HW.out]
   refine rgL 6 ([(vE (.agg #[.bool n1,.slice A l c,.int .i64 e1])),(vE (.int .i64 g)),(vE (.agg #[.bool n2,.slice A2 l2 c2',.int .i64 e2])),(vE (.int .i64 g')),(vE (.int .i64 g)),(vE (.int .i64 g'))])
    ⟨
     (gql 2 fun _ k=>c3 HB0.out k),(fun aF wF F=>by have s7:=F.v 0 7;exact sK (S1.out _ (HK.out.trans F.kept)) fun _ _ h=>h),(gql 3 fun _ k=>c3 HB1'.out k),(fun aF wF F=>by have s9:=F.v 2 9;exact sK (S2.out _ (HK.out.trans F.kept)) fun _ _ h=>h),(gv 1 8),(gv 3 10),
     trivial⟩ ?_
   intro u w1 k1 hu;simp only [Ay,An,if_true,Act.put,zlA,zlB,zlC,zlD,zlE,zlF,zlG,hv hu 0,hv hu 1,hv hu 2,hv hu 3,hv hu 4,hv hu 5];clear hu;have KX:=hid k1;obtain ⟨-,a0,a1,a2,-⟩:=(HB0.out.kept k1).facts;obtain ⟨-,b0,b1,b2,-⟩:=(HB1'.out.kept k1).facts;clear k1 u;go_wp2_with fail;refine (M1.out _ (HK.out.trans KX.out)).mono ?_;rintro e w2 ⟨rfl,q⟩;replace KX:=hid (KX.out.trans q);clear a0 a1 a2 b0 b1 b2 q;obtain ⟨-,a0,a1,a2,-⟩:=(HB0.out.kept KX.out).facts;obtain ⟨-,b0,b1,b2,-⟩:=(HB1'.out.kept KX.out).facts;simp only [];go_wp2_with fail;refine (M2.out _ (HK.out.trans KX.out)).mono ?_;rintro e w3 ⟨rfl,q⟩
   replace KX:=hid (KX.out.trans q);clear a0 a1 a2 b0 b1 b2 q;obtain ⟨-,a0,a1,a2,-⟩:=(HB0.out.kept KX.out).facts;obtain ⟨-,b0,b1,b2,-⟩:=(HB1'.out.kept KX.out).facts;simp only [];go_wp2_with fail;go_ret;exact ⟨rfl,HK.out.trans KX.out⟩
theorem Ad8 (k:Int)(w:World):Calls Tryz.prog 174 #[.bool true,.int .i64 k] w fun e w'=>e=.returned (.tuple #[])∧w=w':=by
 go_enter Tryz.func174,Tryz.ntmps174;go_wp2
 go_end0
 exact ⟨rfl,rfl⟩
theorem Abp (k:Int)(w:World):Calls Tryz.prog 174 #[.bool false,.int .i64 k] w fun e w'=>e=.panicked (Cw 185 k)∧w=w':=by
 go_enter Tryz.func174,Tryz.ntmps174;go_wp2;exact ⟨rfl,rfl,rfl⟩
theorem E3 (b:Bool)(k:Int)(w:World):Calls Tryz.prog 174 #[.bool b,.int .i64 k] w fun e w'=>e=Aaa 185 b k∧w=w':=by
 cases b
 ·exact Abp k w
 ·exact Ad8 k w
theorem Pa (k:Int)(w:World):(Instr.typeAssert (.iface 185 (.agg #[.int .i64 k])) 20 185 true).run Tryz.prog w=.ok (.tuple #[.agg #[.int .i64 k],.bool true]) w:=by
 kernel_rfl
theorem Pw (w:World):(Instr.typeAssert .nilIface 20 185 true).run Tryz.prog w=.ok (.tuple #[.agg #[.int .i64 0],.bool false]) w:=by
 kernel_rfl
theorem Vh (b2 b3:Nat)(w:World)(k:Int)(x y z q:Value)
 (h0:w.heap[b2]?=some (.cells #[x,y,z] 28 (0,0))) (h1:w.heap[b3]?=some (.cells #[q] 3 (0,0))) (hne:¬b2=b3) :
 CallsD Tryz.prog 193 #[.pointer (some ⟨b2,0,none⟩),.pointer (some ⟨b3,0,none⟩)] (.panicking (Cw 185 k)) w fun e u' w' =>
  e=.returned (.tuple #[])∧u'=.panicking [{ v:=.iface 185 (.agg #[.int .i64 k]),recovered:=true }]∧w'=(Zf w b2 b3 185 k).drew:=by
 have ha:=Pa k;have l2:b2<w.heap.size:=(Array.getElem?_eq_some_iff.1 h0).1;have l3:b3<w.heap.size:=(Array.getElem?_eq_some_iff.1 h1).1;have n2:¬b2=w.heap.size:=by omega
 have n3:¬b3=w.heap.size:=by omega
 have n2':¬w.heap.size=b2:=by omega
 have n3':¬w.heap.size=b3:=by omega
 have hne':¬b3=b2:=fun h=>hne h.symm
 have c20:=Ae h0 0 x rfl;have c21:=Ae h0 1 y rfl;have c22:=Ae h0 2 z rfl;have c30:=Ae h1 0 q rfl;have f20:=Au h0 0;have f21:=Au h0 1;have f22:=Au h0 2;have f30:=Au h1 0;refine callsD_of_wpS Tryz.func193 rfl fun c₀ cs hu=>?_
 simp only [Tryz.ntmps193,List.size_toArray,List.length_cons,List.length_nil,Nat.reduceAdd,Nat.reduceSub,Array.replicate_succ,
  Array.replicate_zero,List.push_toArray,List.append_toArray,List.nil_append,List.cons_append]
 refine Fk (v:=.iface 185 (.agg #[.int .i64 k])) (cs':={ c₀ with mode:=.panicking [{ v:=.iface 185 (.agg #[.int .i64 k]),recovered:=true }] }::cs) (w':=w) rfl ?_ ?_ ?_
 ·simp [go_sem]
 ·rw [recoverD,hu];exact ⟨rfl,rfl⟩
 go_wp2_with fail;go_region;exact ⟨rfl,_,rfl,_,results_none rfl _ _ _,rfl,rfl,rfl⟩
theorem Vi (b2 b3:Nat)(w:World) :
 CallsD Tryz.prog 193 #[.pointer (some ⟨b2,0,none⟩),.pointer (some ⟨b3,0,none⟩)] .returning w fun e u' w' =>
  e=.returned (.tuple #[])∧u'=.returning∧w'=w.alloc (.cells #[.int .i64 0] 185):=by
 have ha:=Pw;refine callsD_of_wpS Tryz.func193 rfl fun c₀ cs hu=>?_
 simp only [Tryz.ntmps193,List.size_toArray,List.length_cons,List.length_nil,Nat.reduceAdd,Nat.reduceSub,Array.replicate_succ,
  Array.replicate_zero,List.push_toArray,List.append_toArray,List.nil_append,List.cons_append]
 refine Fk (v:=.nilIface) (cs':=c₀::cs) (w':=w) rfl ?_ ?_ ?_
 ·simp [go_sem]
 ·rw [recoverD,hu];exact ⟨rfl,rfl⟩
 go_wp2_with fail;exact ⟨rfl,.returning,by rw [←hu],_,results_none rfl _ _ _,rfl,rfl,rfl⟩
theorem Ue {w:World}{K:Nat}{cap:Array Value}{o:Outc Raw}(h:∀ w1,Kept w w1→Calls Tryz.prog K cap w1 (Goes 185 o w1))(hz:o.k≠0→o.v=rz)
 (hk:∀ w,(callFunc K cap).run Tryz.prog w=.ok (.enter K cap) w) :
 Calls Tryz.prog 168 #[.func (.func K) #[] cap] w (RetE o w):=by
 have hmf:=Gq;have HH:=hid h;clear h
 go_enter_defers Tryz.func168,Tryz.ntmps168
 go_wp2_with fail;have k1:Kept w ((w.alloc (.cells #[.bool false,.slice none 0 0,.int .i64 0] 28)).alloc (.cells #[.int .i64 0] 3)):=((Below.refl _ _).alloc (Nat.le_refl _) _).alloc (by simp) _;refine (HH.out _ k1).mono ?_;have b0:((w.alloc (.cells #[.bool false,.slice none 0 0,.int .i64 0] 28)).alloc (.cells #[.int .i64 0] 3)).heap[w.heap.size]?=some (.cells #[.bool false,.slice none 0 0,.int .i64 0] 28 (0,0)):=by
  rw [Below.heap_alloc _ _ _ (by simp)];exact heap_alloc_new _ _
 have b1:((w.alloc (.cells #[.bool false,.slice none 0 0,.int .i64 0] 28)).alloc (.cells #[.int .i64 0] 3)).heap[w.heap.size+1]?=some (.cells #[.int .i64 0] 3 (0,0)):=by
  have:=heap_alloc_new (w.alloc (.cells #[.bool false,.slice none 0 0,.int .i64 0] 28)) (.cells #[.int .i64 0] 3);simpa using this
 rintro e w1 ⟨q,hq⟩;have c0:=(q.block w.heap.size (by simp;omega)).trans b0;have c1:=(q.block (w.heap.size+1) (by simp)).trans b1;have k2:=k1.trans q;clear q b0 b1 k1 HH;have hs1:w.heap.size+1<w1.heap.size:=(Array.getElem?_eq_some_iff.1 c1).1;have hs0:w.heap.size<w1.heap.size:=by omega
 have n1:¬w.heap.size=w1.heap.size:=by omega
 have n2:¬w.heap.size+1=w1.heap.size:=by omega
 have n3:¬w.heap.size=w.heap.size+1:=by omega
 have n4:¬w.heap.size+1=w.heap.size:=by omega
 have c20:w1.cell? ⟨w.heap.size,0,none⟩=some (.bool false):=Ae c0 0 _ rfl;have c21:w1.cell? ⟨w.heap.size,1,none⟩=some (.slice none 0 0):=Ae c0 1 _ rfl;have c22:w1.cell? ⟨w.heap.size,2,none⟩=some (.int .i64 0):=Ae c0 2 _ rfl;have c30:w1.cell? ⟨w.heap.size+1,0,none⟩=some (.int .i64 0):=Ae c1 0 _ rfl;have f20:=Au c0 0;have f21:=Au c0 1;have f22:=Au c0 2;have f30:=Au c1 0;have KK:=hid k2;have HQ:=hid hq;clear k2 hq;rcases HQ.out with ⟨h0,v,rfl,hv⟩ | ⟨h0,rfl⟩
 ·obtain ⟨s,rfl,hs,e1,e2⟩:=hv;have HS:=hid hs;obtain ⟨_,A,c,rfl,_⟩:=hs;clear HQ;simp only [];go_wp2_with fail;refine leaves_cons (f:=193) (args:=#[.pointer (some ⟨w.heap.size,0,none⟩),.pointer (some ⟨w.heap.size+1,0,none⟩)]) (by simp) (by simp [go_sem]) ?_;refine (Vi _ _ _).mono ?_;rintro e u' w2 ⟨rfl,rfl,rfl⟩;obtain ⟨d0,d1,d2,d3⟩:=Km (x':=.bool o.v.neg) (y':=.slice A o.v.m.length c) (z':=.int .i64 o.v.e) (q':=.int .i64 0) (o:=.cells #[.int .i64 0] 185) c0 c1 n3;refine ⟨.tuple #[.agg #[.bool o.v.neg,.slice A o.v.m.length c,.int .i64 o.v.e],.int .i64 0],?_,?_⟩
  ·change (results Tryz.f168 _).run Tryz.prog (Ev w1 w.heap.size (w.heap.size+1) (.bool o.v.neg) (.slice A o.v.m.length c) (.int .i64 o.v.e) (.int .i64 0) (.cells #[.int .i64 0] 185))=.ok _ (Ev w1 w.heap.size (w.heap.size+1) (.bool o.v.neg) (.slice A o.v.m.length c) (.int .i64 o.v.e) (.int .i64 0) (.cells #[.int .i64 0] 185));generalize Ev w1 w.heap.size (w.heap.size+1) (.bool o.v.neg) (.slice A o.v.m.length c) (.int .i64 o.v.e) (.int .i64 0) (.cells #[.int .i64 0] 185)=W at *;simp [results,Tryz.results168,go_sem,d0,d1,d2,d3]
  ·refine ⟨Mh KK.out (Nat.le_refl _) (Nat.le_succ _),_,by rw [h0],?_⟩;exact ⟨_,rfl,HS.out.laid c0 c1 (by simp) (by simp) (by simp) (by simp),e1,e2⟩
 ·clear HQ;simp only [];refine leaves_cons (f:=193) (args:=#[.pointer (some ⟨w.heap.size,0,none⟩),.pointer (some ⟨w.heap.size+1,0,none⟩)]) (by simp) (by simp [go_sem]) ?_;refine (Vh _ _ _ _ _ _ _ _ c0 c1 n3).mono ?_;rintro e u' w2 ⟨rfl,rfl,rfl⟩;obtain ⟨d0,d1,d2,d3⟩:=Km (x':=.bool false) (y':=.slice none 0 0) (z':=.int .i64 0) (q':=.int .i64 o.k) (o:=.cells #[.int .i64 o.k] 185) c0 c1 n3;refine ⟨.tuple #[.agg #[.bool false,.slice none 0 0,.int .i64 0],.int .i64 o.k],?_,?_⟩
  ·change (results Tryz.f168 _).run Tryz.prog (Ev w1 w.heap.size (w.heap.size+1) (.bool false) (.slice none 0 0) (.int .i64 0) (.int .i64 o.k) (.cells #[.int .i64 o.k] 185)).drew=.ok _ (Ev w1 w.heap.size (w.heap.size+1) (.bool false) (.slice none 0 0) (.int .i64 0) (.int .i64 o.k) (.cells #[.int .i64 o.k] 185)).drew;generalize Ev w1 w.heap.size (w.heap.size+1) (.bool false) (.slice none 0 0) (.int .i64 0) (.int .i64 o.k) (.cells #[.int .i64 o.k] 185)=W at *;simp [results,Tryz.results168,go_sem,d0,d1,d2,d3]
  ·refine ⟨(Mh KK.out (Nat.le_refl _) (Nat.le_succ _)).drew,_,rfl,?_⟩;rw [hz h0];exact ⟨_,rfl,⟨(by intro i hi;cases hi),none,0,rfl,Nat.le_refl _,fun h=>absurd h (Nat.lt_irrefl 0)⟩,by decide,by decide⟩
theorem Rb (k:Int)(w:World):Calls Tryz.prog 174 #[.bool true,.int .i64 k] w (RetK (.tuple #[]) w):=(E3 true k w).mono fun _ _ ⟨he,hw⟩=>⟨he,hw▸Below.refl _ _⟩
def DyAt (w:World) (b o:Nat) (d:Dy):Prop:=∃ s,w.cell? ⟨b,o,none⟩=some (.bool d.neg)∧w.cell? ⟨b,o+1,none⟩=some s∧w.cell? ⟨b,o+2,none⟩=some (.int .i64 d.e)∧DyR w (.agg #[.bool d.neg,s,.int .i64 d.e]) d.raw
theorem DyAt.kept {w w':World}{b o:Nat}{d:Dy}(h:DyAt w b o d)(k:Kept w w'):DyAt w' b o d:=by
 obtain ⟨s,h0,h1,h2,hd⟩:=h;have hb:=Ap h0;exact ⟨s,(k.cell (p:=⟨b,o,none⟩) hb).trans h0,(k.cell (p:=⟨b,o+1,none⟩) hb).trans h1,(k.cell (p:=⟨b,o+2,none⟩) hb).trans h2,hd.kept k⟩
def DyS (w:World) (v:Value) (l:List Dy):Prop:=∃ A c,v=.slice A l.length c∧l.length≤c∧(0<l.length→∃ b off,A=some ⟨b,off,none⟩∧∀ i d,l[i]?=some d→DyAt w b (off+i*3) d)
theorem DyS.kept {w w':World}{v:Value}{l:List Dy}(h:DyS w v l)(k:Kept w w'):DyS w' v l:=by
 obtain ⟨A,c,rfl,hc,hA⟩:=h;refine ⟨A,c,rfl,hc,fun h0=>?_⟩;obtain ⟨b,off,rfl,hd⟩:=hA h0;exact ⟨b,off,rfl,fun i d hi=>(hd i d hi).kept k⟩
def okL (l:List Dy):Prop:=∀ d∈l,Dy.Ok d
theorem Y4 {w:World}{v:Value}{p:Int}{l:List Dy}(hv:DyS w v l)(hl:okL l)(hn:l.length≤1000)(p1:1≤p)(p2:p≤2000) :
 Calls Tryz.prog 170 #[.int .i64 p,v] w (RetK (.tuple #[]) w):=by
 obtain ⟨A,c,rfl,hc,hA⟩:=hv;have d1:decide (1≤p)=true:=by simp [p1]
 have d2:decide (p≤2000)=true:=by simp [p2]
 have HA:=hid hA;have HL:=hid hl;clear hA hl;have hbase:Kept w w:=Below.refl _ _;obtain ⟨n,hn'⟩:∃ n,n=l.length:=⟨_,rfl⟩;rw [←hn'] at hc hn HA ⊢;have HN:=hid hn';clear hn';go_enter Tryz.func170,Tryz.ntmps170
 go_wp2_with (go_at_call 174;refine (Rb 1 _).mono ?_;rintro e w1 ⟨rfl,q⟩;have K1:=hid q;clear q)
 go_loopw [15] (fun t wr=>∃ k:Nat,k≤n∧t=.int .i64 k∧Kept w wr) (fun t _=>(n-intOf t).toNat)
 case atStart=>exact ⟨0,Nat.zero_le _,rfl,K1.out⟩
 case round =>
  obtain ⟨k,hk,rfl,hK⟩:=hrel;have HK:=hid hK;clear hK;by_cases hlt:k<n
  ·obtain ⟨b,off,rfl,hd⟩:=HA.out (by omega);obtain ⟨d,hdk⟩:∃ d,l[k]?=some d:=⟨_,List.getElem?_eq_getElem (by have:=HN.out;omega)⟩;obtain ⟨s,h0,h1,h2,hR⟩:=(hd k d hdk).kept HK.out;have hok:=HL.out d (List.mem_of_getElem? hdk);have hm:=fun w1 (q:Kept wr w1)=>Lq (hR.kept q) (by have:=Dr hok;omega)
   rw [hok.may] at hm;have HM:=hid hm;obtain ⟨A1,l1,c1,es,-,-,-,-⟩:=hR.shape;injection es with es
   injection es with es
   simp only [List.cons.injEq,and_true] at es;obtain rfl:=es.2.1;clear es;clear hm hd hdk hok hR;generalize d.neg=ng at *;generalize d.e=eg at *
   go_wp2_with (first
    | (go_at_call 53;refine (HM.out _ (Ad _ _)).mono ?_;rintro e w2 ⟨rfl,q⟩;have Q:=hid ((Ad _ _).trans q);clear q)
    | (go_at_call 174;refine (Rb 1 _).mono ?_;rintro e w3 ⟨rfl,q⟩;have Q3:=hid q;clear q))
   go_roundw
   case rel=>exact ⟨k+1,by omega,by go_num,(HK.out.trans Q.out).trans Q3.out⟩
   case measure=>simp [intOf];omega
  ·obtain rfl:k=n:=by omega
   go_wp2
   go_end0
   exact ⟨rfl,HK.out⟩
theorem Fb (w:World)(k:Nat)(hk:k<18446744073709551616)(h0:k≠0):Lim (w.alloc (.cells #[.int .u64 k] 55)) (.slice (some ⟨w.heap.size,0,none⟩) 1 1) (Ai k):=by
 rw [F9 k h0 hk];exact Um hk (by simp) (Aed _ _ _) 1 (Nat.le_refl _)
theorem Dn (w:World):Blk (w.alloc (.cells #[.bool false,.slice none 0 0,.int .i64 0] 28)) w.heap.size (.bool false) (.slice none 0 0) (.int .i64 0):=Bk _ _ _ _
structure CutIn (w:World) (v:Value) (m:Nat) (e:Int) (p:Nat):Prop where
 lim:Lim w v (Ai m)
 len:(Ai m).length≤20000
 e1:-1000000000≤e
 e2:e≤1000000000
 p1:1≤p
 p2:p≤2000
 tab:Tab w
theorem CutIn.bl {w:World}{v:Value}{m:Nat}{e:Int}{p:Nat}(h:CutIn w v m e p):bl m≤1280000:=by
 have:=Da m 20000 h.len;omega
theorem CutIn.fits {w w1:World}{v u:Value}{m n:Nat}{e:Int}{p j:Nat}(h:CutIn w v m e p)(k:Kept w w1)(hu:Lim w1 u (Ai n))(hn:n≤m+1)(hj:j≤1280000)(neg:Bool) :
 Calls Tryz.prog 41 #[.bool neg,u,.int .i64 (e+j)] w1 (RetE (Bt neg n (e+j)).raw w1):=by
 have h1:_root_.Go.Proofs.YtabjjdicffcolaaGreatDoor.bl n≤1280001:=Nat.le_trans (Fw hn) (Acr m 1 1280000 h.bl (by decide));have h2:=Cx n 20001 (by omega);have:=h.e1;have:=h.e2;exact Ack hu (by omega) (by omega) (by omega) (h.tab.kept k)
theorem Ub (m:Nat)(rest:Bool)(p:Nat)(aw:Bool)(r':Bool)(hr:(Ig m rest p).1=r'):Eo m rest p aw=if (r'&&aw)=true then m/2^(bl m-p)+1 else m/2^(bl m-p):=by
 unfold Eo;rw [hr];rfl
theorem Ej {T:TypeId}{o:Outc Dy}{k:Int}{e:Ending}(h:e=Aaa T (o.raw.k==0) k):(o.k=0∧e=.returned (.tuple #[]))∨(o.k≠0∧e=.panicked (Cw T k)):=by
 by_cases hk:o.k=0
 ·left;refine ⟨hk,?_⟩;rw [h,show (o.raw.k==0)=true by rw [beq_iff_eq];exact hk];rfl
 ·right;refine ⟨hk,?_⟩;rw [h,show (o.raw.k==0)=false by rw [beq_eq_false_iff_ne];exact hk];rfl
theorem Ac5 {w:World}{v:Value}{m p:Nat}{e:Int}(neg rest up:Bool)(h:CutIn w v m e p) :
 Calls Tryz.prog 171 #[.bool neg,v,.int .i64 e,.bool rest,.int .i64 p,.bool up] w (Goes 185 (I5 neg m e rest p up).raw w):=by
 have hbl:=h.bl;have p1:=h.p1;have p2:=h.p2;have e1:=h.e1;have e2:=h.e2;have hsz:=fun w1 (k:Kept w w1)=>Kx (h.lim.kept k) (by have:=h.len;omega)
 have hri:=fun w1 (k:Kept w w1) (j:Nat) (hj:j≤1280000)=>P9 (h.lim.kept k) j (by have:=h.len;omega) (by omega)
 have hze:=fun w1 (k:Kept w w1) (h0:m≠0)=>Aaz (h.lim.kept k) (by have:=h.len;omega) h0 (h.tab.kept k)
 have hpl:=fun w1 u n (hu:Lim w1 u (Ai n)) (hn:n≤m) (u1:Value) (hu1:Lim w1 u1 (Ai 1))=>Ys hu hu1 (by have h1:=Cx n 20000 (by have:=Fw hn;omega);omega) (by rw [F9 1 (by decide) (by decide)];decide)
 have hfi:=fun w1 u n (j:Nat) (k:Kept w w1) (hu:Lim w1 u (Ai n)) (hn:n≤m+1) (hj:j≤1280000)=>h.fits k hu hn hj neg
 have HSZ:=hid hsz;have HRI:=hid hri;have HZE:=hid hze;have HPL:=hid hpl;have HFI:=hid hfi;have HLI:=hid h.lim;obtain ⟨A,l,c,rfl,-,-⟩:=h.lim.shape;clear hsz hri hze hpl hfi h;unfold I5;obtain ⟨aw,haw⟩:∃ aw,(up != neg)=aw:=⟨_,rfl⟩;rw [haw];have hnb1:((!up)==neg)=aw:=by rw [←haw];cases up<;>cases neg<;>rfl
 have hnb2:(!(up==neg))=aw:=by rw [←haw];cases up<;>cases neg<;>rfl
 clear haw;obtain ⟨W,hW⟩:∃ W,W=w.alloc (.cells #[.bool false,.slice none 0 0,.int .i64 0] 28):=⟨_,rfl⟩;have HK:=hid (show Kept w W by rw [hW];exact Ad _ _);have HB:=hid (show Blk W w.heap.size (.bool false) (.slice none 0 0) (.int .i64 0) by rw [hW];exact Dn w);have HW:=hid hW;clear hW;by_cases hn:p<bl m
 ·obtain ⟨j,hj⟩:∃ j,bl m-p=j:=⟨_,rfl⟩;have hws:IntKind.i64.wrap ((bl m:Int)-(p:Int))=(j:Int):=by simp [IntKind.wrap_i64];omega
  have hwe:IntKind.i64.wrap (e+(j:Int))=e+(j:Int):=by simp [IntKind.wrap_i64];omega
  have HM0:=hid (show m≠0 by rintro rfl;rw [Gg] at hn;omega);have HJ:=hid (show j≤1280000 by omega);have hd:decide (0<j)=true:=by simp;omega
  cases hrest:rest
  ·obtain ⟨bz,hbz⟩:∃ bz,decide (tz m<j)=bz:=⟨_,rfl⟩;have hc:(Ig m false p).1=bz:=by
    unfold Ig;simp only [hj];rw [hd,hbz,Bool.false_or,Bool.true_and]
   rw [Ub m false p aw bz hc,hj];clear hc hj hrest hn;cases bz
   ·rw [Bool.false_and,if_neg (by decide)];obtain ⟨o,ho⟩:∃ o,o=Bt neg (m/2^j) (e+((j:Nat):Int)):=⟨_,rfl⟩;have hf2:=fun w1 u (k:Kept w w1) (hu:Lim w1 u (Ai (m/2^j)))=>HFI.out w1 u (m/2^j) j k hu (Nat.le_succ_of_le (Nat.div_le_self _ _)) HJ.out
    rw [←ho] at hf2 ⊢
    skip
    have HF2:=hid hf2;clear ho hf2;go_enter Tryz.func171,Tryz.ntmps171
    go_wp2_with (first
     | (go_at_call 112;rw [←HW.out];refine (HSZ.out _ HK.out).mono ?_;rintro e w1 ⟨rfl,q,hq⟩;have K:=hid (show Kept W w1 from hq▸Kept.drewN (Below.refl W.heap.size W) q);clear hq;replace HW:True:=trivial;have LX:=hid (HLI.out.kept (HK.out.trans K.out)))
     | (go_at_call 116;refine (HZE.out _ (HK.out.trans K.out) HM0.out).mono ?_;rintro e w1 ⟨rfl,q,hq⟩;replace K:=hid (show Kept W w1 from hq▸Kept.drewN K.out q);clear hq)
     | (go_at_call 117;refine (HRI.out _ (HK.out.trans K.out) _ HJ.out).mono ?_;rintro e w1 ⟨X,rfl,hX,q⟩;replace K:=hid (K.out.trans q);replace LX:=hid hX;clear hX q)
     | (go_at_call 194;refine (HPL.out _ _ _ (LX.out.kept (Ad _ _)) (by first | exact Nat.div_le_self _ _ | exact Nat.le_refl _) _ (Fb _ 1 (by decide) (by decide))).mono ?_;rintro e w1 ⟨X,rfl,hX,q⟩;replace K:=hid (K.out.trans ((Ad _ _).trans q));replace LX:=hid hX;clear hX q)
     | (go_at_call 41;refine (HF2.out _ _ (HK.out.trans K.out) LX.out).mono ?_;rintro e w2 ⟨q,u,rfl,hd⟩;obtain ⟨A',l',c',rfl,-,hd,g1,g2⟩:=hd.shape;have HD:=hid hd;replace K:=hid (K.out.trans q);clear hd q;have hb:=HB.out.kept K.out;obtain ⟨hsz,c0,c1,c2,f0,f1,f2⟩:=hb.facts;have HB2:=hid hb;clear hb)
     | (go_at_call 174;refine (E3 _ _ _).mono ?_;rintro e w3 ⟨he,rfl⟩;rcases Ej he with ⟨hk,rfl⟩ | ⟨hk,rfl⟩<;>(have HKK:=hid hk;clear hk he)))
    ·exact Ca (Bb (HB2.out.laid _ _ _) _) rfl rfl rfl ⟨(Am (HK.out.trans K.out) (Nat.le_refl _)).trans (Ad _ _),.inl ⟨HKK.out,_,rfl,((HD.out.dyW HB2.out (Ah _) (Ag _ _ _) (Af _)).kept (Ad _ _)).dyR g1 g2⟩⟩
    ·exact ⟨rfl,(HK.out.trans K.out).trans (Ad _ _),.inr ⟨HKK.out,rfl⟩⟩
   ·cases aw
    ·rw [Bool.true_and,if_neg (by decide)];obtain ⟨o,ho⟩:∃ o,o=Bt neg (m/2^j) (e+((j:Nat):Int)):=⟨_,rfl⟩;have hf2:=fun w1 u (k:Kept w w1) (hu:Lim w1 u (Ai (m/2^j)))=>HFI.out w1 u (m/2^j) j k hu (Nat.le_succ_of_le (Nat.div_le_self _ _)) HJ.out
     rw [←ho] at hf2 ⊢
     skip
     have HF2:=hid hf2;clear ho hf2;go_enter Tryz.func171,Tryz.ntmps171
     go_wp2_with (first
      | (go_at_call 112;rw [←HW.out];refine (HSZ.out _ HK.out).mono ?_;rintro e w1 ⟨rfl,q,hq⟩;have K:=hid (show Kept W w1 from hq▸Kept.drewN (Below.refl W.heap.size W) q);clear hq;replace HW:True:=trivial;have LX:=hid (HLI.out.kept (HK.out.trans K.out)))
      | (go_at_call 116;refine (HZE.out _ (HK.out.trans K.out) HM0.out).mono ?_;rintro e w1 ⟨rfl,q,hq⟩;replace K:=hid (show Kept W w1 from hq▸Kept.drewN K.out q);clear hq)
      | (go_at_call 117;refine (HRI.out _ (HK.out.trans K.out) _ HJ.out).mono ?_;rintro e w1 ⟨X,rfl,hX,q⟩;replace K:=hid (K.out.trans q);replace LX:=hid hX;clear hX q)
      | (go_at_call 194;refine (HPL.out _ _ _ (LX.out.kept (Ad _ _)) (by first | exact Nat.div_le_self _ _ | exact Nat.le_refl _) _ (Fb _ 1 (by decide) (by decide))).mono ?_;rintro e w1 ⟨X,rfl,hX,q⟩;replace K:=hid (K.out.trans ((Ad _ _).trans q));replace LX:=hid hX;clear hX q)
      | (go_at_call 41;refine (HF2.out _ _ (HK.out.trans K.out) LX.out).mono ?_;rintro e w2 ⟨q,u,rfl,hd⟩;obtain ⟨A',l',c',rfl,-,hd,g1,g2⟩:=hd.shape;have HD:=hid hd;replace K:=hid (K.out.trans q);clear hd q;have hb:=HB.out.kept K.out;obtain ⟨hsz,c0,c1,c2,f0,f1,f2⟩:=hb.facts;have HB2:=hid hb;clear hb)
      | (go_at_call 174;refine (E3 _ _ _).mono ?_;rintro e w3 ⟨he,rfl⟩;rcases Ej he with ⟨hk,rfl⟩ | ⟨hk,rfl⟩<;>(have HKK:=hid hk;clear hk he)))
     ·exact Ca (Bb (HB2.out.laid _ _ _) _) rfl rfl rfl ⟨(Am (HK.out.trans K.out) (Nat.le_refl _)).trans (Ad _ _),.inl ⟨HKK.out,_,rfl,((HD.out.dyW HB2.out (Ah _) (Ag _ _ _) (Af _)).kept (Ad _ _)).dyR g1 g2⟩⟩
     ·exact ⟨rfl,(HK.out.trans K.out).trans (Ad _ _),.inr ⟨HKK.out,rfl⟩⟩
    ·rw [Bool.true_and,if_pos rfl];obtain ⟨o,ho⟩:∃ o,o=Bt neg (m/2^j+1) (e+((j:Nat):Int)):=⟨_,rfl⟩;have hf2:=fun w1 u (k:Kept w w1) (hu:Lim w1 u (Ai (m/2^j+1)))=>HFI.out w1 u (m/2^j+1) j k hu (Nat.succ_le_succ (Nat.div_le_self _ _)) HJ.out
     rw [←ho] at hf2 ⊢
     skip
     have HF2:=hid hf2;clear ho hf2;go_enter Tryz.func171,Tryz.ntmps171
     go_wp2_with (first
      | (go_at_call 112;rw [←HW.out];refine (HSZ.out _ HK.out).mono ?_;rintro e w1 ⟨rfl,q,hq⟩;have K:=hid (show Kept W w1 from hq▸Kept.drewN (Below.refl W.heap.size W) q);clear hq;replace HW:True:=trivial;have LX:=hid (HLI.out.kept (HK.out.trans K.out)))
      | (go_at_call 116;refine (HZE.out _ (HK.out.trans K.out) HM0.out).mono ?_;rintro e w1 ⟨rfl,q,hq⟩;replace K:=hid (show Kept W w1 from hq▸Kept.drewN K.out q);clear hq)
      | (go_at_call 117;refine (HRI.out _ (HK.out.trans K.out) _ HJ.out).mono ?_;rintro e w1 ⟨X,rfl,hX,q⟩;replace K:=hid (K.out.trans q);replace LX:=hid hX;clear hX q)
      | (go_at_call 194;refine (HPL.out _ _ _ (LX.out.kept (Ad _ _)) (by first | exact Nat.div_le_self _ _ | exact Nat.le_refl _) _ (Fb _ 1 (by decide) (by decide))).mono ?_;rintro e w1 ⟨X,rfl,hX,q⟩;replace K:=hid (K.out.trans ((Ad _ _).trans q));replace LX:=hid hX;clear hX q)
      | (go_at_call 41;refine (HF2.out _ _ (HK.out.trans K.out) LX.out).mono ?_;rintro e w2 ⟨q,u,rfl,hd⟩;obtain ⟨A',l',c',rfl,-,hd,g1,g2⟩:=hd.shape;have HD:=hid hd;replace K:=hid (K.out.trans q);clear hd q;have hb:=HB.out.kept K.out;obtain ⟨hsz,c0,c1,c2,f0,f1,f2⟩:=hb.facts;have HB2:=hid hb;clear hb)
      | (go_at_call 174;refine (E3 _ _ _).mono ?_;rintro e w3 ⟨he,rfl⟩;rcases Ej he with ⟨hk,rfl⟩ | ⟨hk,rfl⟩<;>(have HKK:=hid hk;clear hk he)))
     ·exact Ca (Bb (HB2.out.laid _ _ _) _) rfl rfl rfl ⟨(Am (HK.out.trans K.out) (Nat.le_refl _)).trans (Ad _ _),.inl ⟨HKK.out,_,rfl,((HD.out.dyW HB2.out (Ah _) (Ag _ _ _) (Af _)).kept (Ad _ _)).dyR g1 g2⟩⟩
     ·exact ⟨rfl,(HK.out.trans K.out).trans (Ad _ _),.inr ⟨HKK.out,rfl⟩⟩
  ·have hc:(Ig m true p).1=true:=by
    unfold Ig;simp
   rw [Ub m true p aw true hc,hj];clear hc hj hrest hn;cases aw
   ·rw [Bool.true_and,if_neg (by decide)];obtain ⟨o,ho⟩:∃ o,o=Bt neg (m/2^j) (e+((j:Nat):Int)):=⟨_,rfl⟩;have hf2:=fun w1 u (k:Kept w w1) (hu:Lim w1 u (Ai (m/2^j)))=>HFI.out w1 u (m/2^j) j k hu (Nat.le_succ_of_le (Nat.div_le_self _ _)) HJ.out
    rw [←ho] at hf2 ⊢
    skip
    have HF2:=hid hf2;clear ho hf2;go_enter Tryz.func171,Tryz.ntmps171
    go_wp2_with (first
     | (go_at_call 112;rw [←HW.out];refine (HSZ.out _ HK.out).mono ?_;rintro e w1 ⟨rfl,q,hq⟩;have K:=hid (show Kept W w1 from hq▸Kept.drewN (Below.refl W.heap.size W) q);clear hq;replace HW:True:=trivial;have LX:=hid (HLI.out.kept (HK.out.trans K.out)))
     | (go_at_call 116;refine (HZE.out _ (HK.out.trans K.out) HM0.out).mono ?_;rintro e w1 ⟨rfl,q,hq⟩;replace K:=hid (show Kept W w1 from hq▸Kept.drewN K.out q);clear hq)
     | (go_at_call 117;refine (HRI.out _ (HK.out.trans K.out) _ HJ.out).mono ?_;rintro e w1 ⟨X,rfl,hX,q⟩;replace K:=hid (K.out.trans q);replace LX:=hid hX;clear hX q)
     | (go_at_call 194;refine (HPL.out _ _ _ (LX.out.kept (Ad _ _)) (by first | exact Nat.div_le_self _ _ | exact Nat.le_refl _) _ (Fb _ 1 (by decide) (by decide))).mono ?_;rintro e w1 ⟨X,rfl,hX,q⟩;replace K:=hid (K.out.trans ((Ad _ _).trans q));replace LX:=hid hX;clear hX q)
     | (go_at_call 41;refine (HF2.out _ _ (HK.out.trans K.out) LX.out).mono ?_;rintro e w2 ⟨q,u,rfl,hd⟩;obtain ⟨A',l',c',rfl,-,hd,g1,g2⟩:=hd.shape;have HD:=hid hd;replace K:=hid (K.out.trans q);clear hd q;have hb:=HB.out.kept K.out;obtain ⟨hsz,c0,c1,c2,f0,f1,f2⟩:=hb.facts;have HB2:=hid hb;clear hb)
     | (go_at_call 174;refine (E3 _ _ _).mono ?_;rintro e w3 ⟨he,rfl⟩;rcases Ej he with ⟨hk,rfl⟩ | ⟨hk,rfl⟩<;>(have HKK:=hid hk;clear hk he)))
    ·exact Ca (Bb (HB2.out.laid _ _ _) _) rfl rfl rfl ⟨(Am (HK.out.trans K.out) (Nat.le_refl _)).trans (Ad _ _),.inl ⟨HKK.out,_,rfl,((HD.out.dyW HB2.out (Ah _) (Ag _ _ _) (Af _)).kept (Ad _ _)).dyR g1 g2⟩⟩
    ·exact ⟨rfl,(HK.out.trans K.out).trans (Ad _ _),.inr ⟨HKK.out,rfl⟩⟩
   ·rw [Bool.true_and,if_pos rfl];obtain ⟨o,ho⟩:∃ o,o=Bt neg (m/2^j+1) (e+((j:Nat):Int)):=⟨_,rfl⟩;have hf2:=fun w1 u (k:Kept w w1) (hu:Lim w1 u (Ai (m/2^j+1)))=>HFI.out w1 u (m/2^j+1) j k hu (Nat.succ_le_succ (Nat.div_le_self _ _)) HJ.out
    rw [←ho] at hf2 ⊢
    skip
    have HF2:=hid hf2;clear ho hf2;go_enter Tryz.func171,Tryz.ntmps171
    go_wp2_with (first
     | (go_at_call 112;rw [←HW.out];refine (HSZ.out _ HK.out).mono ?_;rintro e w1 ⟨rfl,q,hq⟩;have K:=hid (show Kept W w1 from hq▸Kept.drewN (Below.refl W.heap.size W) q);clear hq;replace HW:True:=trivial;have LX:=hid (HLI.out.kept (HK.out.trans K.out)))
     | (go_at_call 116;refine (HZE.out _ (HK.out.trans K.out) HM0.out).mono ?_;rintro e w1 ⟨rfl,q,hq⟩;replace K:=hid (show Kept W w1 from hq▸Kept.drewN K.out q);clear hq)
     | (go_at_call 117;refine (HRI.out _ (HK.out.trans K.out) _ HJ.out).mono ?_;rintro e w1 ⟨X,rfl,hX,q⟩;replace K:=hid (K.out.trans q);replace LX:=hid hX;clear hX q)
     | (go_at_call 194;refine (HPL.out _ _ _ (LX.out.kept (Ad _ _)) (by first | exact Nat.div_le_self _ _ | exact Nat.le_refl _) _ (Fb _ 1 (by decide) (by decide))).mono ?_;rintro e w1 ⟨X,rfl,hX,q⟩;replace K:=hid (K.out.trans ((Ad _ _).trans q));replace LX:=hid hX;clear hX q)
     | (go_at_call 41;refine (HF2.out _ _ (HK.out.trans K.out) LX.out).mono ?_;rintro e w2 ⟨q,u,rfl,hd⟩;obtain ⟨A',l',c',rfl,-,hd,g1,g2⟩:=hd.shape;have HD:=hid hd;replace K:=hid (K.out.trans q);clear hd q;have hb:=HB.out.kept K.out;obtain ⟨hsz,c0,c1,c2,f0,f1,f2⟩:=hb.facts;have HB2:=hid hb;clear hb)
     | (go_at_call 174;refine (E3 _ _ _).mono ?_;rintro e w3 ⟨he,rfl⟩;rcases Ej he with ⟨hk,rfl⟩ | ⟨hk,rfl⟩<;>(have HKK:=hid hk;clear hk he)))
    ·exact Ca (Bb (HB2.out.laid _ _ _) _) rfl rfl rfl ⟨(Am (HK.out.trans K.out) (Nat.le_refl _)).trans (Ad _ _),.inl ⟨HKK.out,_,rfl,((HD.out.dyW HB2.out (Ah _) (Ag _ _ _) (Af _)).kept (Ad _ _)).dyR g1 g2⟩⟩
    ·exact ⟨rfl,(HK.out.trans K.out).trans (Ad _ _),.inr ⟨HKK.out,rfl⟩⟩
 ·have hj:bl m-p=0:=by omega
  obtain ⟨i0,hi0⟩:∃ i0:Int,(bl m:Int)-(p:Int)=i0:=⟨_,rfl⟩;have hws:IntKind.i64.wrap ((bl m:Int)-(p:Int))=i0:=by rw [←hi0];simp [IntKind.wrap_i64];omega
  have hj0:decide ((0:Int)<i0)=false:=by simp;omega
  have hc:(Ig m rest p).1=rest:=by
   unfold Ig;simp only [hj];simp
  rw [Ub m rest p aw rest hc,hj];rw [Nat.pow_zero,Nat.div_one];have HJ:=hid (show (0:Nat)≤1280000 by omega);clear hc hj hn hi0;cases rest
  ·rw [Bool.false_and,if_neg (by decide)];obtain ⟨o,ho⟩:∃ o,o=Bt neg m (e+((0:Nat):Int)):=⟨_,rfl⟩;have hf2:=fun w1 u (k:Kept w w1) (hu:Lim w1 u (Ai m))=>HFI.out w1 u m 0 k hu (Nat.le_succ _) HJ.out
   rw [←ho] at hf2 ⊢;simp only [Int.natCast_zero,Int.add_zero] at hf2 ho;have HF2:=hid hf2;clear ho hf2;go_enter Tryz.func171,Tryz.ntmps171
   go_wp2_with (first
    | (go_at_call 112;rw [←HW.out];refine (HSZ.out _ HK.out).mono ?_;rintro e w1 ⟨rfl,q,hq⟩;have K:=hid (show Kept W w1 from hq▸Kept.drewN (Below.refl W.heap.size W) q);clear hq;replace HW:True:=trivial;have LX:=hid (HLI.out.kept (HK.out.trans K.out)))
    | (go_at_call 116;refine (HZE.out _ (HK.out.trans K.out) HM0.out).mono ?_;rintro e w1 ⟨rfl,q,hq⟩;replace K:=hid (show Kept W w1 from hq▸Kept.drewN K.out q);clear hq)
    | (go_at_call 117;refine (HRI.out _ (HK.out.trans K.out) _ HJ.out).mono ?_;rintro e w1 ⟨X,rfl,hX,q⟩;replace K:=hid (K.out.trans q);replace LX:=hid hX;clear hX q)
    | (go_at_call 194;refine (HPL.out _ _ _ (LX.out.kept (Ad _ _)) (by first | exact Nat.div_le_self _ _ | exact Nat.le_refl _) _ (Fb _ 1 (by decide) (by decide))).mono ?_;rintro e w1 ⟨X,rfl,hX,q⟩;replace K:=hid (K.out.trans ((Ad _ _).trans q));replace LX:=hid hX;clear hX q)
    | (go_at_call 41;refine (HF2.out _ _ (HK.out.trans K.out) LX.out).mono ?_;rintro e w2 ⟨q,u,rfl,hd⟩;obtain ⟨A',l',c',rfl,-,hd,g1,g2⟩:=hd.shape;have HD:=hid hd;replace K:=hid (K.out.trans q);clear hd q;have hb:=HB.out.kept K.out;obtain ⟨hsz,c0,c1,c2,f0,f1,f2⟩:=hb.facts;have HB2:=hid hb;clear hb)
    | (go_at_call 174;refine (E3 _ _ _).mono ?_;rintro e w3 ⟨he,rfl⟩;rcases Ej he with ⟨hk,rfl⟩ | ⟨hk,rfl⟩<;>(have HKK:=hid hk;clear hk he)))
   ·exact Ca (Bb (HB2.out.laid _ _ _) _) rfl rfl rfl ⟨(Am (HK.out.trans K.out) (Nat.le_refl _)).trans (Ad _ _),.inl ⟨HKK.out,_,rfl,((HD.out.dyW HB2.out (Ah _) (Ag _ _ _) (Af _)).kept (Ad _ _)).dyR g1 g2⟩⟩
   ·exact ⟨rfl,(HK.out.trans K.out).trans (Ad _ _),.inr ⟨HKK.out,rfl⟩⟩
  ·cases aw
   ·rw [Bool.true_and,if_neg (by decide)];obtain ⟨o,ho⟩:∃ o,o=Bt neg m (e+((0:Nat):Int)):=⟨_,rfl⟩;have hf2:=fun w1 u (k:Kept w w1) (hu:Lim w1 u (Ai m))=>HFI.out w1 u m 0 k hu (Nat.le_succ _) HJ.out
    rw [←ho] at hf2 ⊢;simp only [Int.natCast_zero,Int.add_zero] at hf2 ho;have HF2:=hid hf2;clear ho hf2;go_enter Tryz.func171,Tryz.ntmps171
    go_wp2_with (first
     | (go_at_call 112;rw [←HW.out];refine (HSZ.out _ HK.out).mono ?_;rintro e w1 ⟨rfl,q,hq⟩;have K:=hid (show Kept W w1 from hq▸Kept.drewN (Below.refl W.heap.size W) q);clear hq;replace HW:True:=trivial;have LX:=hid (HLI.out.kept (HK.out.trans K.out)))
     | (go_at_call 116;refine (HZE.out _ (HK.out.trans K.out) HM0.out).mono ?_;rintro e w1 ⟨rfl,q,hq⟩;replace K:=hid (show Kept W w1 from hq▸Kept.drewN K.out q);clear hq)
     | (go_at_call 117;refine (HRI.out _ (HK.out.trans K.out) _ HJ.out).mono ?_;rintro e w1 ⟨X,rfl,hX,q⟩;replace K:=hid (K.out.trans q);replace LX:=hid hX;clear hX q)
     | (go_at_call 194;refine (HPL.out _ _ _ (LX.out.kept (Ad _ _)) (by first | exact Nat.div_le_self _ _ | exact Nat.le_refl _) _ (Fb _ 1 (by decide) (by decide))).mono ?_;rintro e w1 ⟨X,rfl,hX,q⟩;replace K:=hid (K.out.trans ((Ad _ _).trans q));replace LX:=hid hX;clear hX q)
     | (go_at_call 41;refine (HF2.out _ _ (HK.out.trans K.out) LX.out).mono ?_;rintro e w2 ⟨q,u,rfl,hd⟩;obtain ⟨A',l',c',rfl,-,hd,g1,g2⟩:=hd.shape;have HD:=hid hd;replace K:=hid (K.out.trans q);clear hd q;have hb:=HB.out.kept K.out;obtain ⟨hsz,c0,c1,c2,f0,f1,f2⟩:=hb.facts;have HB2:=hid hb;clear hb)
     | (go_at_call 174;refine (E3 _ _ _).mono ?_;rintro e w3 ⟨he,rfl⟩;rcases Ej he with ⟨hk,rfl⟩ | ⟨hk,rfl⟩<;>(have HKK:=hid hk;clear hk he)))
    ·exact Ca (Bb (HB2.out.laid _ _ _) _) rfl rfl rfl ⟨(Am (HK.out.trans K.out) (Nat.le_refl _)).trans (Ad _ _),.inl ⟨HKK.out,_,rfl,((HD.out.dyW HB2.out (Ah _) (Ag _ _ _) (Af _)).kept (Ad _ _)).dyR g1 g2⟩⟩
    ·exact ⟨rfl,(HK.out.trans K.out).trans (Ad _ _),.inr ⟨HKK.out,rfl⟩⟩
   ·rw [Bool.true_and,if_pos rfl];obtain ⟨o,ho⟩:∃ o,o=Bt neg (m+1) (e+((0:Nat):Int)):=⟨_,rfl⟩;have hf2:=fun w1 u (k:Kept w w1) (hu:Lim w1 u (Ai (m+1)))=>HFI.out w1 u (m+1) 0 k hu (Nat.le_refl _) HJ.out
    rw [←ho] at hf2 ⊢;simp only [Int.natCast_zero,Int.add_zero] at hf2 ho;have HF2:=hid hf2;clear ho hf2;go_enter Tryz.func171,Tryz.ntmps171
    go_wp2_with (first
     | (go_at_call 112;rw [←HW.out];refine (HSZ.out _ HK.out).mono ?_;rintro e w1 ⟨rfl,q,hq⟩;have K:=hid (show Kept W w1 from hq▸Kept.drewN (Below.refl W.heap.size W) q);clear hq;replace HW:True:=trivial;have LX:=hid (HLI.out.kept (HK.out.trans K.out)))
     | (go_at_call 116;refine (HZE.out _ (HK.out.trans K.out) HM0.out).mono ?_;rintro e w1 ⟨rfl,q,hq⟩;replace K:=hid (show Kept W w1 from hq▸Kept.drewN K.out q);clear hq)
     | (go_at_call 117;refine (HRI.out _ (HK.out.trans K.out) _ HJ.out).mono ?_;rintro e w1 ⟨X,rfl,hX,q⟩;replace K:=hid (K.out.trans q);replace LX:=hid hX;clear hX q)
     | (go_at_call 194;refine (HPL.out _ _ _ (LX.out.kept (Ad _ _)) (by first | exact Nat.div_le_self _ _ | exact Nat.le_refl _) _ (Fb _ 1 (by decide) (by decide))).mono ?_;rintro e w1 ⟨X,rfl,hX,q⟩;replace K:=hid (K.out.trans ((Ad _ _).trans q));replace LX:=hid hX;clear hX q)
     | (go_at_call 41;refine (HF2.out _ _ (HK.out.trans K.out) LX.out).mono ?_;rintro e w2 ⟨q,u,rfl,hd⟩;obtain ⟨A',l',c',rfl,-,hd,g1,g2⟩:=hd.shape;have HD:=hid hd;replace K:=hid (K.out.trans q);clear hd q;have hb:=HB.out.kept K.out;obtain ⟨hsz,c0,c1,c2,f0,f1,f2⟩:=hb.facts;have HB2:=hid hb;clear hb)
     | (go_at_call 174;refine (E3 _ _ _).mono ?_;rintro e w3 ⟨he,rfl⟩;rcases Ej he with ⟨hk,rfl⟩ | ⟨hk,rfl⟩<;>(have HKK:=hid hk;clear hk he)))
    ·exact Ca (Bb (HB2.out.laid _ _ _) _) rfl rfl rfl ⟨(Am (HK.out.trans K.out) (Nat.le_refl _)).trans (Ad _ _),.inl ⟨HKK.out,_,rfl,((HD.out.dyW HB2.out (Ah _) (Ag _ _ _) (Af _)).kept (Ad _ _)).dyR g1 g2⟩⟩
    ·exact ⟨rfl,(HK.out.trans K.out).trans (Ad _ _),.inr ⟨HKK.out,rfl⟩⟩
end Go.Proofs.YtabjjdicffcolaaGreatDoor
