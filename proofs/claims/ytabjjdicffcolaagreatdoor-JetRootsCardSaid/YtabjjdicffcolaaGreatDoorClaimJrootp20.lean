/- Words and contracts, part 20. -/
import Derived.Test.YtabjjdicffcolaaGreatDoorClaimJrootp19
set_option maxRecDepth 100000
set_option maxHeartbeats 0
namespace Go.Proofs.YtabjjdicffcolaaGreatDoor
open Go.Lib (hid)
open Go.RowKit
def Im (d:Dy) (p:Nat) (up:Bool):Outc Dy:=if d.neg then bad 4 else Il d p up
theorem Ahk (d:Dy)(p:Nat)(up:Bool):(Im d p up).Ok:=by
 unfold Im;split
 ·exact Mh _
 ·exact Ty _ _ _
theorem Aei (d:Dy)(p:Nat)(up:Bool):(Im d p up).raw.k≠0→(Im d p up).raw.v=rz:=by
 intro h
 show ((Im d p up).v).raw=rz
 rw [(Ahk d p up).2 h,E5]
theorem Alz (n:Nat):bl (isq n)≤bl n:=by
 refine Gq ?_;have h:=(Mo n).1;by_cases h0:isq n=0
 ·omega
 ·have:=Nat.mul_le_mul_left (isq n) (Nat.pos_of_ne_zero h0);omega
theorem Akj {w:World}{x:Dy}{p:Nat}{up:Bool}{bp bx bu:Nat}(hx:x.Ok)(hT:Tab w)(p1:1≤p)(p2:p≤2000)
 (cp:w.cell? ⟨bp,0,none⟩=some (.int .i64 p)) (cx:BlkD w bx x) (cu:w.cell? ⟨bu,0,none⟩=some (.bool up)) :
 Calls Tryz.prog 182 #[.pointer (some ⟨bp,0,none⟩),.pointer (some ⟨bx,0,none⟩),.pointer (some ⟨bu,0,none⟩)] w (Goes 185 (Im x p up).raw w):=by
 obtain ⟨A,l,c,hbx,hRx⟩:=cx;obtain ⟨W,hW,kW,BR,sW⟩:=Al5 w;have hone:=Ys sW (hRx.kept kW);have hm:=fun w1 (k:Kept w w1) v (hv:DyS w1 v [x])=>Abu hv (by intro z hz;simp at hz;subst hz;exact hx) (by simp) (by omega:(1:Int)≤(p:Int)) (by omega)
 have HM:=hid hm;have HO:=hid hone;have HW:=hid hW;have HK:=hid kW;have HR:=hid BR;have HBX:=hid hbx;have CP:=hid cp;have CU:=hid cu;have lp:=Aq cp;have lu:=Aq cu;simp only at lp lu;obtain ⟨lbx,x0,x1,x2,-⟩:=hbx.facts;clear hm hone hW kW BR sW hbx;cases hn:x.neg
 ·have hz:Im x p up=Il x p up:=by unfold Im;rw [hn];rfl
  rw [hz];rw [hn] at x0 HBX HO;have bx1:=Df x.m 64 hx.len;have xl:=hx.lo;have xh:=hx.hi;have limx:Lim w (.slice A l c) (Aj x.m):=by
   obtain ⟨A',l',c',he,-,hlim,-,-⟩:=hRx.shape;injection he with he;injection he with he
   simp only [List.cons.injEq,and_true] at he;rw [he.2.1];exact hlim
  obtain ⟨k0,hk0⟩:∃ k,k=Kd x p:=⟨_,rfl⟩;obtain ⟨kk,hkk⟩:∃ k,k=M5 x p:=⟨_,rfl⟩;have hk0le:k0≤4002:=by rw [hk0];unfold Kd;omega
  have hkk':kk=if (x.e-k0)%2=0 then k0 else k0+1:=by rw [hkk,hk0];rfl
  have hev:(x.e-kk)%2=0:=by rw [hkk];exact Tz x p
  have hkle:kk≤4003:=by rw [hkk'];split<;>omega
  have hs1:=fun w1 (k:Kept w w1)=>Lz (limx.kept k) (by have:=hx.len;omega)
  have hle:=fun w1 (k:Kept w w1)=>Mp (limx.kept k) kk (by have:=hx.len;omega) (by omega)
  have blX:bl (x.m*2^kk)≤8100:=by
   by_cases hz:x.m=0
   ·rw [hz,Nat.zero_mul,Gr];omega
   ·rw [Hq _ _ hz];omega
  have lenX:=Dc (x.m*2^kk) 127 (by omega);have lenI:=Dc (isq (x.m*2^kk)) 127 (by have:=Alz (x.m*2^kk);omega);have hsq:=fun w1 u (hu:Lim w1 u (Aj (x.m*2^kk)))=>Ah0 hu (by omega)
  have hti:=fun w1 u (hu:Lim w1 u (Aj (isq (x.m*2^kk))))=>Add hu hu (by omega) (by omega)
  have lenS:(Aj (isq (x.m*2^kk)*isq (x.m*2^kk))).length≤127:=Nat.le_trans (Ec (Mo (x.m*2^kk)).1) lenX;have hor:=fun w1 u v (hu:Lim w1 u (Aj (isq (x.m*2^kk)*isq (x.m*2^kk)))) (hv:Lim w1 v (Aj (x.m*2^kk)))=>Lu hu hv (by omega) (by omega)
  obtain ⟨hh,hhh⟩:∃ h:Int,(x.e-kk)/2=h:=⟨_,rfl⟩;obtain ⟨rb,hrb⟩:∃ rb,decide (¬isq (x.m*2^kk)*isq (x.m*2^kk)=x.m*2^kk)=rb:=⟨_,rfl⟩;have hcm:(E4 (isq (x.m*2^kk)*isq (x.m*2^kk)) (x.m*2^kk) != 0)=rb:=by
   rw [←hrb];unfold E4;have:=(Mo (x.m*2^kk)).1;by_cases h1:isq (x.m*2^kk)*isq (x.m*2^kk)<x.m*2^kk
   ·rw [if_pos h1];simp;omega
   ·rw [if_neg h1,if_pos (by omega)];simp;omega
  have hcu:=fun w1 u (k:Kept w w1) (hu:Lim w1 u (Aj (isq (x.m*2^kk))))=>Afr (v:=u) (m:=isq (x.m*2^kk)) (p:=p) (e:=hh) false rb up (w:=w1)
   ⟨hu,by omega,by omega,by omega,p1,p2,hT.kept k⟩
  have hout:Il x p up=Iu false (isq (x.m*2^kk)) hh rb p up:=by unfold Il;rw [←hkk,hhh,hrb]
  obtain ⟨o,ho⟩:∃ o,o=Il x p up:=⟨_,rfl⟩;rw [←ho];rw [←ho.trans hout] at hcu;obtain ⟨s1,hs1'⟩:∃ s:Int,2*(p:Int)=s:=⟨_,rfl⟩;obtain ⟨s2,hs2'⟩:∃ s:Int,s1+2=s:=⟨_,rfl⟩;obtain ⟨s3,hs3'⟩:∃ s:Int,s2-(bl x.m:Int)=s:=⟨_,rfl⟩;have hw1:IntKind.i64.wrap (2*(p:Int))=s1:=by simp [IntKind.wrap_i64];omega
  have hw2:IntKind.i64.wrap (s1+2)=s2:=by simp [IntKind.wrap_i64];omega
  have hw3:IntKind.i64.wrap (s2-(bl x.m:Int))=s3:=by simp [IntKind.wrap_i64];omega
  have hmx:max 0 s3=(k0:Int):=by rw [hk0];unfold Kd;omega
  obtain ⟨d0,hd0⟩:∃ d:Int,x.e-(k0:Int)=d:=⟨_,rfl⟩;obtain ⟨d1,hd1⟩:∃ d:Int,x.e-(kk:Int)=d:=⟨_,rfl⟩;have hw4:IntKind.i64.wrap (x.e-(k0:Int))=d0:=by rw [hd0];simp [IntKind.wrap_i64];omega
  have hw5:IntKind.i64.wrap (x.e-(kk:Int))=d1:=by rw [hd1];simp [IntKind.wrap_i64];omega
  have hw6:IntKind.i64.wrap (d1.tdiv 2)=hh:=by
   have:d1.tdiv 2=hh:=by
    rw [←hhh,hd1];rw [hd1] at hev;rw [Int.tdiv_eq_ediv];split<;>omega
   rw [this];simp [IntKind.wrap_i64];omega
  have H1:=hid hs1;have HL:=hid hle;have HSQ:=hid hsq;have HTI:=hid hti;have HOR:=hid hor;have HC:=hid hcu;have HW5:=hid hw5;have HW6:=hid hw6;have HCM:=hid hcm;have hq1:IntKind.i64.wrap ((k0:Int)+1)=((k0+1:Nat):Int):=by simp [IntKind.wrap_i64];omega
  have hpar:d0.tmod 2=0↔(x.e-k0)%2=0:=by rw [hd0,←Int.dvd_iff_tmod_eq_zero,Int.dvd_iff_emod_eq_zero]
  have HP:=hid hpar;have HKK:=hid hkk';clear hs1 hle hsq hti hor hcu hw5 hw6 hcm hpar hkk' hRx hx hT p1 p2 hz hn bx1 xl xh limx hk0 hkk hk0le hev hkle blX lenX lenI lenS hhh hrb hout ho hs1' hs2' hs3' hd0 hd1;generalize bl x.m=b1 at *;by_cases hpp:d0.tmod 2=0
  ·have hk:=HKK.out;rw [if_pos (HP.out.1 hpp)] at hk;subst hk;have hpb:(d0.tmod 2 != 0)=false:=by simp [hpp]
   have hpc:(d0.tmod 2==0)=true:=by simp [hpp]
   clear hpp HKK HP hq1;generalize x.e=e1 at *;go_enter Tryz.func182,Tryz.ntmps182
   go_wp2_with (first
    | (go_at_call 170;rw [←HW.out];refine (HM.out _ (HK.out.trans (Ad _ _)) _ HO.out).mono ?_;rintro e w1 ⟨rfl,q⟩;have K:=hid (HK.out.trans ((Ad _ _).trans q));have hr:=HR.out.kept ((Ad _ _).trans q);have HR2:=hid hr;clear q hr x0 x1 x2 cp cu;have cp:=Al K.out CP.out;have cu:=Al K.out CU.out;obtain ⟨-,x0,x1,x2,-⟩:=(HBX.out.kept K.out).facts)
    | (go_at_call 174;refine (Fo _ _ _).mono ?_;rintro e w3 ⟨he,rfl⟩;obtain rfl:e=.returned (.tuple #[]):=he))
   clear x0 x1 x2 cp cu
   refine rgL 9 ([(vE (.int .i64 p)),(vE (.int .i64 s1)),(vE (.int .i64 s2)),(vP bx 1),(vE (.slice A l c)),(vE (.int .i64 b1)),(vE (.int .i64 s3)),(vE (.int .i64 kk)),(vE (.int .i64 kk))])
    ⟨
     (fun aF wF F=>by have s0:=F.q 0 (.pointer (some ⟨bp,0,none⟩));exact sw (by have cq:=Al F.kept (Al K.out CP.out);go_simp) rfl),(gv 0 15),(gv 1 16),(gq 1),(gvl 3 18 fun _ k=>Ai (HBX.out.kept K.out) k 1 _ rfl),(fun aF wF F=>by have s19:=F.v 4 19;exact sQ (H1.out _ (K.out.trans F.kept)) fun _ _ h=>h),(gvv 2 17 5 20),(gv 6 21),(gv 7 22),
     trivial⟩ ?_
   intro u w1 k1 hu;simp only [Av,An,if_true,Act.put,zlA,zlB,zlC,zlD,zlE,zlF,zlG,hv hu 0,hv hu 1,hv hu 2,hv hu 3,hv hu 4,hv hu 5,hv hu 6,hv hu 7,hv hu 8];clear hu;have K1:=hid (K.out.trans k1);have HR3:=hid (HR2.out.kept k1);clear k1 u hw1 hw2 hw3 hmx;obtain ⟨-,x0,x1,x2,-⟩:=(HBX.out.kept K1.out).facts;go_wp2_with fail;clear hpb hpc;refine (HL.out _ K1.out).mono ?_;rintro e w2 ⟨M,rfl,hM,q⟩;have K2:=hid (K1.out.trans q);have HR4:=hid (HR3.out.kept q);have LM:=hid hM;clear hM q x0 x1 x2;simp only [];go_wp2_with fail;refine (HSQ.out _ _ LM.out).mono ?_;rintro e w3 ⟨X,rfl,hX,q⟩;have K3:=hid (K2.out.trans q)
   have HR5:=hid (HR4.out.kept q);have LX:=hid hX;replace LM:=hid (LM.out.kept q);clear hX q hw4;have hw5:=HW5.out;have hw6:=HW6.out;have hcm:=HCM.out;simp only [];go_wp2_with fail
   refine Ha 15 ([(vE X),(vP bx 2),(vE (.int .i64 e1)),(vE (.int .i64 ((kk:Nat):Int))),(vE (.int .i64 d1)),(vE (.int .i64 hh)),(vE X),(vE X),(fun v wv=>Lim wv v (Aj (isq (x.m*2^kk)*isq (x.m*2^kk)))),(vE M),(vE (.int .i64 (E4 (isq (x.m*2^kk)*isq (x.m*2^kk)) (x.m*2^kk)))),(vE (.bool rb)),(vE (.int .i64 p)),(vE (.bool up)),(fun v wv=>o.raw.k=0∧DyR wv v o.raw.v)])
    ⟨
     (gq 6),(gq 1),(gvl 1 38 fun _ k=>Ai (HBX.out.kept K3.out) k 2 _ rfl),(gq 4),(fun aF wF F=>by have s39:=F.v 2 39;have s40:=F.v 3 40;exact sw (by have hx:=HW5.out;push_cast at hx;go_simp) rfl),(gv 4 41),(gq 6),(gq 6),(fun aF wF F=>by have s43:=F.v 6 43;have s44:=F.v 7 44;exact sL (HTI.out _ _ (LX.out.kept F.kept)) fun _ _ h=>h),(gq 5),(fun aF wF F=>by have s45:=F.p 8 45;have s46:=F.v 9 46;exact sQ (HOR.out _ _ _ s45 (LM.out.kept F.kept)) fun _ _ h=>h),(gv 10 47),(fun aF wF F=>by have s0:=F.q 0 (.pointer (some ⟨bp,0,none⟩));exact sw (by have cq:=Al F.kept (Al K3.out CP.out);go_simp) rfl),(fun aF wF F=>by have s2:=F.q 2 (.pointer (some ⟨bu,0,none⟩));exact sw (by have cq:=Al F.kept (Al K3.out CU.out);go_simp) rfl),(fun aF wF F=>by have s37:=F.v 0 37;have s42:=F.v 5 42;have s48:=F.v 11 48;have s49:=F.v 12 49;have s50:=F.v 13 50;exact sG (HC.out _ _ (K3.out.trans F.kept) (LX.out.kept F.kept)) (fun _ _ _ h0 h=>⟨h0,h⟩) (fun w2 k2 h0=>⟨F.defers,⟨K3.out.trans (F.kept.trans k2),.inr ⟨h0,rfl⟩⟩⟩)),
     trivial⟩ ?_
   intro u w1 k1 hu;have p45:=hp hu 8;have p51:=hp hu 14;simp only [Av,An,if_true,Act.put,zlA,zlB,zlC,zlD,zlE,zlF,zlG,hv hu 0,hv hu 1,hv hu 2,hv hu 3,hv hu 4,hv hu 5,hv hu 6,hv hu 7,hv hu 9,hv hu 10,hv hu 11,hv hu 12,hv hu 13];clear hu;generalize u 8=v45,u 14=v51 at *;obtain ⟨h0,hd⟩:=p51;obtain ⟨A',l',c',rfl,hd,g1,g2⟩:=D4 hd;have hb:=HR5.out.kept k1;obtain ⟨_,c0,c1,c2,f0,f1,f2⟩:=hb.facts;have HD:=hid hd;have H0:=hid h0;have HB:=hid hb;have K4:=hid (K3.out.trans k1);clear hd h0 hb k1 p45;go_simp;go_wp2_with fail;exact By (HB.out.laid _ _ _) rfl rfl rfl ⟨Am K4.out (Nat.le_refl _),.inl ⟨H0.out,_,rfl,(HD.out.dyW HB.out (Ag _) (Ae _ _ _) (Ah _)).dyR g1 g2⟩⟩
  ·have hk:=HKK.out;rw [if_neg (fun h=>hpp (HP.out.2 h))] at hk;subst hk;have hpb:(d0.tmod 2 != 0)=true:=by simp [hpp]
   have hpc:(d0.tmod 2==0)=false:=by simp [hpp]
   clear hpp HKK HP;generalize x.e=e1 at *;go_enter Tryz.func182,Tryz.ntmps182
   go_wp2_with (first
    | (go_at_call 170;rw [←HW.out];refine (HM.out _ (HK.out.trans (Ad _ _)) _ HO.out).mono ?_;rintro e w1 ⟨rfl,q⟩;have K:=hid (HK.out.trans ((Ad _ _).trans q));have hr:=HR.out.kept ((Ad _ _).trans q);have HR2:=hid hr;clear q hr x0 x1 x2 cp cu;have cp:=Al K.out CP.out;have cu:=Al K.out CU.out;obtain ⟨-,x0,x1,x2,-⟩:=(HBX.out.kept K.out).facts)
    | (go_at_call 174;refine (Fo _ _ _).mono ?_;rintro e w3 ⟨he,rfl⟩;obtain rfl:e=.returned (.tuple #[]):=he))
   clear x0 x1 x2 cp cu
   refine rgL 9 ([(vE (.int .i64 p)),(vE (.int .i64 s1)),(vE (.int .i64 s2)),(vP bx 1),(vE (.slice A l c)),(vE (.int .i64 b1)),(vE (.int .i64 s3)),(vE (.int .i64 k0)),(vE (.int .i64 k0))])
    ⟨
     (fun aF wF F=>by have s0:=F.q 0 (.pointer (some ⟨bp,0,none⟩));exact sw (by have cq:=Al F.kept (Al K.out CP.out);go_simp) rfl),(gv 0 15),(gv 1 16),(gq 1),(gvl 3 18 fun _ k=>Ai (HBX.out.kept K.out) k 1 _ rfl),(fun aF wF F=>by have s19:=F.v 4 19;exact sQ (H1.out _ (K.out.trans F.kept)) fun _ _ h=>h),(gvv 2 17 5 20),(gv 6 21),(gv 7 22),
     trivial⟩ ?_
   intro u w1 k1 hu;simp only [Av,An,if_true,Act.put,zlA,zlB,zlC,zlD,zlE,zlF,zlG,hv hu 0,hv hu 1,hv hu 2,hv hu 3,hv hu 4,hv hu 5,hv hu 6,hv hu 7,hv hu 8];clear hu;have K1:=hid (K.out.trans k1);have HR3:=hid (HR2.out.kept k1);clear k1 u hw1 hw2 hw3 hmx;obtain ⟨-,x0,x1,x2,-⟩:=(HBX.out.kept K1.out).facts;go_wp2_with fail;clear hpb hpc hq1;refine (HL.out _ K1.out).mono ?_;rintro e w2 ⟨M,rfl,hM,q⟩;have K2:=hid (K1.out.trans q);have HR4:=hid (HR3.out.kept q);have LM:=hid hM;clear hM q x0 x1 x2;simp only [];go_wp2_with fail;refine (HSQ.out _ _ LM.out).mono ?_;rintro e w3 ⟨X,rfl,hX,q⟩;have K3:=hid (K2.out.trans q)
   have HR5:=hid (HR4.out.kept q);have LX:=hid hX;replace LM:=hid (LM.out.kept q);clear hX q hw4;have hw5:=HW5.out;have hw6:=HW6.out;have hcm:=HCM.out;simp only [];go_wp2_with fail
   refine Ha 15 ([(vE X),(vP bx 2),(vE (.int .i64 e1)),(vE (.int .i64 (((k0+1):Nat):Int))),(vE (.int .i64 d1)),(vE (.int .i64 hh)),(vE X),(vE X),(fun v wv=>Lim wv v (Aj (isq (x.m*2^(k0+1))*isq (x.m*2^(k0+1))))),(vE M),(vE (.int .i64 (E4 (isq (x.m*2^(k0+1))*isq (x.m*2^(k0+1))) (x.m*2^(k0+1))))),(vE (.bool rb)),(vE (.int .i64 p)),(vE (.bool up)),(fun v wv=>o.raw.k=0∧DyR wv v o.raw.v)])
    ⟨
     (gq 6),(gq 1),(gvl 1 38 fun _ k=>Ai (HBX.out.kept K3.out) k 2 _ rfl),(gq 4),(fun aF wF F=>by have s39:=F.v 2 39;have s40:=F.v 3 40;exact sw (by have hx:=HW5.out;push_cast at hx;go_simp) rfl),(gv 4 41),(gq 6),(gq 6),(fun aF wF F=>by have s43:=F.v 6 43;have s44:=F.v 7 44;exact sL (HTI.out _ _ (LX.out.kept F.kept)) fun _ _ h=>h),(gq 5),(fun aF wF F=>by have s45:=F.p 8 45;have s46:=F.v 9 46;exact sQ (HOR.out _ _ _ s45 (LM.out.kept F.kept)) fun _ _ h=>h),(gv 10 47),(fun aF wF F=>by have s0:=F.q 0 (.pointer (some ⟨bp,0,none⟩));exact sw (by have cq:=Al F.kept (Al K3.out CP.out);go_simp) rfl),(fun aF wF F=>by have s2:=F.q 2 (.pointer (some ⟨bu,0,none⟩));exact sw (by have cq:=Al F.kept (Al K3.out CU.out);go_simp) rfl),(fun aF wF F=>by have s37:=F.v 0 37;have s42:=F.v 5 42;have s48:=F.v 11 48;have s49:=F.v 12 49;have s50:=F.v 13 50;exact sG (HC.out _ _ (K3.out.trans F.kept) (LX.out.kept F.kept)) (fun _ _ _ h0 h=>⟨h0,h⟩) (fun w2 k2 h0=>⟨F.defers,⟨K3.out.trans (F.kept.trans k2),.inr ⟨h0,rfl⟩⟩⟩)),
     trivial⟩ ?_
   intro u w1 k1 hu;have p45:=hp hu 8;have p51:=hp hu 14;simp only [Av,An,if_true,Act.put,zlA,zlB,zlC,zlD,zlE,zlF,zlG,hv hu 0,hv hu 1,hv hu 2,hv hu 3,hv hu 4,hv hu 5,hv hu 6,hv hu 7,hv hu 9,hv hu 10,hv hu 11,hv hu 12,hv hu 13];clear hu;generalize u 8=v45,u 14=v51 at *;obtain ⟨h0,hd⟩:=p51;obtain ⟨A',l',c',rfl,hd,g1,g2⟩:=D4 hd;have hb:=HR5.out.kept k1;obtain ⟨_,c0,c1,c2,f0,f1,f2⟩:=hb.facts;have HD:=hid hd;have H0:=hid h0;have HB:=hid hb;have K4:=hid (K3.out.trans k1);clear hd h0 hb k1 p45;go_simp;go_wp2_with fail;exact By (HB.out.laid _ _ _) rfl rfl rfl ⟨Am K4.out (Nat.le_refl _),.inl ⟨H0.out,_,rfl,(HD.out.dyW HB.out (Ag _) (Ae _ _ _) (Ah _)).dyR g1 g2⟩⟩
 ·have hz:Im x p up=bad 4:=by unfold Im;rw [hn];rfl
  rw [hz];rw [hn] at x0 HBX HO;clear hRx hx hT p1 p2 hz hn;generalize x.e=e1 at *;go_enter Tryz.func182,Tryz.ntmps182
  go_wp2_with (first
   | (go_at_call 170;rw [←HW.out];refine (HM.out _ (HK.out.trans (Ad _ _)) _ HO.out).mono ?_;rintro e w1 ⟨rfl,q⟩;have K:=hid (HK.out.trans ((Ad _ _).trans q));have hr:=HR.out.kept ((Ad _ _).trans q);have HR2:=hid hr;clear q hr x0 x1 x2 cp cu;have cp:=Al K.out CP.out;have cu:=Al K.out CU.out;obtain ⟨-,x0,x1,x2,-⟩:=(HBX.out.kept K.out).facts)
   | (go_at_call 174;refine (Fo _ _ _).mono ?_;rintro e w3 ⟨he,rfl⟩;obtain rfl:e=.panicked (Bs 185 _):=he))
  exact ⟨rfl,K.out,.inr ⟨by decide,rfl⟩⟩
theorem Ahl {w:World}{v:Value}{d:Dy}{p:Nat}{up:Bool}(hv:DyR w v d.raw)(hd:d.Ok)(hT:Tab w)(p1:1≤p)(p2:p≤2000) :
 Calls Tryz.prog 142 #[v,.int .i64 p,.bool up] w (RetE (Im d p up).raw w):=by
 have hmf:=Gn;obtain ⟨A,l,c,rfl,hv⟩:=Bg hv;obtain ⟨W,hW,kW,B0,cp,cu,BR⟩:=Afk w (.bool d.neg) (.slice A l c) (.int .i64 d.e) (.int .i64 p) (.bool up)
 have hf:=W3 (w:=W) (K:=182) (cap:=#[.pointer (some ⟨w.heap.size+1,0,none⟩),.pointer (some ⟨w.heap.size,0,none⟩),.pointer (some ⟨w.heap.size+1+1,0,none⟩)]) (o:=(Im d p up).raw)
  (fun w1 k=>Akj hd (hT.kept (kW.trans k)) p1 p2 (Al k cp) ⟨A,l,c,B0.kept k,hv.kept (kW.trans k)⟩ (Al k cu)) (Aei d p up) (fun _=>rfl)
 have HF:=hid hf;have HW:=hid hW;have HK:=hid kW;have HR:=hid BR;clear hf hW kW B0 cp cu BR hv hd hT p1 p2;generalize Im d p up=o at *;generalize d.neg=nd at *;generalize d.e=ed at *;go_enter Tryz.func142,Tryz.ntmps142
 go_wp2_with (go_at_call 168;rw [←HW.out];refine HF.out.mono ?_;rintro e w1 ⟨q,u,rfl,hd⟩;obtain ⟨A',l',c',rfl,hd,g3,g4⟩:=D4 hd;have HD:=hid hd;have hb2:=HR.out.kept q;obtain ⟨_,c0,c1,c2,f0,f1,f2⟩:=hb2.facts;have HB2:=hid hb2;clear hd hb2)
 exact D7 (HB2.out.laid _ _ _) rfl rfl rfl ⟨Am (HK.out.trans q) (by omega),_,rfl,(HD.out.dyW HB2.out (Ag _) (Ae _ _ _) (Ah _)).dyR g3 g4⟩
def IvR (w:World) (v:Value) (a:RawI):Prop:=∃ x y z x' y' z',v=.agg #[x,y,z,x',y',z']∧DyR w (.agg #[x,y,z]) a.lo∧DyR w (.agg #[x',y',z']) a.hi
theorem IvR.kept {w w':World}{v:Value}{a:RawI}(h:IvR w v a)(k:Kept w w'):IvR w' v a:=by
 obtain ⟨x,y,z,x',y',z',rfl,h1,h2⟩:=h;exact ⟨x,y,z,x',y',z',rfl,h1.kept k,h2.kept k⟩
theorem Aw {w:World}{v:Value}{r:Raw}(h:DyR w v r):∃ A l c,v=.agg #[.bool r.neg,.slice A l c,.int .i64 r.e]∧DyR w (.agg #[.bool r.neg,.slice A l c,.int .i64 r.e]) r:=by
 obtain ⟨A,l,c,rfl,-,-,-,-⟩:=h.shape;exact ⟨A,l,c,rfl,h⟩
theorem Au {w:World}{v:Value}{a:RawI}(h:IvR w v a):∃ A l c A' l' c',v=.agg #[.bool a.lo.neg,.slice A l c,.int .i64 a.lo.e,.bool a.hi.neg,.slice A' l' c',.int .i64 a.hi.e] ∧
 DyR w (.agg #[.bool a.lo.neg,.slice A l c,.int .i64 a.lo.e]) a.lo∧DyR w (.agg #[.bool a.hi.neg,.slice A' l' c',.int .i64 a.hi.e]) a.hi:=by
 obtain ⟨x,y,z,x',y',z',rfl,h1,h2⟩:=h;obtain ⟨A,l,c,e1,h1⟩:=Aw h1;obtain ⟨A',l',c',e2,h2⟩:=Aw h2;injection e1 with e1;injection e1 with e1
 injection e2 with e2;injection e2 with e2
 simp only [List.cons.injEq,and_true] at e1 e2;obtain ⟨rfl,rfl,rfl⟩:=e1;obtain ⟨rfl,rfl,rfl⟩:=e2;exact ⟨A,l,c,A',l',c',rfl,h1,h2⟩
def BlkI (w:World) (b:Nat) (x y z x' y' z':Value):Prop:=w.heap[b]?=some (.cells #[x,y,z,x',y',z'] 30 (0,0))
theorem BlkI.facts {w:World}{b:Nat}{x y z x' y' z':Value}(h:BlkI w b x y z x' y' z'):b<w.heap.size∧w.cell? ⟨b,0,none⟩=some x∧w.cell? ⟨b,1,none⟩=some y∧w.cell? ⟨b,2,none⟩=some z ∧
 w.cell? ⟨b,3,none⟩=some x'∧w.cell? ⟨b,4,none⟩=some y'∧w.cell? ⟨b,5,none⟩=some z' :=
 ⟨(Array.getElem?_eq_some_iff.1 h).1,Ab h 0 _ rfl,Ab h 1 _ rfl,Ab h 2 _ rfl,Ab h 3 _ rfl,Ab h 4 _ rfl,Ab h 5 _ rfl⟩
theorem BlkI.kept {w w1:World}{b:Nat}{x y z x' y' z':Value}(h:BlkI w b x y z x' y' z')(k:Kept w w1):BlkI w1 b x y z x' y' z' :=
 (k.block b (Array.getElem?_eq_some_iff.1 h).1).trans h
theorem Fs (w:World)(x y z x' y' z':Value):BlkI (w.alloc (.cells #[x,y,z,x',y',z'] 30)) w.heap.size x y z x' y' z':=heap_alloc_new _ _
def RawI.lens (a:RawI) (k:Nat):Prop:=a.lo.m.length≤k∧a.hi.m.length≤k
theorem An2 (w:World)(x y z x' y' z':Value):∃ W,W=w.alloc (.cells #[x,y,z,x',y',z'] 30)∧Kept w W∧BlkI W w.heap.size x y z x' y' z' :=
 ⟨_,rfl,Ad _ _,Fs _ _ _ _ _ _ _⟩
theorem Qr {w:World}{v:Value}{r:Raw}(h:DyR w v r):Small r.m:=by
 obtain ⟨s,-,hs,-,-⟩:=h;exact hs.1
theorem W8 {w:World}{v:Value}{a:RawI}(hv:IvR w v a)(hl:a.lens 17592186044416) :
 Calls Tryz.prog 50 #[v] w (RetK (.bool (Hr a)) w):=by
 obtain ⟨A,l,c,A',l',c',rfl,h1,h2⟩:=Au hv;have m1:=fun w1 (k:Kept w w1)=>Mr (h1.kept k) hl.1
 have m2:=fun w1 (k:Kept w w1)=>Mr (h2.kept k) hl.2
 have hc:Hn a.lo=true→Hn a.hi=true→∀ w1,Kept w w1→Calls Tryz.prog 40 #[.agg #[.bool a.lo.neg,.slice A l c,.int .i64 a.lo.e],.agg #[.bool a.hi.neg,.slice A' l' c',.int .i64 a.hi.e]] w1 (RetK (.int .i64 (Ci a.lo.dy.q a.hi.dy.q)) w1):=by
  intro d1 d2 w1 k;obtain ⟨e1,o1⟩:=Jn (Qr h1) d1;obtain ⟨e2,o2⟩:=Jn (Qr h2) d2;have g1:=h1.kept k;have g2:=h2.kept k;exact Ka (x:=a.lo.dy) (y:=a.hi.dy) (by rw [e1];exact g1) (by rw [e2];exact g2) o1 o2
 unfold Hr;have M1:=hid m1;have M2:=hid m2;have HC:=hid hc;clear m1 m2 hc h1 h2 hv hl;generalize a.lo.neg=n1 at *;generalize a.lo.e=e1 at *;generalize a.hi.neg=n2 at *;generalize a.hi.e=e2 at *;generalize Ci a.lo.dy.q a.hi.dy.q=cc at *;generalize Hn a.lo=b1 at *;generalize Hn a.hi=b2 at *;obtain ⟨W,hW,kW,BI⟩:=An2 w (.bool n1) (.slice A l c) (.int .i64 e1) (.bool n2) (.slice A' l' c') (.int .i64 e2);have HW:=hid hW;have HK:=hid kW;have HB:=hid BI;clear hW kW BI;cases b1
 ·rw [Bool.false_and,Bool.false_and];go_enter Tryz.func50,Tryz.ntmps50
  go_wp2_with (go_at_call 53;rw [←HW.out];refine (M1.out _ HK.out).mono ?_;rintro e w1 ⟨rfl,q⟩)
  go_ret;exact ⟨rfl,HK.out.trans q⟩
 ·cases b2
  ·rw [Bool.and_false,Bool.false_and];go_enter Tryz.func50,Tryz.ntmps50;go_wp2_with fail;rw [←HW.out];refine (M1.out _ HK.out).mono ?_;rintro e w1 ⟨rfl,q⟩;have K:=hid (HK.out.trans q);obtain ⟨-,c0,c1,c2,c3,c4,c5⟩:=(HB.out.kept q).facts;have HB2:=hid (HB.out.kept q);clear q;simp only [];go_wp2_with fail;refine (M2.out _ K.out).mono ?_;rintro e w2 ⟨rfl,q⟩;replace K:=hid (K.out.trans q);clear c0 c1 c2 c3 c4 c5;obtain ⟨-,c0,c1,c2,c3,c4,c5⟩:=(HB2.out.kept q).facts;clear q;simp only [];go_wp2_with fail;go_ret;exact ⟨rfl,K.out⟩
  ·rw [Bool.and_true,Bool.true_and];have hc:=HC.out rfl rfl;clear HC;have HC:=hid hc;clear hc;obtain ⟨rb,hrb⟩:∃ rb,decide (cc≤0)=rb:=⟨_,rfl⟩;rw [hrb];go_enter Tryz.func50,Tryz.ntmps50;go_wp2_with fail;rw [←HW.out];refine (M1.out _ HK.out).mono ?_;rintro e w1 ⟨rfl,q⟩;have K:=hid (HK.out.trans q);obtain ⟨-,c0,c1,c2,c3,c4,c5⟩:=(HB.out.kept q).facts;have HB2:=hid (HB.out.kept q);clear q;simp only [];go_wp2_with fail;refine (M2.out _ K.out).mono ?_;rintro e w2 ⟨rfl,q⟩;replace K:=hid (K.out.trans q);clear c0 c1 c2 c3 c4 c5;obtain ⟨-,c0,c1,c2,c3,c4,c5⟩:=(HB2.out.kept q).facts;clear q;simp only [];go_wp2_with fail
   refine (HC.out _ K.out).mono ?_;rintro e w3 ⟨rfl,q⟩;replace K:=hid (K.out.trans q);clear q;simp only [];go_wp2_with fail;go_ret;exact ⟨rfl,K.out⟩
instance iI {r:RawI}:Nonempty (J8 fun v w=>IvR w v r):=⟨fun _ _ _ k h=>h.kept k⟩
instance iNI {S:Nat} {x y z x' y' z':Value}:Nonempty (J8 fun v w=>∃ b,v=.pointer (some ⟨b,0,none⟩)∧S≤b∧BlkI w b x y z x' y' z'):=⟨fun _ _ _ k q=>by obtain ⟨b,e,q1,q2⟩:=q;exact ⟨b,e,q1,q2.kept k⟩⟩
def IvC (w:World) (v:Value) (a:Iv):Prop:=IvR w v a.raw
theorem IvC.kept {w w':World}{v:Value}{a:Iv}(h:IvC w v a)(k:Kept w w'):IvC w' v a:=IvR.kept h k
theorem Bm {w:World}{v:Value}{a:Iv}(h:IvC w v a):∃ A l c A' l' c',v=.agg #[.bool a.lo.neg,.slice A l c,.int .i64 a.lo.e,.bool a.hi.neg,.slice A' l' c',.int .i64 a.hi.e] ∧
 DyR w (.agg #[.bool a.lo.neg,.slice A l c,.int .i64 a.lo.e]) a.lo.raw∧DyR w (.agg #[.bool a.hi.neg,.slice A' l' c',.int .i64 a.hi.e]) a.hi.raw:=Au h
theorem E6 {a:Iv}(h:a.Ok):a.raw.lens 17592186044416:=⟨by have:=Dx h.lo;show a.lo.raw.m.length≤_;omega,by have:=Dx h.hi;show a.hi.raw.m.length≤_;omega⟩
theorem Nk {w:World}{v:Value}{a:Iv}(hv:IvC w v a)(h:a.Ok):Calls Tryz.prog 50 #[v] w (RetK (.bool true) w):=by
 have:=W8 hv (E6 h);rwa [Dv h] at this
theorem Agq {w:World}{v:Value}{d:Dy}(hv:DyR w v d.raw)(h:d.Ok):Calls Tryz.prog 53 #[v] w (RetK (.bool true) w):=by
 have:=Mr hv (by have:=Dx h;omega);rwa [h.may] at this
def Uv (a:Iv) (d:Dy):Bool:=decide (Ci a.lo.q d.q≤0)&&decide (Ci d.q a.hi.q≤0)
theorem Al6 (w:World)(x y z x' y' z' p q r:Value):∃ W,W=(w.alloc (.cells #[x,y,z,x',y',z'] 30)).alloc (.cells #[p,q,r] 28)∧Kept w W∧BlkI W w.heap.size x y z x' y' z'∧Blk W (w.heap.size+1) p q r :=
 ⟨_,rfl,(Ad _ _).trans (Ad _ _),(Fs _ _ _ _ _ _ _).kept (Ad _ _),Dt _ _ _ _ _⟩
theorem Acr {w:World}{v u:Value}{a:Iv}{d:Dy}(hv:IvC w v a)(hu:DyR w u d.raw)(ha:a.Ok)(hd:d.Ok) :
 Calls Tryz.prog 24 #[v,u] w (RetK (.bool (Uv a d)) w):=by
 have m1:=fun w1 (k:Kept w w1)=>Nk (hv.kept k) ha
 have m2:=fun w1 (k:Kept w w1)=>Agq (hu.kept k) hd
 obtain ⟨A,l,c,A',l',c',rfl,h1,h2⟩:=Bm hv;obtain ⟨A3,l3,c3,rfl,hu⟩:=Bg hu;have q1:=fun w1 (k:Kept w w1)=>Ka (h1.kept k) (hu.kept k) ha.lo hd
 have q2:=fun w1 (k:Kept w w1)=>Ka (hu.kept k) (h2.kept k) hd ha.hi
 unfold Uv;have M1:=hid m1;have M2:=hid m2;have Q1:=hid q1;have Q2:=hid q2;clear m1 m2 q1 q2 h1 h2 hv hu ha hd;generalize Ci a.lo.q d.q=r1 at *;generalize Ci d.q a.hi.q=r2 at *;generalize a.lo.neg=n1 at *;generalize a.lo.e=e1 at *;generalize a.hi.neg=n2 at *;generalize a.hi.e=e2 at *;generalize d.neg=n3 at *;generalize d.e=e3 at *;obtain ⟨W,hW,kW,BI,BD⟩:=Al6 w (.bool n1) (.slice A l c) (.int .i64 e1) (.bool n2) (.slice A' l' c') (.int .i64 e2) (.bool n3) (.slice A3 l3 c3) (.int .i64 e3);have HW:=hid hW;have K:=hid kW;have HB:=hid BI;have HD:=hid BD;clear hW kW BI BD;have hr1:decide (r1≤0)=true∨decide (r1≤0)=false:=Cq _
 rcases hr1 with hr1 | hr1
 ·rw [hr1,Bool.true_and];obtain ⟨rb,hrb⟩:∃ rb,decide (r2≤0)=rb:=⟨_,rfl⟩;rw [hrb];go_enter Tryz.func24,Tryz.ntmps24;go_wp2_with fail;rw [←HW.out];refine (M1.out _ K.out).mono ?_;rintro e w1 ⟨rfl,q⟩;replace K:=hid (K.out.trans q);replace HB:=hid (HB.out.kept q);replace HD:=hid (HD.out.kept q);clear q;obtain ⟨-,c0,c1,c2,c3,c4,c5⟩:=HB.out.facts;obtain ⟨-,d0,d1,d2,-⟩:=HD.out.facts;simp only [];go_wp2_with fail;refine (M2.out _ K.out).mono ?_;clear c0 c1 c2 c3 c4 c5 d0 d1 d2;rintro e w1 ⟨rfl,q⟩;replace K:=hid (K.out.trans q);replace HB:=hid (HB.out.kept q);replace HD:=hid (HD.out.kept q);clear q;obtain ⟨-,c0,c1,c2,c3,c4,c5⟩:=HB.out.facts
  obtain ⟨-,d0,d1,d2,-⟩:=HD.out.facts;simp only [];go_wp2_with fail;refine (Q1.out _ K.out).mono ?_;clear c0 c1 c2 c3 c4 c5 d0 d1 d2;rintro e w1 ⟨rfl,q⟩;replace K:=hid (K.out.trans q);replace HB:=hid (HB.out.kept q);replace HD:=hid (HD.out.kept q);clear q;obtain ⟨-,c0,c1,c2,c3,c4,c5⟩:=HB.out.facts;obtain ⟨-,d0,d1,d2,-⟩:=HD.out.facts;simp only [];go_wp2_with fail;refine (Q2.out _ K.out).mono ?_;rintro e w4 ⟨rfl,q⟩;replace K:=hid (K.out.trans q);clear q;simp only [];go_wp2_with fail;go_ret;exact ⟨rfl,K.out⟩
 ·rw [hr1,Bool.false_and];go_enter Tryz.func24,Tryz.ntmps24;go_wp2_with fail;rw [←HW.out];refine (M1.out _ K.out).mono ?_;rintro e w1 ⟨rfl,q⟩;replace K:=hid (K.out.trans q);replace HB:=hid (HB.out.kept q);replace HD:=hid (HD.out.kept q);clear q;obtain ⟨-,c0,c1,c2,c3,c4,c5⟩:=HB.out.facts;obtain ⟨-,d0,d1,d2,-⟩:=HD.out.facts;simp only [];go_wp2_with fail;refine (M2.out _ K.out).mono ?_;clear c0 c1 c2 c3 c4 c5 d0 d1 d2;rintro e w1 ⟨rfl,q⟩;replace K:=hid (K.out.trans q);replace HB:=hid (HB.out.kept q);replace HD:=hid (HD.out.kept q);clear q;obtain ⟨-,c0,c1,c2,c3,c4,c5⟩:=HB.out.facts;obtain ⟨-,d0,d1,d2,-⟩:=HD.out.facts
  simp only [];go_wp2_with fail;refine (Q1.out _ K.out).mono ?_;clear c0 c1 c2 c3 c4 c5 d0 d1 d2;rintro e w1 ⟨rfl,q⟩;replace K:=hid (K.out.trans q);replace HB:=hid (HB.out.kept q);replace HD:=hid (HD.out.kept q);clear q;obtain ⟨-,c0,c1,c2,c3,c4,c5⟩:=HB.out.facts;obtain ⟨-,d0,d1,d2,-⟩:=HD.out.facts;simp only [];go_wp2_with fail;go_ret;exact ⟨rfl,K.out⟩
theorem Wn (w:World)(x y z x' y' z' p q r p' q' r':Value):∃ W,W=(w.alloc (.cells #[x,y,z,x',y',z'] 30)).alloc (.cells #[p,q,r,p',q',r'] 30)∧Kept w W∧BlkI W w.heap.size x y z x' y' z'∧BlkI W (w.heap.size+1) p q r p' q' r':=by
 refine ⟨_,rfl,(Ad _ _).trans (Ad _ _),(Fs _ _ _ _ _ _ _).kept (Ad _ _),?_⟩;have:=Fs (w.alloc (.cells #[x,y,z,x',y',z'] 30)) p q r p' q' r';simpa using this
def Lm (a b:Dy):Dy:=if Ci a.q b.q≤0 then a else b
def F7 (a b:Dy):Dy:=if 0≤Ci a.q b.q then a else b
theorem Af9 {w:World}{v u:Value}{x y:Dy}(ha:DyR w v x.raw)(hb:DyR w u y.raw)(hx:x.Ok)(hy:y.Ok) :
 Calls Tryz.prog 52 #[v,u] w (RetD (Lm x y).raw w):=by
 have hc:=fun w1 (k:Kept w w1)=>Ka (ha.kept k) (hb.kept k) hx hy
 unfold Lm;obtain ⟨A,l,c,rfl,-,la,xa,xb⟩:=ha.shape;obtain ⟨A2,l2,c2,rfl,-,lb,ya,yb⟩:=hb.shape;obtain ⟨W,hW,kW,B0,B1,B2⟩:=It w (.bool x.neg) (.slice A l c) (.int .i64 x.e) (.bool y.neg) (.slice A2 l2 c2) (.int .i64 y.e);have HC:=hid hc;have HW:=hid hW;have K:=hid kW;have HB0:=hid B0;have HB1:=hid B1;have HB2:=hid B2;have LA:=hid la;have LB:=hid lb;have BX:=hid (And.intro xa xb);have BY:=hid (And.intro ya yb);clear hc hW kW B0 B1 B2 la lb xa xb ya yb ha hb hx hy;simp only [Dy.raw] at *;generalize Ci x.q y.q=cc at *;by_cases hcc:cc≤0
 ·rw [if_pos hcc];have hd:decide (cc≤0)=true:=by simp [hcc]
  clear hcc;go_enter Tryz.func52,Tryz.ntmps52;go_wp2_with fail;rw [←HW.out];refine (HC.out _ K.out).mono ?_;rintro e w1 ⟨rfl,q⟩;replace K:=hid (K.out.trans q);replace HB0:=hid (HB0.out.kept q);replace HB1:=hid (HB1.out.kept q);replace HB2:=hid (HB2.out.kept q);clear q;obtain ⟨-,a0,a1,a2,-⟩:=HB0.out.facts;obtain ⟨-,b0,b1,b2,-⟩:=HB1.out.facts;obtain ⟨_,c0,c1,c2,f0,f1,f2⟩:=HB2.out.facts;simp only [];go_wp2_with fail;exact By (HB2.out.laid _ _ _) rfl rfl rfl ⟨Am K.out (by omega),_,rfl,((LA.out.kept K.out).dyW HB2.out (Ag _) (Ae _ _ _) (Ah _)).dyR (r:=⟨x.neg,Aj x.m,x.e⟩) BX.out.1 BX.out.2⟩
 ·rw [if_neg hcc];have hd:decide (cc≤0)=false:=by simp [hcc]
  clear hcc;go_enter Tryz.func52,Tryz.ntmps52;go_wp2_with fail;rw [←HW.out];refine (HC.out _ K.out).mono ?_;rintro e w1 ⟨rfl,q⟩;replace K:=hid (K.out.trans q);replace HB0:=hid (HB0.out.kept q);replace HB1:=hid (HB1.out.kept q);replace HB2:=hid (HB2.out.kept q);clear q;obtain ⟨-,a0,a1,a2,-⟩:=HB0.out.facts;obtain ⟨-,b0,b1,b2,-⟩:=HB1.out.facts;obtain ⟨_,c0,c1,c2,f0,f1,f2⟩:=HB2.out.facts;simp only [];go_wp2_with fail;exact By (HB2.out.laid _ _ _) rfl rfl rfl ⟨Am K.out (by omega),_,rfl,((LB.out.kept K.out).dyW HB2.out (Ag _) (Ae _ _ _) (Ah _)).dyR (r:=⟨y.neg,Aj y.m,y.e⟩) BY.out.1 BY.out.2⟩
theorem Yx {w:World}{v u:Value}{x y:Dy}(ha:DyR w v x.raw)(hb:DyR w u y.raw)(hx:x.Ok)(hy:y.Ok) :
 Calls Tryz.prog 51 #[v,u] w (RetD (F7 x y).raw w):=by
 have hc:=fun w1 (k:Kept w w1)=>Ka (ha.kept k) (hb.kept k) hx hy
 unfold F7;obtain ⟨A,l,c,rfl,-,la,xa,xb⟩:=ha.shape;obtain ⟨A2,l2,c2,rfl,-,lb,ya,yb⟩:=hb.shape;obtain ⟨W,hW,kW,B0,B1,B2⟩:=It w (.bool x.neg) (.slice A l c) (.int .i64 x.e) (.bool y.neg) (.slice A2 l2 c2) (.int .i64 y.e);have HC:=hid hc;have HW:=hid hW;have K:=hid kW;have HB0:=hid B0;have HB1:=hid B1;have HB2:=hid B2;have LA:=hid la;have LB:=hid lb;have BX:=hid (And.intro xa xb);have BY:=hid (And.intro ya yb);clear hc hW kW B0 B1 B2 la lb xa xb ya yb ha hb hx hy;simp only [Dy.raw] at *;generalize Ci x.q y.q=cc at *;by_cases hcc:0≤cc
 ·rw [if_pos hcc];have hd:decide (0≤cc)=true:=by simp [hcc]
  clear hcc;go_enter Tryz.func51,Tryz.ntmps51;go_wp2_with fail;rw [←HW.out];refine (HC.out _ K.out).mono ?_;rintro e w1 ⟨rfl,q⟩;replace K:=hid (K.out.trans q);replace HB0:=hid (HB0.out.kept q);replace HB1:=hid (HB1.out.kept q);replace HB2:=hid (HB2.out.kept q);clear q;obtain ⟨-,a0,a1,a2,-⟩:=HB0.out.facts;obtain ⟨-,b0,b1,b2,-⟩:=HB1.out.facts;obtain ⟨_,c0,c1,c2,f0,f1,f2⟩:=HB2.out.facts;simp only [];go_wp2_with fail;exact By (HB2.out.laid _ _ _) rfl rfl rfl ⟨Am K.out (by omega),_,rfl,((LA.out.kept K.out).dyW HB2.out (Ag _) (Ae _ _ _) (Ah _)).dyR (r:=⟨x.neg,Aj x.m,x.e⟩) BX.out.1 BX.out.2⟩
 ·rw [if_neg hcc];have hd:decide (0≤cc)=false:=by simp [hcc]
  clear hcc;go_enter Tryz.func51,Tryz.ntmps51;go_wp2_with fail;rw [←HW.out];refine (HC.out _ K.out).mono ?_;rintro e w1 ⟨rfl,q⟩;replace K:=hid (K.out.trans q);replace HB0:=hid (HB0.out.kept q);replace HB1:=hid (HB1.out.kept q);replace HB2:=hid (HB2.out.kept q);clear q;obtain ⟨-,a0,a1,a2,-⟩:=HB0.out.facts;obtain ⟨-,b0,b1,b2,-⟩:=HB1.out.facts;obtain ⟨_,c0,c1,c2,f0,f1,f2⟩:=HB2.out.facts;simp only [];go_wp2_with fail;exact By (HB2.out.laid _ _ _) rfl rfl rfl ⟨Am K.out (by omega),_,rfl,((LB.out.kept K.out).dyW HB2.out (Ag _) (Ae _ _ _) (Ah _)).dyR (r:=⟨y.neg,Aj y.m,y.e⟩) BY.out.1 BY.out.2⟩
theorem Sp {w:World}{b:Nat}{cs:Array Value}{t:TypeId}(h:w.heap[b]?=some (.cells cs t (0,0)))(i:Nat):w.cell? ⟨b,i,none⟩=cs[i]?:=by
 simp [World.cell?,h]
theorem Lim.setBlock {w w':World}{s:Value}{xs:List Nat}{b:Nat}{cs:Array Value}{t:TypeId}(h:Lim w s xs)(hb:w.heap[b]?=some (.cells cs t (0,0)))(hn:∀ (i:Nat) (v:Value),cs[i]?=some v→Bl v)
 (hs:w.heap.size≤w'.heap.size) (ho:∀ k,k<w.heap.size→k≠b→w'.heap[k]?=w.heap[k]?):Lim w' s xs:=by
 obtain ⟨hsm,A,c,rfl,hc,hA⟩:=h;refine ⟨hsm,A,c,rfl,hc,fun hp=>?_⟩;obtain ⟨b1,off,rfl,hb1,hcell⟩:=hA hp;have hne:b1≠b:=by
  rintro rfl;have h5:=hcell 0 hp;rw [Sp hb] at h5;exact hn _ _ h5 _ rfl
 refine ⟨b1,off,rfl,Nat.lt_of_lt_of_le hb1 hs,fun i hi=>?_⟩;rw [←hcell i hi];exact World.cell?_of_block (ho b1 hb1 hne)
def ivW (w:World) (b:Nat) (x y z x' y' z':Value):World :=
 (((((w.setCell ⟨b,0,none⟩ x).setCell ⟨b,1,none⟩ y).setCell ⟨b,2,none⟩ z).setCell ⟨b,3,none⟩ x').setCell ⟨b,4,none⟩ y').setCell ⟨b,5,none⟩ z'
theorem BlkI.laid {w:World}{b:Nat}{p q r p' q' r':Value}(h:BlkI w b p q r p' q' r')(x y z x' y' z':Value):BlkI (ivW w b x y z x' y' z') b x y z x' y' z' :=
 Bi (Bi (Bi (Bi (Bi (Bi h _) _) _) _) _) _
theorem Az {w0 w:World}{b:Nat}{x y z x' y' z':Value}(h:Kept w0 w)(h2:w0.heap.size≤b):Kept w0 (ivW w b x y z x' y' z') :=
 (((((h.setCell (p:=⟨b,0,none⟩) h2 x).setCell (p:=⟨b,1,none⟩) h2 y).setCell (p:=⟨b,2,none⟩) h2 z).setCell (p:=⟨b,3,none⟩) h2 x').setCell (p:=⟨b,4,none⟩) h2 y').setCell (p:=⟨b,5,none⟩) h2 z'
theorem Eo (w:World)(b k:Nat)(x y z x' y' z':Value)(h:k≠b):(ivW w b x y z x' y' z').heap[k]?=w.heap[k]?:=by
 unfold ivW;rw [Below.heap_setCell _ _ _ _ h,Below.heap_setCell _ _ _ _ h,Below.heap_setCell _ _ _ _ h,Below.heap_setCell _ _ _ _ h,Below.heap_setCell _ _ _ _ h,Below.heap_setCell _ _ _ _ h]
theorem BlkI.noLimb {w:World}{b:Nat}{n n':Bool}{A A':Option Addr}{l c l' c':Nat}{e e':Int}(_h:BlkI w b (.bool n) (.slice A l c) (.int .i64 e) (.bool n') (.slice A' l' c') (.int .i64 e')) :
 ∀ (i:Nat) (v:Value),(#[Value.bool n,.slice A l c,.int .i64 e,.bool n',.slice A' l' c',.int .i64 e']:Array Value)[i]?=some v→Bl v:=by
 intro i v hv;rcases i with _ | _ | _ | _ | _ | _ | i
 ·simp at hv;subst hv;exact Ag _
 ·simp at hv;subst hv;exact Ae _ _ _
 ·simp at hv;subst hv;exact Ah _
 ·simp at hv;subst hv;exact Ag _
 ·simp at hv;subst hv;exact Ae _ _ _
 ·simp at hv;subst hv;exact Ah _
 ·simp at hv
theorem Lim.ivW {w:World}{s:Value}{xs:List Nat}{b:Nat}{n n':Bool}{A A':Option Addr}{l c l' c':Nat}{e e':Int}(h:Lim w s xs)(hb:BlkI w b (.bool n) (.slice A l c) (.int .i64 e) (.bool n') (.slice A' l' c') (.int .i64 e'))(x y z x' y' z':Value) :
 Lim (Go.Proofs.YtabjjdicffcolaaGreatDoor.ivW w b x y z x' y' z') s xs :=
 h.setBlock hb hb.noLimb (by simp [Go.Proofs.YtabjjdicffcolaaGreatDoor.ivW,World.setCell]) (fun k _ hne=>Eo _ _ _ _ _ _ _ _ _ hne)
theorem DyR.ivW {w:World}{v:Value}{r:Raw}{b:Nat}{n n':Bool}{A A':Option Addr}{l c l' c':Nat}{e e':Int}(h:DyR w v r)(hb:BlkI w b (.bool n) (.slice A l c) (.int .i64 e) (.bool n') (.slice A' l' c') (.int .i64 e'))(x y z x' y' z':Value) :
 DyR (Go.Proofs.YtabjjdicffcolaaGreatDoor.ivW w b x y z x' y' z') v r:=by
 obtain ⟨s,rfl,hs,h1,h2⟩:=h;exact ⟨s,rfl,hs.ivW hb _ _ _ _ _ _,h1,h2⟩
theorem BlkI.free {w:World}{b:Nat}{x y z x' y' z':Value}(h:BlkI w b x y z x' y' z'):w.frozen? ⟨b,0,none⟩=false∧w.frozen? ⟨b,1,none⟩=false∧w.frozen? ⟨b,2,none⟩=false∧w.frozen? ⟨b,3,none⟩=false∧w.frozen? ⟨b,4,none⟩=false∧w.frozen? ⟨b,5,none⟩=false :=
 ⟨Ap h 0,Ap h 1,Ap h 2,Ap h 3,Ap h 4,Ap h 5⟩
theorem Et {fn:Func}{R:Ending→World→Prop}{a:Act}{w:World}{b t:Nat}{x y z x' y' z':Value}(h:BlkI w b x y z x' y' z')
 (hres:fn.results=#[.cell t 30]) (ht:a.tmps.getD t undef=.pointer (some ⟨b,0,none⟩)) (hd:a.defers=[]) (hR:R (.returned (.agg #[x,y,z,x',y',z'])) w) :
 bodyPost Tryz.prog fn R .ret a w:=by
 obtain ⟨_,c0,c1,c2,c3,c4,c5⟩:=h.facts;refine bodyPost_ret (v:=.agg #[x,y,z,x',y',z']) ?_ hd hR;have ht2:a.tmps[t]?.getD undef=.pointer (some ⟨b,0,none⟩):=by simpa using ht
 simp [results,hres,ht2,go_sem,c0,c1,c2,c3,c4,c5]
theorem Dm {fn:Func}{R:Ending→World→Prop}{a:Act}{w:World}{b t u:Nat}{x y z x' y' z':Value}(h:BlkI w b x y z x' y' z')
 (hres:fn.results=#[.cell t 30,.tmp u]) (ht:a.tmps.getD t undef=.pointer (some ⟨b,0,none⟩)) (hd:a.defers=[])
 (hR:R (.returned (.tuple #[.agg #[x,y,z,x',y',z'],a.tmps.getD u undef])) w):bodyPost Tryz.prog fn R .ret a w:=by
 obtain ⟨_,c0,c1,c2,c3,c4,c5⟩:=h.facts;refine bodyPost_ret (v:=.tuple #[.agg #[x,y,z,x',y',z'],a.tmps.getD u undef]) ?_ hd hR;have ht2:a.tmps[t]?.getD undef=.pointer (some ⟨b,0,none⟩):=by simpa using ht
 simp [results,hres,ht2,go_sem,c0,c1,c2,c3,c4,c5]
def RetI (a:RawI) (w:World) (e:Ending) (w':World):Prop:=Kept w w'∧∃ v,e=.returned v∧IvR w' v a
def RetIE (o:Outc RawI) (w:World) (e:Ending) (w':World):Prop:=Kept w w'∧∃ v,e=.returned (.tuple #[v,.int .i64 o.k])∧IvR w' v o.v
theorem Ek (w:World):BlkI (w.alloc (.cells #[.bool false,.slice none 0 0,.int .i64 0,.bool false,.slice none 0 0,.int .i64 0] 30)) w.heap.size (.bool false) (.slice none 0 0) (.int .i64 0) (.bool false) (.slice none 0 0) (.int .i64 0):=heap_alloc_new _ _
theorem Agc {w:World}{v:Value}{r:Raw}(hv:DyR w v r):Calls Tryz.prog 21 #[v] w (RetI ⟨r,r⟩ w):=by
 have hv':=hv;obtain ⟨A,l,c,rfl,hv⟩:=Aw hv;have HV:=hid hv;clear hv hv';have hb1:=Fs (w.alloc (.cells #[.bool r.neg,.slice A l c,.int .i64 r.e] 28)) (.bool r.neg) (.slice A l c) (.int .i64 r.e) (.bool r.neg) (.slice A l c) (.int .i64 r.e);simp only [World.size_alloc] at hb1;have HB:=hid hb1;clear hb1;go_enter Tryz.func21,Tryz.ntmps21;go_wp2_with fail;exact Et HB.out rfl rfl rfl ⟨(Ad _ _).trans (Ad _ _),_,rfl,_,_,_,_,_,_,rfl,HV.out.kept ((Ad _ _).trans (Ad _ _)),HV.out.kept ((Ad _ _).trans (Ad _ _))⟩
theorem Afb {xs ys:List Nat}(hl:xs.length=ys.length)(h:∀ i,i<xs.length→nth xs i=nth ys i):xs=ys:=by
 apply List.ext_getElem hl;intro i h1 h2;have:=h i h1;unfold nth at this;rw [List.getD_eq_getElem?_getD,List.getD_eq_getElem?_getD,List.getElem?_eq_getElem h1,List.getElem?_eq_getElem h2] at this;exact this
theorem Ai8 {w:World}{v u:Value}{xs ys:List Nat}(hv:Lim w v xs)(hu:Lim w u ys)(hl:xs.length≤17592186044416) :
 Calls Tryz.prog 72 #[v,u] w (RetK (.bool (xs==ys)) w):=by
 obtain ⟨hs,A,c,rfl,hc,hA⟩:=hv;obtain ⟨hs',A',c',rfl,hc',hA'⟩:=hu;by_cases hne:xs.length=ys.length
 ·have hlb:((xs.length:Int)==(ys.length:Int))=true:=by rw [beq_iff_eq];omega
  have HE:=hid hne;obtain ⟨n,hn⟩:∃ n,n=xs.length:=⟨_,rfl⟩;have hn2:n=ys.length:=by omega
  rw [←hn] at hl hc hA ⊢;rw [←hn2] at hc' hA' ⊢;rw [←hn,←hn2] at hlb;have HA:=hid hA;have HA':=hid hA';have HS:=hid hs;have HS':=hid hs';have HN:=hid hn;clear hA hA' hs hs' hn hn2 hne hlb;have hlb:((n:Int)==(n:Int))=true:=by rw [beq_iff_eq]
  go_enter Tryz.func72,Tryz.ntmps72;go_wp2_with fail
  go_loopw [13] (fun t wr=>∃ k:Nat,k≤n∧t=.int .i64 k∧(∀ i,i<k→nth xs i=nth ys i)∧Kept w wr) (fun t _=>(n-intOf t).toNat)
  case atStart=>exact ⟨0,Nat.zero_le _,rfl,fun i hi=>absurd hi (Nat.not_lt_zero _),Below.refl _ _⟩
  case round =>
   obtain ⟨k,hk,rfl,heq,hK⟩:=hrel;have K:=hid hK;clear hK;have HQ:=hid heq;clear heq;by_cases hlt:k<n
   ·obtain ⟨b,off,rfl,hb,hcell⟩:=HA.out (by omega);obtain ⟨b',off',rfl,hb',hcell'⟩:=HA'.out (by omega);have h1:=fun w1 (q:Kept wr w1)=>((K.out.trans q).cell (p:=⟨b,off+k,none⟩) hb).trans (hcell k hlt)
    have h2:=fun w1 (q:Kept wr w1)=>((K.out.trans q).cell (p:=⟨b',off'+k,none⟩) hb').trans (hcell' k hlt)
    have H1:=hid h1;have H2:=hid h2;have hx0:(0:Int)≤(k:Int):=by omega
    have hx1:(k:Int)<(n:Int):=by omega
    clear hcell hcell' h1 h2;by_cases hxy:nth xs k=nth ys k
    ·have hb1:(((nth xs k:Nat):Int) != ((nth ys k:Nat):Int))=false:=by simp [hxy]
     have HXY:=hid hxy;clear hxy;generalize hgx:nth xs k=x at *;generalize hgy:nth ys k=y at *;have GX:=hid hgx;have GY:=hid hgy;clear hgx hgy;go_wp2_with fail
     refine rgL 9 ([(vE (.slice (some ⟨b,off,none⟩) n c)),(vE (.int .i64 k)),(vE (.pointer (some ⟨b,off+k,none⟩))),(vE (.int .u64 x)),(vE (.slice (some ⟨b',off',none⟩) n c')),(vE (.int .i64 k)),(vE (.pointer (some ⟨b',off'+k,none⟩))),(vE (.int .u64 y)),(vE (.bool false))])
      ⟨
       (gq 0),(gq 5),(gvv 0 16 1 17),(fun aF wF F=>by have s18:=F.v 2 18;exact sw (by have h:=H1.out _ F.kept;go_simp) rfl),(gq 1),(gq 5),(gvv 4 20 5 21),(fun aF wF F=>by have s22:=F.v 6 22;exact sw (by have h:=H2.out _ F.kept;go_simp) rfl),(gvv 3 19 7 23),
       trivial⟩ ?_
     intro u w1 k1 hu;simp only [Av,An,if_true,Act.put,zlA,zlB,zlC,zlD,zlE,zlF,zlG,hv hu 0,hv hu 1,hv hu 2,hv hu 3,hv hu 4,hv hu 5,hv hu 6,hv hu 7,hv hu 8];clear hu;go_wp2_with fail;go_roundw
     case rel =>
      refine ⟨k+1,by omega,by go_num,fun i hi=>?_,K.out.trans k1⟩;by_cases hik:i=k
      ·rw [hik,GX.out,GY.out];exact HXY.out
      ·exact HQ.out i (by omega)
     case measure=>simp [intOf];omega
    ·have hb1:(((nth xs k:Nat):Int) != ((nth ys k:Nat):Int))=true:=by simp;omega
     have hres:(xs==ys)=false:=by
      rw [beq_eq_false_iff_ne];intro h;exact hxy (by rw [h])
     rw [hres];clear hres;have HXY:=hid hxy;clear hxy;generalize hgx:nth xs k=x at *;generalize hgy:nth ys k=y at *;have GX:=hid hgx;have GY:=hid hgy;clear hgx hgy;go_wp2_with fail
     refine rgL 9 ([(vE (.slice (some ⟨b,off,none⟩) n c)),(vE (.int .i64 k)),(vE (.pointer (some ⟨b,off+k,none⟩))),(vE (.int .u64 x)),(vE (.slice (some ⟨b',off',none⟩) n c')),(vE (.int .i64 k)),(vE (.pointer (some ⟨b',off'+k,none⟩))),(vE (.int .u64 y)),(vE (.bool true))])
      ⟨
       (gq 0),(gq 5),(gvv 0 16 1 17),(fun aF wF F=>by have s18:=F.v 2 18;exact sw (by have h:=H1.out _ F.kept;go_simp) rfl),(gq 1),(gq 5),(gvv 4 20 5 21),(fun aF wF F=>by have s22:=F.v 6 22;exact sw (by have h:=H2.out _ F.kept;go_simp) rfl),(gvv 3 19 7 23),
       trivial⟩ ?_
     intro u w1 k1 hu;simp only [Av,An,if_true,Act.put,zlA,zlB,zlC,zlD,zlE,zlF,zlG,hv hu 0,hv hu 1,hv hu 2,hv hu 3,hv hu 4,hv hu 5,hv hu 6,hv hu 7,hv hu 8];clear hu;go_wp2_with fail;go_ret;exact ⟨rfl,K.out.trans k1⟩
   ·obtain rfl:k=n:=by omega
    have hres:(xs==ys)=true:=by
     rw [beq_iff_eq];exact Afb HE.out (fun i hi=>HQ.out i (by have:=HN.out;omega))
    go_wp2_with fail;go_ret;exact ⟨by rw [hres];rfl,K.out⟩
 ·have hres:(xs==ys)=false:=by
   rw [beq_eq_false_iff_ne];intro h;exact hne (by rw [h])
  rw [hres];have hlb:((xs.length:Int)==(ys.length:Int))=false:=by rw [beq_eq_false_iff_ne];omega
  clear hA hA' hs hs' hne hres;generalize xs.length=n at *;generalize ys.length=n' at *;go_enter Tryz.func72,Tryz.ntmps72;go_wp2_with fail;go_ret;exact ⟨rfl,Below.refl _ _⟩
def Kr (a b:Raw):Bool:=(a.neg==b.neg)&&(a.e==b.e)&&(a.m==b.m)
theorem Ww {w:World}{v u:Value}{a b:Raw}(ha:DyR w v a)(hb:DyR w u b)(hl:a.m.length≤17592186044416) :
 Calls Tryz.prog 35 #[v,u] w (RetK (.bool (Kr a b)) w):=by
 obtain ⟨A,l,c,rfl,-,la,-,-⟩:=ha.shape;obtain ⟨A2,l2,c2,rfl,-,lb,-,-⟩:=hb.shape;have he:=fun w1 (k:Kept w w1)=>Ai8 (la.kept k) (lb.kept k) hl
 unfold Kr;have HE:=hid he;clear he la lb ha hb hl;generalize (a.m==b.m)=r3 at *;generalize a.neg=n1 at *;generalize a.e=e1 at *;generalize b.neg=n2 at *;generalize b.e=e2 at *;obtain ⟨W,hW,kW,B0,B1⟩:=Wo w (.bool n1) (.slice A l c) (.int .i64 e1) (.bool n2) (.slice A2 l2 c2) (.int .i64 e2);have HW:=hid hW;have K:=hid kW;clear hW kW B0 B1;have hr1:(n1==n2)=true∨(n1==n2)=false:=Cq _;have hr2:(e1==e2)=true∨(e1==e2)=false:=Cq _;rcases hr1 with hr1 | hr1
 ·rw [hr1,Bool.true_and];rcases hr2 with hr2 | hr2
  ·rw [hr2,Bool.true_and];go_enter Tryz.func35,Tryz.ntmps35;go_wp2_with fail;rw [←HW.out];refine (HE.out _ K.out).mono ?_;rintro e w1 ⟨rfl,q⟩;simp only [];go_wp2_with fail;go_ret;exact ⟨rfl,K.out.trans q⟩
  ·rw [hr2,Bool.false_and];go_enter Tryz.func35,Tryz.ntmps35;go_wp2_with fail;go_ret;exact ⟨rfl,by have:=K.out;rwa [HW.out] at this⟩
 ·rw [hr1,Bool.false_and,Bool.false_and];clear hr2;go_enter Tryz.func35,Tryz.ntmps35;go_wp2_with fail;go_ret;exact ⟨rfl,by have:=K.out;rwa [HW.out] at this⟩
theorem Ajf {w:World}{v u:Value}{a b:RawI}(hv:IvR w v a)(hu:IvR w u b)(hl:a.lens 17592186044416) :
 Calls Tryz.prog 119 #[v,u] w (RetK (.bool (Kr a.lo b.lo&&Kr a.hi b.hi)) w):=by
 obtain ⟨A,l,c,A',l',c',rfl,h1,h2⟩:=Au hv;obtain ⟨B,j,e,B',j',e',rfl,g1,g2⟩:=Au hu;have q1:=fun w1 (k:Kept w w1)=>Ww (h1.kept k) (g1.kept k) hl.1
 have q2:=fun w1 (k:Kept w w1)=>Ww (h2.kept k) (g2.kept k) hl.2
 have Q1:=hid q1;have Q2:=hid q2;clear q1 q2 h1 h2 g1 g2 hv hu hl;generalize Kr a.lo b.lo=r1 at *;generalize Kr a.hi b.hi=r2 at *;generalize a.lo.neg=n1 at *;generalize a.lo.e=e1 at *;generalize a.hi.neg=n2 at *;generalize a.hi.e=e2 at *;generalize b.lo.neg=n3 at *;generalize b.lo.e=e3 at *;generalize b.hi.neg=n4 at *;generalize b.hi.e=e4 at *;obtain ⟨W,hW,kW,BI,BJ⟩:=Wn w (.bool n1) (.slice A l c) (.int .i64 e1) (.bool n2) (.slice A' l' c') (.int .i64 e2) (.bool n3) (.slice B j e) (.int .i64 e3) (.bool n4) (.slice B' j' e') (.int .i64 e4);have HW:=hid hW;have K:=hid kW;have HB:=hid BI
 have HD:=hid BJ;clear hW kW BI BJ;cases r1
 ·rw [Bool.false_and];go_enter Tryz.func119,Tryz.ntmps119;go_wp2_with fail;rw [←HW.out];refine (Q1.out _ K.out).mono ?_;rintro e w1 ⟨rfl,q⟩;replace K:=hid (K.out.trans q);replace HB:=hid (HB.out.kept q);replace HD:=hid (HD.out.kept q);clear q;obtain ⟨-,c0,c1,c2,c3,c4,c5⟩:=HB.out.facts;obtain ⟨-,d0,d1,d2,d3,d4,d5⟩:=HD.out.facts;simp only [];go_wp2_with fail;go_ret;exact ⟨rfl,K.out⟩
 ·rw [Bool.true_and];go_enter Tryz.func119,Tryz.ntmps119;go_wp2_with fail;rw [←HW.out];refine (Q1.out _ K.out).mono ?_;rintro e w1 ⟨rfl,q⟩;replace K:=hid (K.out.trans q);replace HB:=hid (HB.out.kept q);replace HD:=hid (HD.out.kept q);clear q;obtain ⟨-,c0,c1,c2,c3,c4,c5⟩:=HB.out.facts;obtain ⟨-,d0,d1,d2,d3,d4,d5⟩:=HD.out.facts;simp only [];go_wp2_with fail;refine (Q2.out _ K.out).mono ?_;clear c0 c1 c2 c3 c4 c5 d0 d1 d2 d3 d4 d5;rintro e w1 ⟨rfl,q⟩;replace K:=hid (K.out.trans q);replace HB:=hid (HB.out.kept q);replace HD:=hid (HD.out.kept q);clear q;obtain ⟨-,c0,c1,c2,c3,c4,c5⟩:=HB.out.facts;obtain ⟨-,d0,d1,d2,d3,d4,d5⟩:=HD.out.facts
  simp only [];go_wp2_with fail;go_ret;exact ⟨rfl,K.out⟩
theorem Agw (k:Int)(w:World):Calls Tryz.prog 126 #[.bool true,.int .i64 k] w fun e w'=>e=.returned (.tuple #[])∧w=w':=by
 go_enter Tryz.func126,Tryz.ntmps126;go_wp2
 go_end0
 exact ⟨rfl,rfl⟩
theorem Ad6 (k:Int)(w:World):Calls Tryz.prog 126 #[.bool false,.int .i64 k] w fun e w'=>e=.panicked (Bs 166 k)∧w=w':=by
 go_enter Tryz.func126,Tryz.ntmps126;go_wp2;exact ⟨rfl,rfl,rfl⟩
theorem Lt (b:Bool)(k:Int)(w:World):Calls Tryz.prog 126 #[.bool b,.int .i64 k] w fun e w'=>e=Y9 166 b k∧w=w':=by
 cases b
 ·exact Ad6 k w
 ·exact Agw k w
theorem Jo (k:Int)(w:World):Calls Tryz.prog 126 #[.bool true,.int .i64 k] w (RetK (.tuple #[]) w):=(Lt true k w).mono fun _ _ ⟨he,hw⟩=>⟨he,hw▸Below.refl _ _⟩
theorem Qu (k:Int)(w:World):(Instr.typeAssert (.iface 166 (.agg #[.int .i64 k])) 20 166 true).run Tryz.prog w=.ok (.tuple #[.agg #[.int .i64 k],.bool true]) w:=by
 kernel_rfl
theorem Rq (w:World):(Instr.typeAssert .nilIface 20 166 true).run Tryz.prog w=.ok (.tuple #[.agg #[.int .i64 0],.bool false]) w:=by
 kernel_rfl
theorem RetIE.good {o:Outc RawI}{w w':World}{e:Ending}(h:RetIE o w e w'):I8 (fun u w=>∃ d,u=.tuple #[d,.int .i64 o.k]∧IvR w d o.v) w e w':=by
 obtain ⟨k,v,he,hl⟩:=h;exact ⟨_,he,k,v,rfl,hl⟩
theorem RetI.good {a:RawI}{w w':World}{e:Ending}(h:RetI a w e w'):I8 (fun u w=>IvR w u a) w e w':=by
 obtain ⟨k,v,he,hl⟩:=h;exact ⟨v,he,k,hl⟩
section
variable {P:Program} {ops:Array Oper} {Q:Exit→Act→World→Prop} {i:Nat} {a:Act} {w:World} {V:Nat→Value→World→Prop} {o:Oper} {f:FuncId} {args:Array Value}
theorem sI {x:RawI}(hc:Calls P f args w (RetI x w))(hp:∀ v w',IvR w' v x→V i v w')(hw:Region.wanted o (yielded ops a.tmps)=true:=by simp [Region.wanted])(h:(execOp a.eval o).run P w=.ok (.enter f args) w:=by go_simp):Bf P ops Q V i o a w :=
 Ar hw h hc (fun _ _ h=>RetI.good h) hp
theorem sP {x:Outc RawI}(hc:Calls P f args w (RetIE x w))(hp:∀ v w',(∃ d,v=.tuple #[d,.int .i64 x.k]∧IvR w' d x.v)→V i v w')(hw:Region.wanted o (yielded ops a.tmps)=true:=by simp [Region.wanted])(h:(execOp a.eval o).run P w=.ok (.enter f args) w:=by go_simp):Bf P ops Q V i o a w :=
 Ar hw h hc (fun _ _ h=>RetIE.good h) hp
end
end Go.Proofs.YtabjjdicffcolaaGreatDoor
