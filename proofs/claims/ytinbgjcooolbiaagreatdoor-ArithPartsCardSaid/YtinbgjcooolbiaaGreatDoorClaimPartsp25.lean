/- Words and contracts, part 25. -/
import Derived.Test.YtinbgjcooolbiaaGreatDoorClaimPartsp24
set_option maxRecDepth 100000
set_option maxHeartbeats 0
namespace Go.Proofs.YtinbgjcooolbiaaGreatDoor
open Go.Lib (hid)
open Go.RowKit
def Fs (d:Dy) (p:Nat) (up:Bool):Outc Dy:=if d.neg then bad 4 else Df d p up
theorem Yq (d:Dy)(p:Nat)(up:Bool):(Fs d p up).Ok:=by
 unfold Fs;split
 ·exact Rw _
 ·exact Mn _ _ _
theorem U8 (d:Dy)(p:Nat)(up:Bool):(Fs d p up).raw.k≠0→(Fs d p up).raw.v=rz:=by
 intro h
 show ((Fs d p up).v).raw=rz
 rw [(Yq d p up).2 h,Cj]
theorem Abo (n:Nat):bl (isq n)≤bl n:=by
 refine Iy ?_;have h:=(Dz n).1;by_cases h0:isq n=0
 ·omega
 ·have:=Nat.mul_le_mul_left (isq n) (Nat.pos_of_ne_zero h0);omega
theorem Aao {w:World}{x:Dy}{p:Nat}{up:Bool}{bp bx bu:Nat}(hx:x.Ok)(hT:Tab w)(p1:1≤p)(p2:p≤2000)
 (cp:w.cell? ⟨bp,0,none⟩=some (.int .i64 p)) (cx:BlkD w bx x) (cu:w.cell? ⟨bu,0,none⟩=some (.bool up)) :
 Calls Tryz.prog 85 #[.pointer (some ⟨bp,0,none⟩),.pointer (some ⟨bx,0,none⟩),.pointer (some ⟨bu,0,none⟩)] w (Goes 98 (Fs x p up).raw w):=by
 obtain ⟨A,l,c,hbx,hRx⟩:=cx;obtain ⟨W,hW,kW,BR,sW⟩:=Abp w;have hone:=Qf sW (hRx.kept kW);have hm:=fun w1 (k:Kept w w1) v (hv:DyS w1 v [x])=>Sv hv (by intro z hz;simp at hz;subst hz;exact hx) (by simp) (by omega:(1:Int)≤(p:Int)) (by omega)
 have HM:=hid hm;have HO:=hid hone;have HW:=hid hW;have HK:=hid kW;have HR:=hid BR;have HBX:=hid hbx;have CP:=hid cp;have CU:=hid cu;have lp:=Bn cp;have lu:=Bn cu;simp only at lp lu;obtain ⟨lbx,x0,x1,x2,-⟩:=hbx.facts;clear hm hone hW kW BR sW hbx;cases hn:x.neg
 ·have hz:Fs x p up=Df x p up:=by unfold Fs;rw [hn];rfl
  rw [hz];rw [hn] at x0 HBX HO;have bx1:=Cv x.m 64 hx.len;have xl:=hx.lo;have xh:=hx.hi;have limx:Lim w (.slice A l c) (limbs x.m):=by
   obtain ⟨A',l',c',he,-,hlim,-,-⟩:=hRx.shape;injection he with he;injection he with he
   simp only [List.cons.injEq,and_true] at he;rw [he.2.1];exact hlim
  obtain ⟨k0,hk0⟩:∃ k,k=Fi x p:=⟨_,rfl⟩;obtain ⟨kk,hkk⟩:∃ k,k=Ds x p:=⟨_,rfl⟩;have hk0le:k0≤4002:=by rw [hk0];unfold Fi;omega
  have hkk':kk=if (x.e-k0)%2=0 then k0 else k0+1:=by rw [hkk,hk0];rfl
  have hev:(x.e-kk)%2=0:=by rw [hkk];exact H4 x p
  have hkle:kk≤4003:=by rw [hkk'];split<;>omega
  have hs1:=fun w1 (k:Kept w w1)=>Ip (limx.kept k) (by have:=hx.len;omega)
  have hle:=fun w1 (k:Kept w w1)=>Ig (limx.kept k) kk (by have:=hx.len;omega) (by omega)
  have blX:bl (x.m*2^kk)≤8100:=by
   by_cases hz:x.m=0
   ·rw [hz,Nat.zero_mul,Ey];omega
   ·rw [Ci _ _ hz];omega
  have lenX:=Cb (x.m*2^kk) 127 (by omega);have lenI:=Cb (isq (x.m*2^kk)) 127 (by have:=Abo (x.m*2^kk);omega);have hsq:=fun w1 u (hu:Lim w1 u (limbs (x.m*2^kk)))=>Yw hu (by omega)
  have hti:=fun w1 u (hu:Lim w1 u (limbs (isq (x.m*2^kk))))=>Uf hu hu (by omega) (by omega)
  have lenS:(limbs (isq (x.m*2^kk)*isq (x.m*2^kk))).length≤127:=Nat.le_trans (C7 (Dz (x.m*2^kk)).1) lenX;have hor:=fun w1 u v (hu:Lim w1 u (limbs (isq (x.m*2^kk)*isq (x.m*2^kk)))) (hv:Lim w1 v (limbs (x.m*2^kk)))=>Hx hu hv (by omega) (by omega)
  obtain ⟨hh,hhh⟩:∃ h:Int,(x.e-kk)/2=h:=⟨_,rfl⟩;obtain ⟨rb,hrb⟩:∃ rb,decide (¬isq (x.m*2^kk)*isq (x.m*2^kk)=x.m*2^kk)=rb:=⟨_,rfl⟩;have hcm:(Bp (isq (x.m*2^kk)*isq (x.m*2^kk)) (x.m*2^kk) != 0)=rb:=by
   rw [←hrb];unfold Bp;have:=(Dz (x.m*2^kk)).1;by_cases h1:isq (x.m*2^kk)*isq (x.m*2^kk)<x.m*2^kk
   ·rw [if_pos h1];simp;omega
   ·rw [if_neg h1,if_pos (by omega)];simp;omega
  have hcu:=fun w1 u (k:Kept w w1) (hu:Lim w1 u (limbs (isq (x.m*2^kk))))=>Wh (v:=u) (m:=isq (x.m*2^kk)) (p:=p) (e:=hh) false rb up (w:=w1)
   ⟨hu,by omega,by omega,by omega,p1,p2,hT.kept k⟩
  have hout:Df x p up=Id false (isq (x.m*2^kk)) hh rb p up:=by unfold Df;rw [←hkk,hhh,hrb]
  obtain ⟨o,ho⟩:∃ o,o=Df x p up:=⟨_,rfl⟩;rw [←ho];rw [←ho.trans hout] at hcu;obtain ⟨s1,hs1'⟩:∃ s:Int,2*(p:Int)=s:=⟨_,rfl⟩;obtain ⟨s2,hs2'⟩:∃ s:Int,s1+2=s:=⟨_,rfl⟩;obtain ⟨s3,hs3'⟩:∃ s:Int,s2-(bl x.m:Int)=s:=⟨_,rfl⟩;have hw1:IntKind.i64.wrap (2*(p:Int))=s1:=by simp [IntKind.wrap_i64];omega
  have hw2:IntKind.i64.wrap (s1+2)=s2:=by simp [IntKind.wrap_i64];omega
  have hw3:IntKind.i64.wrap (s2-(bl x.m:Int))=s3:=by simp [IntKind.wrap_i64];omega
  have hmx:max 0 s3=(k0:Int):=by rw [hk0];unfold Fi;omega
  obtain ⟨d0,hd0⟩:∃ d:Int,x.e-(k0:Int)=d:=⟨_,rfl⟩;obtain ⟨d1,hd1⟩:∃ d:Int,x.e-(kk:Int)=d:=⟨_,rfl⟩;have hw4:IntKind.i64.wrap (x.e-(k0:Int))=d0:=by rw [hd0];simp [IntKind.wrap_i64];omega
  have hw5:IntKind.i64.wrap (x.e-(kk:Int))=d1:=by rw [hd1];simp [IntKind.wrap_i64];omega
  have hw6:IntKind.i64.wrap (d1.tdiv 2)=hh:=by
   have:d1.tdiv 2=hh:=by
    rw [←hhh,hd1];rw [hd1] at hev;rw [Int.tdiv_eq_ediv];split<;>omega
   rw [this];simp [IntKind.wrap_i64];omega
  have H1:=hid hs1;have HL:=hid hle;have HSQ:=hid hsq;have HTI:=hid hti;have HOR:=hid hor;have HC:=hid hcu;have HW5:=hid hw5;have HW6:=hid hw6;have HCM:=hid hcm;have hq1:IntKind.i64.wrap ((k0:Int)+1)=((k0+1:Nat):Int):=by simp [IntKind.wrap_i64];omega
  have hpar:d0.tmod 2=0↔(x.e-k0)%2=0:=by rw [hd0,←Int.dvd_iff_tmod_eq_zero,Int.dvd_iff_emod_eq_zero]
  have HP:=hid hpar;have HKK:=hid hkk';clear hs1 hle hsq hti hor hcu hw5 hw6 hcm hpar hkk' hRx hx hT p1 p2 hz hn bx1 xl xh limx hk0 hkk hk0le hev hkle blX lenX lenI lenS hhh hrb hout ho hs1' hs2' hs3' hd0 hd1;generalize bl x.m=b1 at *;by_cases hpp:d0.tmod 2=0
  ·have hk:=HKK.out;rw [if_pos (HP.out.1 hpp)] at hk;subst hk;have hpb:(d0.tmod 2 != 0)=false:=by simp [hpp]
   have hpc:(d0.tmod 2==0)=true:=by simp [hpp]
   clear hpp HKK HP hq1;generalize x.e=e1 at *;go_enter Tryz.func85,Tryz.ntmps85
   go_wp2_with (first
    | (go_at_call 73;rw [←HW.out];refine (HM.out _ (HK.out.trans (Ad _ _)) _ HO.out).mono ?_;rintro e w1 ⟨rfl,q⟩;have K:=hid (HK.out.trans ((Ad _ _).trans q));have hr:=HR.out.kept ((Ad _ _).trans q);have HR2:=hid hr;clear q hr x0 x1 x2 cp cu;have cp:=Ak K.out CP.out;have cu:=Ak K.out CU.out;obtain ⟨-,x0,x1,x2,-⟩:=(HBX.out.kept K.out).facts)
    | (go_at_call 74;refine (Dr _ _ _).mono ?_;rintro e w3 ⟨he,rfl⟩;obtain rfl:e=.returned (.tuple #[]):=he))
   clear x0 x1 x2 cp cu
   refine rgL 9 ([(vE (.int .i64 p)),(vE (.int .i64 s1)),(vE (.int .i64 s2)),(vP bx 1),(vE (.slice A l c)),(vE (.int .i64 b1)),(vE (.int .i64 s3)),(vE (.int .i64 kk)),(vE (.int .i64 kk))])
    ⟨
     (fun aF wF F=>by have s0:=F.q 0 (.pointer (some ⟨bp,0,none⟩));exact sw (by have cq:=Ak F.kept (Ak K.out CP.out);go_simp) rfl),(gv 0 15),(gv 1 16),(gq 1),(gvl 3 18 fun _ k=>Af (HBX.out.kept K.out) k 1 _ rfl),(fun aF wF F=>by have s19:=F.v 4 19;exact sQ (H1.out _ (K.out.trans F.kept)) fun _ _ h=>h),(gvv 2 17 5 20),(gv 6 21),(gv 7 22),
     trivial⟩ ?_
   intro u w1 k1 hu;simp only [Av,Am,if_true,Act.put,zlA,zlB,zlC,zlD,zlE,zlF,zlG,hv hu 0,hv hu 1,hv hu 2,hv hu 3,hv hu 4,hv hu 5,hv hu 6,hv hu 7,hv hu 8];clear hu;have K1:=hid (K.out.trans k1);have HR3:=hid (HR2.out.kept k1);clear k1 u hw1 hw2 hw3 hmx;obtain ⟨-,x0,x1,x2,-⟩:=(HBX.out.kept K1.out).facts;go_wp2_with fail;clear hpb hpc;refine (HL.out _ K1.out).mono ?_;rintro e w2 ⟨M,rfl,hM,q⟩;have K2:=hid (K1.out.trans q);have HR4:=hid (HR3.out.kept q);have LM:=hid hM;clear hM q x0 x1 x2;simp only [];go_wp2_with fail;refine (HSQ.out _ _ LM.out).mono ?_;rintro e w3 ⟨X,rfl,hX,q⟩;have K3:=hid (K2.out.trans q)
   have HR5:=hid (HR4.out.kept q);have LX:=hid hX;replace LM:=hid (LM.out.kept q);clear hX q hw4;have hw5:=HW5.out;have hw6:=HW6.out;have hcm:=HCM.out;simp only [];go_wp2_with fail
   refine Pk 15 ([(vE X),(vP bx 2),(vE (.int .i64 e1)),(vE (.int .i64 ((kk:Nat):Int))),(vE (.int .i64 d1)),(vE (.int .i64 hh)),(vE X),(vE X),(fun v wv=>Lim wv v (limbs (isq (x.m*2^kk)*isq (x.m*2^kk)))),(vE M),(vE (.int .i64 (Bp (isq (x.m*2^kk)*isq (x.m*2^kk)) (x.m*2^kk)))),(vE (.bool rb)),(vE (.int .i64 p)),(vE (.bool up)),(fun v wv=>o.raw.k=0∧DyR wv v o.raw.v)])
    ⟨
     (gq 6),(gq 1),(gvl 1 38 fun _ k=>Af (HBX.out.kept K3.out) k 2 _ rfl),(gq 4),(fun aF wF F=>by have s39:=F.v 2 39;have s40:=F.v 3 40;exact sw (by have hx:=HW5.out;push_cast at hx;go_simp) rfl),(gv 4 41),(gq 6),(gq 6),(fun aF wF F=>by have s43:=F.v 6 43;have s44:=F.v 7 44;exact sL (HTI.out _ _ (LX.out.kept F.kept)) fun _ _ h=>h),(gq 5),(fun aF wF F=>by have s45:=F.p 8 45;have s46:=F.v 9 46;exact sQ (HOR.out _ _ _ s45 (LM.out.kept F.kept)) fun _ _ h=>h),(gv 10 47),(fun aF wF F=>by have s0:=F.q 0 (.pointer (some ⟨bp,0,none⟩));exact sw (by have cq:=Ak F.kept (Ak K3.out CP.out);go_simp) rfl),(fun aF wF F=>by have s2:=F.q 2 (.pointer (some ⟨bu,0,none⟩));exact sw (by have cq:=Ak F.kept (Ak K3.out CU.out);go_simp) rfl),(fun aF wF F=>by have s37:=F.v 0 37;have s42:=F.v 5 42;have s48:=F.v 11 48;have s49:=F.v 12 49;have s50:=F.v 13 50;exact sG (HC.out _ _ (K3.out.trans F.kept) (LX.out.kept F.kept)) (fun _ _ _ h0 h=>⟨h0,h⟩) (fun w2 k2 h0=>⟨F.defers,⟨K3.out.trans (F.kept.trans k2),.inr ⟨h0,rfl⟩⟩⟩)),
     trivial⟩ ?_
   intro u w1 k1 hu;have p45:=hp hu 8;have p51:=hp hu 14;simp only [Av,Am,if_true,Act.put,zlA,zlB,zlC,zlD,zlE,zlF,zlG,hv hu 0,hv hu 1,hv hu 2,hv hu 3,hv hu 4,hv hu 5,hv hu 6,hv hu 7,hv hu 9,hv hu 10,hv hu 11,hv hu 12,hv hu 13];clear hu;generalize u 8=v45,u 14=v51 at *;obtain ⟨h0,hd⟩:=p51;obtain ⟨A',l',c',rfl,hd,g1,g2⟩:=Cw hd;have hb:=HR5.out.kept k1;obtain ⟨_,c0,c1,c2,f0,f1,f2⟩:=hb.facts;have HD:=hid hd;have H0:=hid h0;have HB:=hid hb;have K4:=hid (K3.out.trans k1);clear hd h0 hb k1 p45;go_simp;go_wp2_with fail;exact B9 (HB.out.laid _ _ _) rfl rfl rfl ⟨Al K4.out (Nat.le_refl _),.inl ⟨H0.out,_,rfl,(HD.out.dyW HB.out (Ah _) (Ag _ _ _) (Aj _)).dyR g1 g2⟩⟩
  ·have hk:=HKK.out;rw [if_neg (fun h=>hpp (HP.out.2 h))] at hk;subst hk;have hpb:(d0.tmod 2 != 0)=true:=by simp [hpp]
   have hpc:(d0.tmod 2==0)=false:=by simp [hpp]
   clear hpp HKK HP;generalize x.e=e1 at *;go_enter Tryz.func85,Tryz.ntmps85
   go_wp2_with (first
    | (go_at_call 73;rw [←HW.out];refine (HM.out _ (HK.out.trans (Ad _ _)) _ HO.out).mono ?_;rintro e w1 ⟨rfl,q⟩;have K:=hid (HK.out.trans ((Ad _ _).trans q));have hr:=HR.out.kept ((Ad _ _).trans q);have HR2:=hid hr;clear q hr x0 x1 x2 cp cu;have cp:=Ak K.out CP.out;have cu:=Ak K.out CU.out;obtain ⟨-,x0,x1,x2,-⟩:=(HBX.out.kept K.out).facts)
    | (go_at_call 74;refine (Dr _ _ _).mono ?_;rintro e w3 ⟨he,rfl⟩;obtain rfl:e=.returned (.tuple #[]):=he))
   clear x0 x1 x2 cp cu
   refine rgL 9 ([(vE (.int .i64 p)),(vE (.int .i64 s1)),(vE (.int .i64 s2)),(vP bx 1),(vE (.slice A l c)),(vE (.int .i64 b1)),(vE (.int .i64 s3)),(vE (.int .i64 k0)),(vE (.int .i64 k0))])
    ⟨
     (fun aF wF F=>by have s0:=F.q 0 (.pointer (some ⟨bp,0,none⟩));exact sw (by have cq:=Ak F.kept (Ak K.out CP.out);go_simp) rfl),(gv 0 15),(gv 1 16),(gq 1),(gvl 3 18 fun _ k=>Af (HBX.out.kept K.out) k 1 _ rfl),(fun aF wF F=>by have s19:=F.v 4 19;exact sQ (H1.out _ (K.out.trans F.kept)) fun _ _ h=>h),(gvv 2 17 5 20),(gv 6 21),(gv 7 22),
     trivial⟩ ?_
   intro u w1 k1 hu;simp only [Av,Am,if_true,Act.put,zlA,zlB,zlC,zlD,zlE,zlF,zlG,hv hu 0,hv hu 1,hv hu 2,hv hu 3,hv hu 4,hv hu 5,hv hu 6,hv hu 7,hv hu 8];clear hu;have K1:=hid (K.out.trans k1);have HR3:=hid (HR2.out.kept k1);clear k1 u hw1 hw2 hw3 hmx;obtain ⟨-,x0,x1,x2,-⟩:=(HBX.out.kept K1.out).facts;go_wp2_with fail;clear hpb hpc hq1;refine (HL.out _ K1.out).mono ?_;rintro e w2 ⟨M,rfl,hM,q⟩;have K2:=hid (K1.out.trans q);have HR4:=hid (HR3.out.kept q);have LM:=hid hM;clear hM q x0 x1 x2;simp only [];go_wp2_with fail;refine (HSQ.out _ _ LM.out).mono ?_;rintro e w3 ⟨X,rfl,hX,q⟩;have K3:=hid (K2.out.trans q)
   have HR5:=hid (HR4.out.kept q);have LX:=hid hX;replace LM:=hid (LM.out.kept q);clear hX q hw4;have hw5:=HW5.out;have hw6:=HW6.out;have hcm:=HCM.out;simp only [];go_wp2_with fail
   refine Pk 15 ([(vE X),(vP bx 2),(vE (.int .i64 e1)),(vE (.int .i64 (((k0+1):Nat):Int))),(vE (.int .i64 d1)),(vE (.int .i64 hh)),(vE X),(vE X),(fun v wv=>Lim wv v (limbs (isq (x.m*2^(k0+1))*isq (x.m*2^(k0+1))))),(vE M),(vE (.int .i64 (Bp (isq (x.m*2^(k0+1))*isq (x.m*2^(k0+1))) (x.m*2^(k0+1))))),(vE (.bool rb)),(vE (.int .i64 p)),(vE (.bool up)),(fun v wv=>o.raw.k=0∧DyR wv v o.raw.v)])
    ⟨
     (gq 6),(gq 1),(gvl 1 38 fun _ k=>Af (HBX.out.kept K3.out) k 2 _ rfl),(gq 4),(fun aF wF F=>by have s39:=F.v 2 39;have s40:=F.v 3 40;exact sw (by have hx:=HW5.out;push_cast at hx;go_simp) rfl),(gv 4 41),(gq 6),(gq 6),(fun aF wF F=>by have s43:=F.v 6 43;have s44:=F.v 7 44;exact sL (HTI.out _ _ (LX.out.kept F.kept)) fun _ _ h=>h),(gq 5),(fun aF wF F=>by have s45:=F.p 8 45;have s46:=F.v 9 46;exact sQ (HOR.out _ _ _ s45 (LM.out.kept F.kept)) fun _ _ h=>h),(gv 10 47),(fun aF wF F=>by have s0:=F.q 0 (.pointer (some ⟨bp,0,none⟩));exact sw (by have cq:=Ak F.kept (Ak K3.out CP.out);go_simp) rfl),(fun aF wF F=>by have s2:=F.q 2 (.pointer (some ⟨bu,0,none⟩));exact sw (by have cq:=Ak F.kept (Ak K3.out CU.out);go_simp) rfl),(fun aF wF F=>by have s37:=F.v 0 37;have s42:=F.v 5 42;have s48:=F.v 11 48;have s49:=F.v 12 49;have s50:=F.v 13 50;exact sG (HC.out _ _ (K3.out.trans F.kept) (LX.out.kept F.kept)) (fun _ _ _ h0 h=>⟨h0,h⟩) (fun w2 k2 h0=>⟨F.defers,⟨K3.out.trans (F.kept.trans k2),.inr ⟨h0,rfl⟩⟩⟩)),
     trivial⟩ ?_
   intro u w1 k1 hu;have p45:=hp hu 8;have p51:=hp hu 14;simp only [Av,Am,if_true,Act.put,zlA,zlB,zlC,zlD,zlE,zlF,zlG,hv hu 0,hv hu 1,hv hu 2,hv hu 3,hv hu 4,hv hu 5,hv hu 6,hv hu 7,hv hu 9,hv hu 10,hv hu 11,hv hu 12,hv hu 13];clear hu;generalize u 8=v45,u 14=v51 at *;obtain ⟨h0,hd⟩:=p51;obtain ⟨A',l',c',rfl,hd,g1,g2⟩:=Cw hd;have hb:=HR5.out.kept k1;obtain ⟨_,c0,c1,c2,f0,f1,f2⟩:=hb.facts;have HD:=hid hd;have H0:=hid h0;have HB:=hid hb;have K4:=hid (K3.out.trans k1);clear hd h0 hb k1 p45;go_simp;go_wp2_with fail;exact B9 (HB.out.laid _ _ _) rfl rfl rfl ⟨Al K4.out (Nat.le_refl _),.inl ⟨H0.out,_,rfl,(HD.out.dyW HB.out (Ah _) (Ag _ _ _) (Aj _)).dyR g1 g2⟩⟩
 ·have hz:Fs x p up=bad 4:=by unfold Fs;rw [hn];rfl
  rw [hz];rw [hn] at x0 HBX HO;clear hRx hx hT p1 p2 hz hn;generalize x.e=e1 at *;go_enter Tryz.func85,Tryz.ntmps85
  go_wp2_with (first
   | (go_at_call 73;rw [←HW.out];refine (HM.out _ (HK.out.trans (Ad _ _)) _ HO.out).mono ?_;rintro e w1 ⟨rfl,q⟩;have K:=hid (HK.out.trans ((Ad _ _).trans q));have hr:=HR.out.kept ((Ad _ _).trans q);have HR2:=hid hr;clear q hr x0 x1 x2 cp cu;have cp:=Ak K.out CP.out;have cu:=Ak K.out CU.out;obtain ⟨-,x0,x1,x2,-⟩:=(HBX.out.kept K.out).facts)
   | (go_at_call 74;refine (Dr _ _ _).mono ?_;rintro e w3 ⟨he,rfl⟩;obtain rfl:e=.panicked (Ck 98 _):=he))
  exact ⟨rfl,K.out,.inr ⟨by decide,rfl⟩⟩
theorem root_c {w:World}{v:Value}{d:Dy}{p:Nat}{up:Bool}(hv:DyR w v d.raw)(hd:d.Ok)(hT:Tab w)(p1:1≤p)(p2:p≤2000) :
 Calls Tryz.prog 43 #[v,.int .i64 p,.bool up] w (RetE (Fs d p up).raw w):=by
 have hmf:=Ha;obtain ⟨A,l,c,rfl,hv⟩:=Cr hv;obtain ⟨W,hW,kW,B0,cp,cu,BR⟩:=Wb w (.bool d.neg) (.slice A l c) (.int .i64 d.e) (.int .i64 p) (.bool up)
 have hf:=Oy (w:=W) (K:=85) (cap:=#[.pointer (some ⟨w.heap.size+1,0,none⟩),.pointer (some ⟨w.heap.size,0,none⟩),.pointer (some ⟨w.heap.size+1+1,0,none⟩)]) (o:=(Fs d p up).raw)
  (fun w1 k=>Aao hd (hT.kept (kW.trans k)) p1 p2 (Ak k cp) ⟨A,l,c,B0.kept k,hv.kept (kW.trans k)⟩ (Ak k cu)) (U8 d p up) (fun _=>rfl)
 have HF:=hid hf;have HW:=hid hW;have HK:=hid kW;have HR:=hid BR;clear hf hW kW B0 cp cu BR hv hd hT p1 p2;generalize Fs d p up=o at *;generalize d.neg=nd at *;generalize d.e=ed at *;go_enter Tryz.func43,Tryz.ntmps43
 go_wp2_with (go_at_call 71;rw [←HW.out];refine HF.out.mono ?_;rintro e w1 ⟨q,u,rfl,hd⟩;obtain ⟨A',l',c',rfl,hd,g3,g4⟩:=Cw hd;have HD:=hid hd;have hb2:=HR.out.kept q;obtain ⟨_,c0,c1,c2,f0,f1,f2⟩:=hb2.facts;have HB2:=hid hb2;clear hd hb2)
 exact Bw (HB2.out.laid _ _ _) rfl rfl rfl ⟨Al (HK.out.trans q) (by omega),_,rfl,(HD.out.dyW HB2.out (Ah _) (Ag _ _ _) (Aj _)).dyR g3 g4⟩
def IvR (w:World) (v:Value) (a:RawI):Prop:=∃ x y z x' y' z',v=.agg #[x,y,z,x',y',z']∧DyR w (.agg #[x,y,z]) a.lo∧DyR w (.agg #[x',y',z']) a.hi
theorem IvR.kept {w w':World}{v:Value}{a:RawI}(h:IvR w v a)(k:Kept w w'):IvR w' v a:=by
 obtain ⟨x,y,z,x',y',z',rfl,h1,h2⟩:=h;exact ⟨x,y,z,x',y',z',rfl,h1.kept k,h2.kept k⟩
theorem Bj {w:World}{v:Value}{r:Raw}(h:DyR w v r):∃ A l c,v=.agg #[.bool r.neg,.slice A l c,.int .i64 r.e]∧DyR w (.agg #[.bool r.neg,.slice A l c,.int .i64 r.e]) r:=by
 obtain ⟨A,l,c,rfl,-,-,-,-⟩:=h.shape;exact ⟨A,l,c,rfl,h⟩
theorem Be {w:World}{v:Value}{a:RawI}(h:IvR w v a):∃ A l c A' l' c',v=.agg #[.bool a.lo.neg,.slice A l c,.int .i64 a.lo.e,.bool a.hi.neg,.slice A' l' c',.int .i64 a.hi.e] ∧
 DyR w (.agg #[.bool a.lo.neg,.slice A l c,.int .i64 a.lo.e]) a.lo∧DyR w (.agg #[.bool a.hi.neg,.slice A' l' c',.int .i64 a.hi.e]) a.hi:=by
 obtain ⟨x,y,z,x',y',z',rfl,h1,h2⟩:=h;obtain ⟨A,l,c,e1,h1⟩:=Bj h1;obtain ⟨A',l',c',e2,h2⟩:=Bj h2;injection e1 with e1;injection e1 with e1
 injection e2 with e2;injection e2 with e2
 simp only [List.cons.injEq,and_true] at e1 e2;obtain ⟨rfl,rfl,rfl⟩:=e1;obtain ⟨rfl,rfl,rfl⟩:=e2;exact ⟨A,l,c,A',l',c',rfl,h1,h2⟩
def BlkI (w:World) (b:Nat) (x y z x' y' z':Value):Prop:=w.heap[b]?=some (.cells #[x,y,z,x',y',z'] 26 (0,0))
theorem BlkI.facts {w:World}{b:Nat}{x y z x' y' z':Value}(h:BlkI w b x y z x' y' z'):b<w.heap.size∧w.cell? ⟨b,0,none⟩=some x∧w.cell? ⟨b,1,none⟩=some y∧w.cell? ⟨b,2,none⟩=some z ∧
 w.cell? ⟨b,3,none⟩=some x'∧w.cell? ⟨b,4,none⟩=some y'∧w.cell? ⟨b,5,none⟩=some z' :=
 ⟨(Array.getElem?_eq_some_iff.1 h).1,Ae h 0 _ rfl,Ae h 1 _ rfl,Ae h 2 _ rfl,Ae h 3 _ rfl,Ae h 4 _ rfl,Ae h 5 _ rfl⟩
theorem BlkI.kept {w w1:World}{b:Nat}{x y z x' y' z':Value}(h:BlkI w b x y z x' y' z')(k:Kept w w1):BlkI w1 b x y z x' y' z' :=
 (k.block b (Array.getElem?_eq_some_iff.1 h).1).trans h
theorem Ez (w:World)(x y z x' y' z':Value):BlkI (w.alloc (.cells #[x,y,z,x',y',z'] 26)) w.heap.size x y z x' y' z':=heap_alloc_new _ _
def RawI.lens (a:RawI) (k:Nat):Prop:=a.lo.m.length≤k∧a.hi.m.length≤k
theorem Aa5 (w:World)(x y z x' y' z':Value):∃ W,W=w.alloc (.cells #[x,y,z,x',y',z'] 26)∧Kept w W∧BlkI W w.heap.size x y z x' y' z' :=
 ⟨_,rfl,Ad _ _,Ez _ _ _ _ _ _ _⟩
theorem I8 {w:World}{v:Value}{r:Raw}(h:DyR w v r):Small r.m:=by
 obtain ⟨s,-,hs,-,-⟩:=h;exact hs.1
theorem W8 {w:World}{v:Value}{a:RawI}(hv:IvR w v a)(hl:a.lens 17592186044416) :
 Calls Tryz.prog 70 #[v] w (RetK (.bool (Ex a)) w):=by
 obtain ⟨A,l,c,A',l',c',rfl,h1,h2⟩:=Be hv;have m1:=fun w1 (k:Kept w w1)=>J7 (h1.kept k) hl.1
 have m2:=fun w1 (k:Kept w w1)=>J7 (h2.kept k) hl.2
 have hc:Eu a.lo=true→Eu a.hi=true→∀ w1,Kept w w1→Calls Tryz.prog 25 #[.agg #[.bool a.lo.neg,.slice A l c,.int .i64 a.lo.e],.agg #[.bool a.hi.neg,.slice A' l' c',.int .i64 a.hi.e]] w1 (RetK (.int .i64 (Bq a.lo.dy.q a.hi.dy.q)) w1):=by
  intro d1 d2 w1 k;obtain ⟨e1,o1⟩:=Fd (I8 h1) d1;obtain ⟨e2,o2⟩:=Fd (I8 h2) d2;have g1:=h1.kept k;have g2:=h2.kept k;exact Ki (x:=a.lo.dy) (y:=a.hi.dy) (by rw [e1];exact g1) (by rw [e2];exact g2) o1 o2
 unfold Ex;have M1:=hid m1;have M2:=hid m2;have HC:=hid hc;clear m1 m2 hc h1 h2 hv hl;generalize a.lo.neg=n1 at *;generalize a.lo.e=e1 at *;generalize a.hi.neg=n2 at *;generalize a.hi.e=e2 at *;generalize Bq a.lo.dy.q a.hi.dy.q=cc at *;generalize Eu a.lo=b1 at *;generalize Eu a.hi=b2 at *;obtain ⟨W,hW,kW,BI⟩:=Aa5 w (.bool n1) (.slice A l c) (.int .i64 e1) (.bool n2) (.slice A' l' c') (.int .i64 e2);have HW:=hid hW;have HK:=hid kW;have HB:=hid BI;clear hW kW BI;cases b1
 ·rw [Bool.false_and,Bool.false_and];go_enter Tryz.func70,Tryz.ntmps70
  go_wp2_with (go_at_call 66;rw [←HW.out];refine (M1.out _ HK.out).mono ?_;rintro e w1 ⟨rfl,q⟩)
  go_ret;exact ⟨rfl,HK.out.trans q⟩
 ·cases b2
  ·rw [Bool.and_false,Bool.false_and];go_enter Tryz.func70,Tryz.ntmps70;go_wp2_with fail;rw [←HW.out];refine (M1.out _ HK.out).mono ?_;rintro e w1 ⟨rfl,q⟩;have K:=hid (HK.out.trans q);obtain ⟨-,c0,c1,c2,c3,c4,c5⟩:=(HB.out.kept q).facts;have HB2:=hid (HB.out.kept q);clear q;simp only [];go_wp2_with fail;refine (M2.out _ K.out).mono ?_;rintro e w2 ⟨rfl,q⟩;replace K:=hid (K.out.trans q);clear c0 c1 c2 c3 c4 c5;obtain ⟨-,c0,c1,c2,c3,c4,c5⟩:=(HB2.out.kept q).facts;clear q;simp only [];go_wp2_with fail;go_ret;exact ⟨rfl,K.out⟩
  ·rw [Bool.and_true,Bool.true_and];have hc:=HC.out rfl rfl;clear HC;have HC:=hid hc;clear hc;obtain ⟨rb,hrb⟩:∃ rb,decide (cc≤0)=rb:=⟨_,rfl⟩;rw [hrb];go_enter Tryz.func70,Tryz.ntmps70;go_wp2_with fail;rw [←HW.out];refine (M1.out _ HK.out).mono ?_;rintro e w1 ⟨rfl,q⟩;have K:=hid (HK.out.trans q);obtain ⟨-,c0,c1,c2,c3,c4,c5⟩:=(HB.out.kept q).facts;have HB2:=hid (HB.out.kept q);clear q;simp only [];go_wp2_with fail;refine (M2.out _ K.out).mono ?_;rintro e w2 ⟨rfl,q⟩;replace K:=hid (K.out.trans q);clear c0 c1 c2 c3 c4 c5;obtain ⟨-,c0,c1,c2,c3,c4,c5⟩:=(HB2.out.kept q).facts;clear q;simp only [];go_wp2_with fail
   refine (HC.out _ K.out).mono ?_;rintro e w3 ⟨rfl,q⟩;replace K:=hid (K.out.trans q);clear q;simp only [];go_wp2_with fail;go_ret;exact ⟨rfl,K.out⟩
instance iI {r:RawI}:Nonempty (Gt fun v w=>IvR w v r):=⟨fun _ _ _ k h=>h.kept k⟩
instance iNI {S:Nat} {x y z x' y' z':Value}:Nonempty (Gt fun v w=>∃ b,v=.pointer (some ⟨b,0,none⟩)∧S≤b∧BlkI w b x y z x' y' z'):=⟨fun _ _ _ k q=>by obtain ⟨b,e,q1,q2⟩:=q;exact ⟨b,e,q1,q2.kept k⟩⟩
def IvC (w:World) (v:Value) (a:Iv):Prop:=IvR w v a.raw
theorem IvC.kept {w w':World}{v:Value}{a:Iv}(h:IvC w v a)(k:Kept w w'):IvC w' v a:=IvR.kept h k
theorem Uq {w:World}{v:Value}{a:Iv}(h:IvC w v a):∃ A l c A' l' c',v=.agg #[.bool a.lo.neg,.slice A l c,.int .i64 a.lo.e,.bool a.hi.neg,.slice A' l' c',.int .i64 a.hi.e] ∧
 DyR w (.agg #[.bool a.lo.neg,.slice A l c,.int .i64 a.lo.e]) a.lo.raw∧DyR w (.agg #[.bool a.hi.neg,.slice A' l' c',.int .i64 a.hi.e]) a.hi.raw:=Be h
theorem F3 {a:Iv}(h:a.Ok):a.raw.lens 17592186044416:=⟨by have:=Di h.lo;show a.lo.raw.m.length≤_;omega,by have:=Di h.hi;show a.hi.raw.m.length≤_;omega⟩
theorem Zz {w:World}{v:Value}{a:Iv}(hv:IvC w v a)(h:a.Ok):Calls Tryz.prog 70 #[v] w (RetK (.bool true) w):=by
 have:=W8 hv (F3 h);rwa [Fq h] at this
theorem Aca {w:World}{v:Value}{d:Dy}(hv:DyR w v d.raw)(h:d.Ok):Calls Tryz.prog 66 #[v] w (RetK (.bool true) w):=by
 have:=J7 hv (by have:=Di h;omega);rwa [h.may] at this
def Ql (a:Iv) (d:Dy):Bool:=decide (Bq a.lo.q d.q≤0)&&decide (Bq d.q a.hi.q≤0)
theorem Abq (w:World)(x y z x' y' z' p q r:Value):∃ W,W=(w.alloc (.cells #[x,y,z,x',y',z'] 26)).alloc (.cells #[p,q,r] 24)∧Kept w W∧BlkI W w.heap.size x y z x' y' z'∧Blk W (w.heap.size+1) p q r :=
 ⟨_,rfl,(Ad _ _).trans (Ad _ _),(Ez _ _ _ _ _ _ _).kept (Ad _ _),Du _ _ _ _ _⟩
theorem W6 {w:World}{v u:Value}{a:Iv}{d:Dy}(hv:IvC w v a)(hu:DyR w u d.raw)(ha:a.Ok)(hd:d.Ok) :
 Calls Tryz.prog 30 #[v,u] w (RetK (.bool (Ql a d)) w):=by
 have m1:=fun w1 (k:Kept w w1)=>Zz (hv.kept k) ha
 have m2:=fun w1 (k:Kept w w1)=>Aca (hu.kept k) hd
 obtain ⟨A,l,c,A',l',c',rfl,h1,h2⟩:=Uq hv;obtain ⟨A3,l3,c3,rfl,hu⟩:=Cr hu;have q1:=fun w1 (k:Kept w w1)=>Ki (h1.kept k) (hu.kept k) ha.lo hd
 have q2:=fun w1 (k:Kept w w1)=>Ki (hu.kept k) (h2.kept k) hd ha.hi
 unfold Ql;have M1:=hid m1;have M2:=hid m2;have Q1:=hid q1;have Q2:=hid q2;clear m1 m2 q1 q2 h1 h2 hv hu ha hd;generalize Bq a.lo.q d.q=r1 at *;generalize Bq d.q a.hi.q=r2 at *;generalize a.lo.neg=n1 at *;generalize a.lo.e=e1 at *;generalize a.hi.neg=n2 at *;generalize a.hi.e=e2 at *;generalize d.neg=n3 at *;generalize d.e=e3 at *;obtain ⟨W,hW,kW,BI,BD⟩:=Abq w (.bool n1) (.slice A l c) (.int .i64 e1) (.bool n2) (.slice A' l' c') (.int .i64 e2) (.bool n3) (.slice A3 l3 c3) (.int .i64 e3);have HW:=hid hW;have K:=hid kW;have HB:=hid BI;have HD:=hid BD;clear hW kW BI BD;have hr1:decide (r1≤0)=true∨decide (r1≤0)=false:=Ca _
 rcases hr1 with hr1 | hr1
 ·rw [hr1,Bool.true_and];obtain ⟨rb,hrb⟩:∃ rb,decide (r2≤0)=rb:=⟨_,rfl⟩;rw [hrb];go_enter Tryz.func30,Tryz.ntmps30;go_wp2_with fail;rw [←HW.out];refine (M1.out _ K.out).mono ?_;rintro e w1 ⟨rfl,q⟩;replace K:=hid (K.out.trans q);replace HB:=hid (HB.out.kept q);replace HD:=hid (HD.out.kept q);clear q;obtain ⟨-,c0,c1,c2,c3,c4,c5⟩:=HB.out.facts;obtain ⟨-,d0,d1,d2,-⟩:=HD.out.facts;simp only [];go_wp2_with fail;refine (M2.out _ K.out).mono ?_;clear c0 c1 c2 c3 c4 c5 d0 d1 d2;rintro e w1 ⟨rfl,q⟩;replace K:=hid (K.out.trans q);replace HB:=hid (HB.out.kept q);replace HD:=hid (HD.out.kept q);clear q;obtain ⟨-,c0,c1,c2,c3,c4,c5⟩:=HB.out.facts
  obtain ⟨-,d0,d1,d2,-⟩:=HD.out.facts;simp only [];go_wp2_with fail;refine (Q1.out _ K.out).mono ?_;clear c0 c1 c2 c3 c4 c5 d0 d1 d2;rintro e w1 ⟨rfl,q⟩;replace K:=hid (K.out.trans q);replace HB:=hid (HB.out.kept q);replace HD:=hid (HD.out.kept q);clear q;obtain ⟨-,c0,c1,c2,c3,c4,c5⟩:=HB.out.facts;obtain ⟨-,d0,d1,d2,-⟩:=HD.out.facts;simp only [];go_wp2_with fail;refine (Q2.out _ K.out).mono ?_;rintro e w4 ⟨rfl,q⟩;replace K:=hid (K.out.trans q);clear q;simp only [];go_wp2_with fail;go_ret;exact ⟨rfl,K.out⟩
 ·rw [hr1,Bool.false_and];go_enter Tryz.func30,Tryz.ntmps30;go_wp2_with fail;rw [←HW.out];refine (M1.out _ K.out).mono ?_;rintro e w1 ⟨rfl,q⟩;replace K:=hid (K.out.trans q);replace HB:=hid (HB.out.kept q);replace HD:=hid (HD.out.kept q);clear q;obtain ⟨-,c0,c1,c2,c3,c4,c5⟩:=HB.out.facts;obtain ⟨-,d0,d1,d2,-⟩:=HD.out.facts;simp only [];go_wp2_with fail;refine (M2.out _ K.out).mono ?_;clear c0 c1 c2 c3 c4 c5 d0 d1 d2;rintro e w1 ⟨rfl,q⟩;replace K:=hid (K.out.trans q);replace HB:=hid (HB.out.kept q);replace HD:=hid (HD.out.kept q);clear q;obtain ⟨-,c0,c1,c2,c3,c4,c5⟩:=HB.out.facts;obtain ⟨-,d0,d1,d2,-⟩:=HD.out.facts
  simp only [];go_wp2_with fail;refine (Q1.out _ K.out).mono ?_;clear c0 c1 c2 c3 c4 c5 d0 d1 d2;rintro e w1 ⟨rfl,q⟩;replace K:=hid (K.out.trans q);replace HB:=hid (HB.out.kept q);replace HD:=hid (HD.out.kept q);clear q;obtain ⟨-,c0,c1,c2,c3,c4,c5⟩:=HB.out.facts;obtain ⟨-,d0,d1,d2,-⟩:=HD.out.facts;simp only [];go_wp2_with fail;go_ret;exact ⟨rfl,K.out⟩
theorem Om (w:World)(x y z x' y' z' p q r p' q' r':Value):∃ W,W=(w.alloc (.cells #[x,y,z,x',y',z'] 26)).alloc (.cells #[p,q,r,p',q',r'] 26)∧Kept w W∧BlkI W w.heap.size x y z x' y' z'∧BlkI W (w.heap.size+1) p q r p' q' r':=by
 refine ⟨_,rfl,(Ad _ _).trans (Ad _ _),(Ez _ _ _ _ _ _ _).kept (Ad _ _),?_⟩;have:=Ez (w.alloc (.cells #[x,y,z,x',y',z'] 26)) p q r p' q' r';simpa using this
end Go.Proofs.YtinbgjcooolbiaaGreatDoor
