/- Words and contracts, part 12. -/
import Derived.Test.YtabjjdicffcolaaGreatDoorClaimSholdp11
set_option maxRecDepth 100000
set_option maxHeartbeats 0
namespace Go.Proofs.YtabjjdicffcolaaGreatDoor
open Go.Lib (hid)
open Go.RowKit
variable {cs:Array Value} {n n' up:Bool} {d x:Dy} {e:Ending} {R:Ending→World→Prop} {e':Int} {a:Iv} {xs:List Nat} {b c c' l l' p:Nat} {A A':Option Addr} {r:Raw} {t:TypeId} {s u v va vb x' y y' z z':Value} {w w':World}
def Iz (d:Dy) (p:Nat) (up:Bool):Outc Dy:=if d.neg then bad 4 else Iy d p up
theorem Ag0 (d:Dy)(p:Nat)(up:Bool):(Iz d p up).Ok:=by
 unfold Iz;split
 ·exact Mj _
 ·exact Td _ _ _
theorem Ad9 (d:Dy)(p:Nat)(up:Bool):(Iz d p up).raw.k≠0→(Iz d p up).raw.v=rz:=by
 intro h
 show ((Iz d p up).v).raw=rz
 rw [(Ag0 d p up).2 h,Fg]
theorem Ak2 (n:Nat):bl (isq n)≤bl n:=by
 refine Gn ?_;have h:=(Mp n).1;by_cases h0:isq n=0
 ·omega
 ·have:=Nat.mul_le_mul_left (isq n) (Nat.pos_of_ne_zero h0);omega
theorem Ajq {bp bx bu:Nat}(hx:x.Ok)(hT:Tab w)(p1:1≤p)(p2:p≤2000)
 (cp:w.cell? ⟨bp,0,none⟩=some (.int .i64 p)) (cx:BlkD w bx x) (cu:w.cell? ⟨bu,0,none⟩=some (.bool up)) :
 Calls Tryz.prog 182 #[.pointer (some ⟨bp,0,none⟩),.pointer (some ⟨bx,0,none⟩),.pointer (some ⟨bu,0,none⟩)] w (Goes 185 (Iz x p up).raw w):=by
 obtain ⟨A,l,c,hbx,hRx⟩:=cx;obtain ⟨W,hW,kW,BR,sW⟩:=Ak8 w;have hone:=Xo sW (hRx.kept kW);have hm:=fun w1 (k:Kept w w1) v (hv:DyS w1 v [x])=>Abb hv (by intro z hz;simp at hz;subst hz;exact hx) (by simp) (by omega:(1:Int)≤(p:Int)) (by omega)
 have HM:=hid hm;have HO:=hid hone;have HW:=hid hW;have HK:=hid kW;have HR:=hid BR;have HBX:=hid hbx;have CP:=hid cp;have CU:=hid cu;have lp:=Am cp;have lu:=Am cu;simp only at lp lu;obtain ⟨lbx,x0,x1,x2,-⟩:=hbx.facts;clear hm hone hW kW BR sW hbx;cases hn:x.neg
 ·have hz:Iz x p up=Iy x p up:=by unfold Iz;rw [hn];rfl
  rw [hz];rw [hn] at x0 HBX HO;have bx1:=Cq x.m 64 hx.len;have xl:=hx.lo;have xh:=hx.hi;have limx:Lim w (.slice A l c) (limbs x.m):=by
   obtain ⟨A',l',c',he,-,hlim,-,-⟩:=hRx.shape;injection he with he;injection he with he
   simp only [List.cons.injEq,and_true] at he;rw [he.2.1];exact hlim
  obtain ⟨k0,hk0⟩:∃ k,k=Kl x p:=⟨_,rfl⟩;obtain ⟨kk,hkk⟩:∃ k,k=Mz x p:=⟨_,rfl⟩;have hk0le:k0≤4002:=by rw [hk0];unfold Kl;omega
  have hkk':kk=if (x.e-k0)%2=0 then k0 else k0+1:=by rw [hkk,hk0];rfl
  have hev:(x.e-kk)%2=0:=by rw [hkk];exact Tf x p
  have hkle:kk≤4003:=by rw [hkk'];split<;>omega
  have hs1:=fun w1 (k:Kept w w1)=>L7 (limx.kept k) (by have:=hx.len;omega)
  have hle:=fun w1 (k:Kept w w1)=>Mq (limx.kept k) kk (by have:=hx.len;omega) (by omega)
  have blX:bl (x.m*2^kk)≤8100:=by
   by_cases hz:x.m=0
   ·rw [hz,Nat.zero_mul,Gp];omega
   ·rw [Fq _ _ hz];omega
  have lenX:=Dd (x.m*2^kk) 127 (by omega);have lenI:=Dd (isq (x.m*2^kk)) 127 (by have:=Ak2 (x.m*2^kk);omega);have hsq:=fun w1 u (hu:Lim w1 u (limbs (x.m*2^kk)))=>Ahe hu (by omega)
  have hti:=fun w1 u (hu:Lim w1 u (limbs (isq (x.m*2^kk))))=>Acz hu hu (by omega) (by omega)
  have lenS:(limbs (isq (x.m*2^kk)*isq (x.m*2^kk))).length≤127:=Nat.le_trans (Eh (Mp (x.m*2^kk)).1) lenX;have hor:=fun w1 u v (hu:Lim w1 u (limbs (isq (x.m*2^kk)*isq (x.m*2^kk)))) (hv:Lim w1 v (limbs (x.m*2^kk)))=>L3 hu hv (by omega) (by omega)
  obtain ⟨hh,hhh⟩:∃ h:Int,(x.e-kk)/2=h:=⟨_,rfl⟩;obtain ⟨rb,hrb⟩:∃ rb,decide (¬isq (x.m*2^kk)*isq (x.m*2^kk)=x.m*2^kk)=rb:=⟨_,rfl⟩;have hcm:(Du (isq (x.m*2^kk)*isq (x.m*2^kk)) (x.m*2^kk) != 0)=rb:=by
   rw [←hrb];unfold Du;have:=(Mp (x.m*2^kk)).1;by_cases h1:isq (x.m*2^kk)*isq (x.m*2^kk)<x.m*2^kk
   ·rw [if_pos h1];simp;omega
   ·rw [if_neg h1,if_pos (by omega)];simp;omega
  have hcu:=fun w1 u (k:Kept w w1) (hu:Lim w1 u (limbs (isq (x.m*2^kk))))=>Afc (v:=u) (m:=isq (x.m*2^kk)) (p:=p) (e:=hh) false rb up (w:=w1)
   ⟨hu,by omega,by omega,by omega,p1,p2,hT.kept k⟩
  have hout:Iy x p up=J5 false (isq (x.m*2^kk)) hh rb p up:=by unfold Iy;rw [←hkk,hhh,hrb]
  obtain ⟨o,ho⟩:∃ o,o=Iy x p up:=⟨_,rfl⟩;rw [←ho];rw [←ho.trans hout] at hcu;obtain ⟨s1,hs1'⟩:∃ s:Int,2*(p:Int)=s:=⟨_,rfl⟩;obtain ⟨s2,hs2'⟩:∃ s:Int,s1+2=s:=⟨_,rfl⟩;obtain ⟨s3,hs3'⟩:∃ s:Int,s2-(bl x.m:Int)=s:=⟨_,rfl⟩;have hw1:IntKind.i64.wrap (2*(p:Int))=s1:=by simp [IntKind.wrap_i64];omega
  have hw2:IntKind.i64.wrap (s1+2)=s2:=by simp [IntKind.wrap_i64];omega
  have hw3:IntKind.i64.wrap (s2-(bl x.m:Int))=s3:=by simp [IntKind.wrap_i64];omega
  have hmx:max 0 s3=(k0:Int):=by rw [hk0];unfold Kl;omega
  obtain ⟨d0,hd0⟩:∃ d:Int,x.e-(k0:Int)=d:=⟨_,rfl⟩;obtain ⟨d1,hd1⟩:∃ d:Int,x.e-(kk:Int)=d:=⟨_,rfl⟩;have hw4:IntKind.i64.wrap (x.e-(k0:Int))=d0:=by rw [hd0];simp [IntKind.wrap_i64];omega
  have hw5:IntKind.i64.wrap (x.e-(kk:Int))=d1:=by rw [hd1];simp [IntKind.wrap_i64];omega
  have hw6:IntKind.i64.wrap (d1.tdiv 2)=hh:=by
   have:d1.tdiv 2=hh:=by
    rw [←hhh,hd1];rw [hd1] at hev;rw [Int.tdiv_eq_ediv];split<;>omega
   rw [this];simp [IntKind.wrap_i64];omega
  have H1:=hid hs1;have HL:=hid hle;have HSQ:=hid hsq;have HTI:=hid hti;have HOR:=hid hor;have HC:=hid hcu;have HW5:=hid hw5;have HW6:=hid hw6;have HCM:=hid hcm;have hq1:IntKind.i64.wrap ((k0:Int)+1)=((k0+1:Nat):Int):=by simp [IntKind.wrap_i64];omega
  have hpar:d0.tmod 2=0↔(x.e-k0)%2=0:=by rw [hd0,←Int.dvd_iff_tmod_eq_zero,Int.dvd_iff_emod_eq_zero]
  have HP:=hid hpar;have HKK:=hid hkk';clear hs1 hle hsq hti hor hcu hw5 hw6 hcm hpar hkk' hRx hx hT p1 p2 hz hn bx1 xl xh limx hk0 hkk hk0le hev hkle blX lenX lenI lenS hhh hrb hout ho hs1' hs2' hs3' hd0 hd1;generalize bl x.m=b1 at *;by_cases hpp:d0.tmod 2=0
  ·have hk:=HKK.out;rw [if_pos (HP.out.1 hpp)] at hk;subst hk;have hpb:(d0.tmod 2 != 0)=false:=by simp [hpp]
   have hpc:(d0.tmod 2==0)=true:=by simp [hpp]
   clear hpp HKK HP hq1;generalize x.e=e1 at *;go_enter Tryz.func182,Tryz.ntmps182
   go_wp2_with (first
    | (go_at_call 170;rw [←HW.out];refine (HM.out _ (HK.out.trans (Ad _ _)) _ HO.out).mono ?_;rintro e w1 ⟨rfl,q⟩;have K:=hid (HK.out.trans ((Ad _ _).trans q));have hr:=HR.out.kept ((Ad _ _).trans q);have HR2:=hid hr;clear q hr x0 x1 x2 cp cu;have cp:=Ak K.out CP.out;have cu:=Ak K.out CU.out;obtain ⟨-,x0,x1,x2,-⟩:=(HBX.out.kept K.out).facts)
    | (go_at_call 174;refine (Fm _ _ _).mono ?_;rintro e w3 ⟨he,rfl⟩;obtain rfl:e=.returned (.tuple #[]):=he))
   clear x0 x1 x2 cp cu
   refine rgL 9 ([(vE (.int .i64 p)),(vE (.int .i64 s1)),(vE (.int .i64 s2)),(vP bx 1),(vE (.slice A l c)),(vE (.int .i64 b1)),(vE (.int .i64 s3)),(vE (.int .i64 kk)),(vE (.int .i64 kk))])
    ⟨
     (fun aF wF F=>by have s0:=F.q 0 (.pointer (some ⟨bp,0,none⟩));exact sw (by have cq:=Ak F.kept (Ak K.out CP.out);go_simp) rfl),(gv 0 15),(gv 1 16),(gq 1),(gvl 3 18 fun _ k=>Ai (HBX.out.kept K.out) k 1 _ rfl),(fun aF wF F=>by have s19:=F.v 4 19;exact sQ (H1.out _ (K.out.trans F.kept)) fun _ _ h=>h),(gvv 2 17 5 20),(gv 6 21),(gv 7 22),
     trivial⟩ ?_
   intro u w1 k1 hu;simp only [Ax,Al,if_true,Act.put,zlA,zlB,zlC,zlD,zlE,zlF,zlG,hv hu 0,hv hu 1,hv hu 2,hv hu 3,hv hu 4,hv hu 5,hv hu 6,hv hu 7,hv hu 8];clear hu;have K1:=hid (K.out.trans k1);have HR3:=hid (HR2.out.kept k1);clear k1 u hw1 hw2 hw3 hmx;obtain ⟨-,x0,x1,x2,-⟩:=(HBX.out.kept K1.out).facts;go_wp2_with fail;clear hpb hpc;refine (HL.out _ K1.out).mono ?_;rintro e w2 ⟨M,rfl,hM,q⟩;have K2:=hid (K1.out.trans q);have HR4:=hid (HR3.out.kept q);have LM:=hid hM;clear hM q x0 x1 x2;simp only [];go_wp2_with fail;refine (HSQ.out _ _ LM.out).mono ?_;rintro e w3 ⟨X,rfl,hX,q⟩;have K3:=hid (K2.out.trans q)
   have HR5:=hid (HR4.out.kept q);have LX:=hid hX;replace LM:=hid (LM.out.kept q);clear hX q hw4;have hw5:=HW5.out;have hw6:=HW6.out;have hcm:=HCM.out;simp only [];go_wp2_with fail
   refine Ny 15 ([(vE X),(vP bx 2),(vE (.int .i64 e1)),(vE (.int .i64 ((kk:Nat):Int))),(vE (.int .i64 d1)),(vE (.int .i64 hh)),(vE X),(vE X),(fun v wv=>Lim wv v (limbs (isq (x.m*2^kk)*isq (x.m*2^kk)))),(vE M),(vE (.int .i64 (Du (isq (x.m*2^kk)*isq (x.m*2^kk)) (x.m*2^kk)))),(vE (.bool rb)),(vE (.int .i64 p)),(vE (.bool up)),(fun v wv=>o.raw.k=0∧DyR wv v o.raw.v)])
    ⟨
     (gq 6),(gq 1),(gvl 1 38 fun _ k=>Ai (HBX.out.kept K3.out) k 2 _ rfl),(gq 4),(fun aF wF F=>by have s39:=F.v 2 39;have s40:=F.v 3 40;exact sw (by have hx:=HW5.out;push_cast at hx;go_simp) rfl),(gv 4 41),(gq 6),(gq 6),(fun aF wF F=>by have s43:=F.v 6 43;have s44:=F.v 7 44;exact sL (HTI.out _ _ (LX.out.kept F.kept)) fun _ _ h=>h),(gq 5),(fun aF wF F=>by have s45:=F.p 8 45;have s46:=F.v 9 46;exact sQ (HOR.out _ _ _ s45 (LM.out.kept F.kept)) fun _ _ h=>h),(gv 10 47),(fun aF wF F=>by have s0:=F.q 0 (.pointer (some ⟨bp,0,none⟩));exact sw (by have cq:=Ak F.kept (Ak K3.out CP.out);go_simp) rfl),(fun aF wF F=>by have s2:=F.q 2 (.pointer (some ⟨bu,0,none⟩));exact sw (by have cq:=Ak F.kept (Ak K3.out CU.out);go_simp) rfl),(fun aF wF F=>by have s37:=F.v 0 37;have s42:=F.v 5 42;have s48:=F.v 11 48;have s49:=F.v 12 49;have s50:=F.v 13 50;exact sG (HC.out _ _ (K3.out.trans F.kept) (LX.out.kept F.kept)) (fun _ _ _ h0 h=>⟨h0,h⟩) (fun w2 k2 h0=>⟨F.defers,⟨K3.out.trans (F.kept.trans k2),.inr ⟨h0,rfl⟩⟩⟩)),
     trivial⟩ ?_
   intro u w1 k1 hu;have p45:=hp hu 8;have p51:=hp hu 14;simp only [Ax,Al,if_true,Act.put,zlA,zlB,zlC,zlD,zlE,zlF,zlG,hv hu 0,hv hu 1,hv hu 2,hv hu 3,hv hu 4,hv hu 5,hv hu 6,hv hu 7,hv hu 9,hv hu 10,hv hu 11,hv hu 12,hv hu 13];clear hu;generalize u 8=v45,u 14=v51 at *;obtain ⟨h0,hd⟩:=p51;obtain ⟨A',l',c',rfl,hd,g1,g2⟩:=Ec hd;have hb:=HR5.out.kept k1;obtain ⟨_,c0,c1,c2,f0,f1,f2⟩:=hb.facts;have HD:=hid hd;have H0:=hid h0;have HB:=hid hb;have K4:=hid (K3.out.trans k1);clear hd h0 hb k1 p45;go_simp;go_wp2_with fail;exact Cc (HB.out.laid _ _ _) rfl rfl rfl ⟨An K4.out (Nat.le_refl _),.inl ⟨H0.out,_,rfl,(HD.out.dyW HB.out (Ah _) (Ag _ _ _) (Af _)).dyR g1 g2⟩⟩
  ·have hk:=HKK.out;rw [if_neg (fun h=>hpp (HP.out.2 h))] at hk;subst hk;have hpb:(d0.tmod 2 != 0)=true:=by simp [hpp]
   have hpc:(d0.tmod 2==0)=false:=by simp [hpp]
   clear hpp HKK HP;generalize x.e=e1 at *;go_enter Tryz.func182,Tryz.ntmps182
   go_wp2_with (first
    | (go_at_call 170;rw [←HW.out];refine (HM.out _ (HK.out.trans (Ad _ _)) _ HO.out).mono ?_;rintro e w1 ⟨rfl,q⟩;have K:=hid (HK.out.trans ((Ad _ _).trans q));have hr:=HR.out.kept ((Ad _ _).trans q);have HR2:=hid hr;clear q hr x0 x1 x2 cp cu;have cp:=Ak K.out CP.out;have cu:=Ak K.out CU.out;obtain ⟨-,x0,x1,x2,-⟩:=(HBX.out.kept K.out).facts)
    | (go_at_call 174;refine (Fm _ _ _).mono ?_;rintro e w3 ⟨he,rfl⟩;obtain rfl:e=.returned (.tuple #[]):=he))
   clear x0 x1 x2 cp cu
   refine rgL 9 ([(vE (.int .i64 p)),(vE (.int .i64 s1)),(vE (.int .i64 s2)),(vP bx 1),(vE (.slice A l c)),(vE (.int .i64 b1)),(vE (.int .i64 s3)),(vE (.int .i64 k0)),(vE (.int .i64 k0))])
    ⟨
     (fun aF wF F=>by have s0:=F.q 0 (.pointer (some ⟨bp,0,none⟩));exact sw (by have cq:=Ak F.kept (Ak K.out CP.out);go_simp) rfl),(gv 0 15),(gv 1 16),(gq 1),(gvl 3 18 fun _ k=>Ai (HBX.out.kept K.out) k 1 _ rfl),(fun aF wF F=>by have s19:=F.v 4 19;exact sQ (H1.out _ (K.out.trans F.kept)) fun _ _ h=>h),(gvv 2 17 5 20),(gv 6 21),(gv 7 22),
     trivial⟩ ?_
   intro u w1 k1 hu;simp only [Ax,Al,if_true,Act.put,zlA,zlB,zlC,zlD,zlE,zlF,zlG,hv hu 0,hv hu 1,hv hu 2,hv hu 3,hv hu 4,hv hu 5,hv hu 6,hv hu 7,hv hu 8];clear hu;have K1:=hid (K.out.trans k1);have HR3:=hid (HR2.out.kept k1);clear k1 u hw1 hw2 hw3 hmx;obtain ⟨-,x0,x1,x2,-⟩:=(HBX.out.kept K1.out).facts;go_wp2_with fail;clear hpb hpc hq1;refine (HL.out _ K1.out).mono ?_;rintro e w2 ⟨M,rfl,hM,q⟩;have K2:=hid (K1.out.trans q);have HR4:=hid (HR3.out.kept q);have LM:=hid hM;clear hM q x0 x1 x2;simp only [];go_wp2_with fail;refine (HSQ.out _ _ LM.out).mono ?_;rintro e w3 ⟨X,rfl,hX,q⟩;have K3:=hid (K2.out.trans q)
   have HR5:=hid (HR4.out.kept q);have LX:=hid hX;replace LM:=hid (LM.out.kept q);clear hX q hw4;have hw5:=HW5.out;have hw6:=HW6.out;have hcm:=HCM.out;simp only [];go_wp2_with fail
   refine Ny 15 ([(vE X),(vP bx 2),(vE (.int .i64 e1)),(vE (.int .i64 (((k0+1):Nat):Int))),(vE (.int .i64 d1)),(vE (.int .i64 hh)),(vE X),(vE X),(fun v wv=>Lim wv v (limbs (isq (x.m*2^(k0+1))*isq (x.m*2^(k0+1))))),(vE M),(vE (.int .i64 (Du (isq (x.m*2^(k0+1))*isq (x.m*2^(k0+1))) (x.m*2^(k0+1))))),(vE (.bool rb)),(vE (.int .i64 p)),(vE (.bool up)),(fun v wv=>o.raw.k=0∧DyR wv v o.raw.v)])
    ⟨
     (gq 6),(gq 1),(gvl 1 38 fun _ k=>Ai (HBX.out.kept K3.out) k 2 _ rfl),(gq 4),(fun aF wF F=>by have s39:=F.v 2 39;have s40:=F.v 3 40;exact sw (by have hx:=HW5.out;push_cast at hx;go_simp) rfl),(gv 4 41),(gq 6),(gq 6),(fun aF wF F=>by have s43:=F.v 6 43;have s44:=F.v 7 44;exact sL (HTI.out _ _ (LX.out.kept F.kept)) fun _ _ h=>h),(gq 5),(fun aF wF F=>by have s45:=F.p 8 45;have s46:=F.v 9 46;exact sQ (HOR.out _ _ _ s45 (LM.out.kept F.kept)) fun _ _ h=>h),(gv 10 47),(fun aF wF F=>by have s0:=F.q 0 (.pointer (some ⟨bp,0,none⟩));exact sw (by have cq:=Ak F.kept (Ak K3.out CP.out);go_simp) rfl),(fun aF wF F=>by have s2:=F.q 2 (.pointer (some ⟨bu,0,none⟩));exact sw (by have cq:=Ak F.kept (Ak K3.out CU.out);go_simp) rfl),(fun aF wF F=>by have s37:=F.v 0 37;have s42:=F.v 5 42;have s48:=F.v 11 48;have s49:=F.v 12 49;have s50:=F.v 13 50;exact sG (HC.out _ _ (K3.out.trans F.kept) (LX.out.kept F.kept)) (fun _ _ _ h0 h=>⟨h0,h⟩) (fun w2 k2 h0=>⟨F.defers,⟨K3.out.trans (F.kept.trans k2),.inr ⟨h0,rfl⟩⟩⟩)),
     trivial⟩ ?_
   intro u w1 k1 hu;have p45:=hp hu 8;have p51:=hp hu 14;simp only [Ax,Al,if_true,Act.put,zlA,zlB,zlC,zlD,zlE,zlF,zlG,hv hu 0,hv hu 1,hv hu 2,hv hu 3,hv hu 4,hv hu 5,hv hu 6,hv hu 7,hv hu 9,hv hu 10,hv hu 11,hv hu 12,hv hu 13];clear hu;generalize u 8=v45,u 14=v51 at *;obtain ⟨h0,hd⟩:=p51;obtain ⟨A',l',c',rfl,hd,g1,g2⟩:=Ec hd;have hb:=HR5.out.kept k1;obtain ⟨_,c0,c1,c2,f0,f1,f2⟩:=hb.facts;have HD:=hid hd;have H0:=hid h0;have HB:=hid hb;have K4:=hid (K3.out.trans k1);clear hd h0 hb k1 p45;go_simp;go_wp2_with fail;exact Cc (HB.out.laid _ _ _) rfl rfl rfl ⟨An K4.out (Nat.le_refl _),.inl ⟨H0.out,_,rfl,(HD.out.dyW HB.out (Ah _) (Ag _ _ _) (Af _)).dyR g1 g2⟩⟩
 ·have hz:Iz x p up=bad 4:=by unfold Iz;rw [hn];rfl
  rw [hz];rw [hn] at x0 HBX HO;clear hRx hx hT p1 p2 hz hn;generalize x.e=e1 at *;go_enter Tryz.func182,Tryz.ntmps182
  go_wp2_with (first
   | (go_at_call 170;rw [←HW.out];refine (HM.out _ (HK.out.trans (Ad _ _)) _ HO.out).mono ?_;rintro e w1 ⟨rfl,q⟩;have K:=hid (HK.out.trans ((Ad _ _).trans q));have hr:=HR.out.kept ((Ad _ _).trans q);have HR2:=hid hr;clear q hr x0 x1 x2 cp cu;have cp:=Ak K.out CP.out;have cu:=Ak K.out CU.out;obtain ⟨-,x0,x1,x2,-⟩:=(HBX.out.kept K.out).facts)
   | (go_at_call 174;refine (Fm _ _ _).mono ?_;rintro e w3 ⟨he,rfl⟩;obtain rfl:e=.panicked (Dc 185 _):=he))
  exact ⟨rfl,K.out,.inr ⟨by decide,rfl⟩⟩
theorem Ag1 (hv:DyR w v d.raw)(hd:d.Ok)(hT:Tab w)(p1:1≤p)(p2:p≤2000) :
 Calls Tryz.prog 142 #[v,.int .i64 p,.bool up] w (RetE (Iz d p up).raw w):=by
 have hmf:=Ho;obtain ⟨A,l,c,rfl,hv⟩:=Bj hv;obtain ⟨W,hW,kW,B0,cp,cu,BR⟩:=Ae5 w (.bool d.neg) (.slice A l c) (.int .i64 d.e) (.int .i64 p) (.bool up)
 have hf:=Vz (w:=W) (K:=182) (cap:=#[.pointer (some ⟨w.heap.size+1,0,none⟩),.pointer (some ⟨w.heap.size,0,none⟩),.pointer (some ⟨w.heap.size+1+1,0,none⟩)]) (o:=(Iz d p up).raw)
  (fun w1 k=>Ajq hd (hT.kept (kW.trans k)) p1 p2 (Ak k cp) ⟨A,l,c,B0.kept k,hv.kept (kW.trans k)⟩ (Ak k cu)) (Ad9 d p up) (fun _=>rfl)
 have HF:=hid hf;have HW:=hid hW;have HK:=hid kW;have HR:=hid BR;clear hf hW kW B0 cp cu BR hv hd hT p1 p2;generalize Iz d p up=o at *;generalize d.neg=nd,d.e=ed at *;go_enter Tryz.func142,Tryz.ntmps142
 go_wp2_with (go_at_call 168;rw [←HW.out];refine HF.out.mono ?_;rintro e w1 ⟨q,u,rfl,hd⟩;obtain ⟨A',l',c',rfl,hd,g3,g4⟩:=Ec hd;have HD:=hid hd;have hb2:=HR.out.kept q;obtain ⟨_,c0,c1,c2,f0,f1,f2⟩:=hb2.facts;have HB2:=hid hb2;clear hd hb2)
 exact Ed (HB2.out.laid _ _ _) rfl rfl rfl ⟨An (HK.out.trans q) (by omega),_,rfl,(HD.out.dyW HB2.out (Ah _) (Ag _ _ _) (Af _)).dyR g3 g4⟩
def IvR (w:World) (v:Value) (a:RawI):Prop:=∃ x y z x' y' z',v=.agg #[x,y,z,x',y',z']∧DyR w (.agg #[x,y,z]) a.lo∧DyR w (.agg #[x',y',z']) a.hi
theorem IvR.kept {a:RawI}(h:IvR w v a)(k:Kept w w'):IvR w' v a:=by
 obtain ⟨x,y,z,x',y',z',rfl,h1,h2⟩:=h;exact ⟨x,y,z,x',y',z',rfl,h1.kept k,h2.kept k⟩
theorem Ay (h:DyR w v r):∃ A l c,v=.agg #[.bool r.neg,.slice A l c,.int .i64 r.e]∧DyR w (.agg #[.bool r.neg,.slice A l c,.int .i64 r.e]) r:=by
 obtain ⟨A,l,c,rfl,-,-,-,-⟩:=h.shape;exact ⟨A,l,c,rfl,h⟩
theorem Aq {a:RawI}(h:IvR w v a):∃ A l c A' l' c',v=.agg #[.bool a.lo.neg,.slice A l c,.int .i64 a.lo.e,.bool a.hi.neg,.slice A' l' c',.int .i64 a.hi.e] ∧
 DyR w (.agg #[.bool a.lo.neg,.slice A l c,.int .i64 a.lo.e]) a.lo∧DyR w (.agg #[.bool a.hi.neg,.slice A' l' c',.int .i64 a.hi.e]) a.hi:=by
 obtain ⟨x,y,z,x',y',z',rfl,h1,h2⟩:=h;obtain ⟨A,l,c,e1,h1⟩:=Ay h1;obtain ⟨A',l',c',e2,h2⟩:=Ay h2;injection e1 with e1;injection e1 with e1
 injection e2 with e2;injection e2 with e2
 simp only [List.cons.injEq,and_true] at e1 e2;obtain ⟨rfl,rfl,rfl⟩:=e1;obtain ⟨rfl,rfl,rfl⟩:=e2;exact ⟨A,l,c,A',l',c',rfl,h1,h2⟩
def BlkI (w:World) (b:Nat) (x y z x' y' z':Value):Prop:=w.heap[b]?=some (.cells #[x,y,z,x',y',z'] 30 (0,0))
theorem BlkI.facts {x:Value}(h:BlkI w b x y z x' y' z'):b<w.heap.size∧w.cell? ⟨b,0,none⟩=some x∧w.cell? ⟨b,1,none⟩=some y∧w.cell? ⟨b,2,none⟩=some z ∧
 w.cell? ⟨b,3,none⟩=some x'∧w.cell? ⟨b,4,none⟩=some y'∧w.cell? ⟨b,5,none⟩=some z' :=
 ⟨(Array.getElem?_eq_some_iff.1 h).1,Ae h 0 _ rfl,Ae h 1 _ rfl,Ae h 2 _ rfl,Ae h 3 _ rfl,Ae h 4 _ rfl,Ae h 5 _ rfl⟩
theorem BlkI.kept {w1:World}{x:Value}(h:BlkI w b x y z x' y' z')(k:Kept w w1):BlkI w1 b x y z x' y' z' :=
 (k.block b (Array.getElem?_eq_some_iff.1 h).1).trans h
theorem Eo (w:World)(x y z x' y' z':Value):BlkI (w.alloc (.cells #[x,y,z,x',y',z'] 30)) w.heap.size x y z x' y' z':=heap_alloc_new _ _
def RawI.lens (a:RawI) (k:Nat):Prop:=a.lo.m.length≤k∧a.hi.m.length≤k
theorem Akj (w:World)(x y z x' y' z':Value):∃ W,W=w.alloc (.cells #[x,y,z,x',y',z'] 30)∧Kept w W∧BlkI W w.heap.size x y z x' y' z' :=
 ⟨_,rfl,Ad _ _,Eo _ _ _ _ _ _ _⟩
theorem Hz (h:DyR w v r):Small r.m:=by
 obtain ⟨s,-,hs,-,-⟩:=h;exact hs.1
theorem Wb {a:RawI}(hv:IvR w v a)(hl:a.lens 17592186044416) :
 Calls Tryz.prog 50 #[v] w (RetK (.bool (Fh a)) w):=by
 obtain ⟨A,l,c,A',l',c',rfl,h1,h2⟩:=Aq hv;have m1:=fun w1 (k:Kept w w1)=>Ms (h1.kept k) hl.1
 have m2:=fun w1 (k:Kept w w1)=>Ms (h2.kept k) hl.2
 have hc:Ew a.lo=true→Ew a.hi=true→∀ w1,Kept w w1→Calls Tryz.prog 40 #[.agg #[.bool a.lo.neg,.slice A l c,.int .i64 a.lo.e],.agg #[.bool a.hi.neg,.slice A' l' c',.int .i64 a.hi.e]] w1 (RetK (.int .i64 (Cg a.lo.dy.q a.hi.dy.q)) w1):=by
  intro d1 d2 w1 k;obtain ⟨e1,o1⟩:=Gw (Hz h1) d1;obtain ⟨e2,o2⟩:=Gw (Hz h2) d2;have g1:=h1.kept k;have g2:=h2.kept k;exact Og (x:=a.lo.dy) (y:=a.hi.dy) (by rw [e1];exact g1) (by rw [e2];exact g2) o1 o2
 unfold Fh;have M1:=hid m1;have M2:=hid m2;have HC:=hid hc;clear m1 m2 hc h1 h2 hv hl;generalize a.lo.neg=n1,a.lo.e=e1,a.hi.neg=n2,a.hi.e=e2 at *;generalize Cg a.lo.dy.q a.hi.dy.q=cc at *;generalize Ew a.lo=b1 at *;generalize Ew a.hi=b2 at *;obtain ⟨W,hW,kW,BI⟩:=Akj w (.bool n1) (.slice A l c) (.int .i64 e1) (.bool n2) (.slice A' l' c') (.int .i64 e2);have HW:=hid hW;have HK:=hid kW;have HB:=hid BI;clear hW kW BI;cases b1
 ·rw [Bool.false_and,Bool.false_and];go_enter Tryz.func50,Tryz.ntmps50
  go_wp2_with (go_at_call 53;rw [←HW.out];refine (M1.out _ HK.out).mono ?_;rintro e w1 ⟨rfl,q⟩)
  go_ret;exact ⟨rfl,HK.out.trans q⟩
 ·cases b2
  ·rw [Bool.and_false,Bool.false_and];go_enter Tryz.func50,Tryz.ntmps50;go_wp2_with fail;rw [←HW.out];refine (M1.out _ HK.out).mono ?_;rintro e w1 ⟨rfl,q⟩;have K:=hid (HK.out.trans q);obtain ⟨-,c0,c1,c2,c3,c4,c5⟩:=(HB.out.kept q).facts;have HB2:=hid (HB.out.kept q);clear q;simp only [];go_wp2_with fail;refine (M2.out _ K.out).mono ?_;rintro e w2 ⟨rfl,q⟩;replace K:=hid (K.out.trans q);clear c0 c1 c2 c3 c4 c5;obtain ⟨-,c0,c1,c2,c3,c4,c5⟩:=(HB2.out.kept q).facts;clear q;simp only [];go_wp2_with fail;go_ret;exact ⟨rfl,K.out⟩
  ·rw [Bool.and_true,Bool.true_and];have hc:=HC.out rfl rfl;clear HC;have HC:=hid hc;clear hc;obtain ⟨rb,hrb⟩:∃ rb,decide (cc≤0)=rb:=⟨_,rfl⟩;rw [hrb];go_enter Tryz.func50,Tryz.ntmps50;go_wp2_with fail;rw [←HW.out];refine (M1.out _ HK.out).mono ?_;rintro e w1 ⟨rfl,q⟩;have K:=hid (HK.out.trans q);obtain ⟨-,c0,c1,c2,c3,c4,c5⟩:=(HB.out.kept q).facts;have HB2:=hid (HB.out.kept q);clear q;simp only [];go_wp2_with fail;refine (M2.out _ K.out).mono ?_;rintro e w2 ⟨rfl,q⟩;replace K:=hid (K.out.trans q);clear c0 c1 c2 c3 c4 c5;obtain ⟨-,c0,c1,c2,c3,c4,c5⟩:=(HB2.out.kept q).facts;clear q;simp only [];go_wp2_with fail
   refine (HC.out _ K.out).mono ?_;rintro e w3 ⟨rfl,q⟩;replace K:=hid (K.out.trans q);clear q;simp only [];go_wp2_with fail;go_ret;exact ⟨rfl,K.out⟩
instance iI {r:RawI}:Nonempty (Ke fun v w=>IvR w v r):=⟨fun _ _ _ k h=>h.kept k⟩
instance iNI {S:Nat} {x y z x' y' z':Value}:Nonempty (Ke fun v w=>∃ b,v=.pointer (some ⟨b,0,none⟩)∧S≤b∧BlkI w b x y z x' y' z'):=⟨fun _ _ _ k q=>by obtain ⟨b,e,q1,q2⟩:=q;exact ⟨b,e,q1,q2.kept k⟩⟩
def IvC (w:World) (v:Value) (a:Iv):Prop:=IvR w v a.raw
theorem IvC.kept (h:IvC w v a)(k:Kept w w'):IvC w' v a:=IvR.kept h k
theorem F3 (h:IvC w v a):∃ A l c A' l' c',v=.agg #[.bool a.lo.neg,.slice A l c,.int .i64 a.lo.e,.bool a.hi.neg,.slice A' l' c',.int .i64 a.hi.e] ∧
 DyR w (.agg #[.bool a.lo.neg,.slice A l c,.int .i64 a.lo.e]) a.lo.raw∧DyR w (.agg #[.bool a.hi.neg,.slice A' l' c',.int .i64 a.hi.e]) a.hi.raw:=Aq h
theorem F4 (h:a.Ok):a.raw.lens 17592186044416:=⟨by have:=Ds h.lo;show a.lo.raw.m.length≤_;omega,by have:=Ds h.hi;show a.hi.raw.m.length≤_;omega⟩
theorem Wa (hv:IvC w v a)(h:a.Ok):Calls Tryz.prog 50 #[v] w (RetK (.bool true) w):=by
 have:=Wb hv (F4 h);rwa [Dt h] at this
theorem Aga (hv:DyR w v d.raw)(h:d.Ok):Calls Tryz.prog 53 #[v] w (RetK (.bool true) w):=by
 have:=Ms hv (by have:=Ds h;omega);rwa [h.may] at this
def Xz (a:Iv) (d:Dy):Bool:=decide (Cg a.lo.q d.q≤0)&&decide (Cg d.q a.hi.q≤0)
theorem Ak9 (w:World)(x y z x' y' z' p q r:Value):∃ W,W=(w.alloc (.cells #[x,y,z,x',y',z'] 30)).alloc (.cells #[p,q,r] 28)∧Kept w W∧BlkI W w.heap.size x y z x' y' z'∧Blk W (w.heap.size+1) p q r :=
 ⟨_,rfl,(Ad _ _).trans (Ad _ _),(Eo _ _ _ _ _ _ _).kept (Ad _ _),D8 _ _ _ _ _⟩
theorem Aft (hv:IvC w v a)(hu:DyR w u d.raw)(ha:a.Ok)(hd:d.Ok) :
 Calls Tryz.prog 24 #[v,u] w (RetK (.bool (Xz a d)) w):=by
 have m1:=fun w1 (k:Kept w w1)=>Wa (hv.kept k) ha
 have m2:=fun w1 (k:Kept w w1)=>Aga (hu.kept k) hd
 obtain ⟨A,l,c,A',l',c',rfl,h1,h2⟩:=F3 hv;obtain ⟨A3,l3,c3,rfl,hu⟩:=Bj hu;have q1:=fun w1 (k:Kept w w1)=>Og (h1.kept k) (hu.kept k) ha.lo hd
 have q2:=fun w1 (k:Kept w w1)=>Og (hu.kept k) (h2.kept k) hd ha.hi
 unfold Xz;have M1:=hid m1;have M2:=hid m2;have Q1:=hid q1;have Q2:=hid q2;clear m1 m2 q1 q2 h1 h2 hv hu ha hd;generalize Cg a.lo.q d.q=r1 at *;generalize Cg d.q a.hi.q=r2 at *;generalize a.lo.neg=n1,a.lo.e=e1,a.hi.neg=n2,a.hi.e=e2,d.neg=n3,d.e=e3 at *;obtain ⟨W,hW,kW,BI,BD⟩:=Ak9 w (.bool n1) (.slice A l c) (.int .i64 e1) (.bool n2) (.slice A' l' c') (.int .i64 e2) (.bool n3) (.slice A3 l3 c3) (.int .i64 e3);have HW:=hid hW;have K:=hid kW;have HB:=hid BI;have HD:=hid BD;clear hW kW BI BD;have hr1:decide (r1≤0)=true∨decide (r1≤0)=false:=Bl _
 rcases hr1 with hr1 | hr1
 ·rw [hr1,Bool.true_and];obtain ⟨rb,hrb⟩:∃ rb,decide (r2≤0)=rb:=⟨_,rfl⟩;rw [hrb];go_enter Tryz.func24,Tryz.ntmps24;go_wp2_with fail;rw [←HW.out];refine (M1.out _ K.out).mono ?_;rintro e w1 ⟨rfl,q⟩;replace K:=hid (K.out.trans q);replace HB:=hid (HB.out.kept q);replace HD:=hid (HD.out.kept q);clear q;obtain ⟨-,c0,c1,c2,c3,c4,c5⟩:=HB.out.facts;obtain ⟨-,d0,d1,d2,-⟩:=HD.out.facts;simp only [];go_wp2_with fail;refine (M2.out _ K.out).mono ?_;clear c0 c1 c2 c3 c4 c5 d0 d1 d2;rintro e w1 ⟨rfl,q⟩;replace K:=hid (K.out.trans q);replace HB:=hid (HB.out.kept q);replace HD:=hid (HD.out.kept q);clear q;obtain ⟨-,c0,c1,c2,c3,c4,c5⟩:=HB.out.facts
  obtain ⟨-,d0,d1,d2,-⟩:=HD.out.facts;simp only [];go_wp2_with fail;refine (Q1.out _ K.out).mono ?_;clear c0 c1 c2 c3 c4 c5 d0 d1 d2;rintro e w1 ⟨rfl,q⟩;replace K:=hid (K.out.trans q);replace HB:=hid (HB.out.kept q);replace HD:=hid (HD.out.kept q);clear q;obtain ⟨-,c0,c1,c2,c3,c4,c5⟩:=HB.out.facts;obtain ⟨-,d0,d1,d2,-⟩:=HD.out.facts;simp only [];go_wp2_with fail;refine (Q2.out _ K.out).mono ?_;rintro e w4 ⟨rfl,q⟩;replace K:=hid (K.out.trans q);clear q;simp only [];go_wp2_with fail;go_ret;exact ⟨rfl,K.out⟩
 ·rw [hr1,Bool.false_and];go_enter Tryz.func24,Tryz.ntmps24;go_wp2_with fail;rw [←HW.out];refine (M1.out _ K.out).mono ?_;rintro e w1 ⟨rfl,q⟩;replace K:=hid (K.out.trans q);replace HB:=hid (HB.out.kept q);replace HD:=hid (HD.out.kept q);clear q;obtain ⟨-,c0,c1,c2,c3,c4,c5⟩:=HB.out.facts;obtain ⟨-,d0,d1,d2,-⟩:=HD.out.facts;simp only [];go_wp2_with fail;refine (M2.out _ K.out).mono ?_;clear c0 c1 c2 c3 c4 c5 d0 d1 d2;rintro e w1 ⟨rfl,q⟩;replace K:=hid (K.out.trans q);replace HB:=hid (HB.out.kept q);replace HD:=hid (HD.out.kept q);clear q;obtain ⟨-,c0,c1,c2,c3,c4,c5⟩:=HB.out.facts;obtain ⟨-,d0,d1,d2,-⟩:=HD.out.facts
  simp only [];go_wp2_with fail;refine (Q1.out _ K.out).mono ?_;clear c0 c1 c2 c3 c4 c5 d0 d1 d2;rintro e w1 ⟨rfl,q⟩;replace K:=hid (K.out.trans q);replace HB:=hid (HB.out.kept q);replace HD:=hid (HD.out.kept q);clear q;obtain ⟨-,c0,c1,c2,c3,c4,c5⟩:=HB.out.facts;obtain ⟨-,d0,d1,d2,-⟩:=HD.out.facts;simp only [];go_wp2_with fail;go_ret;exact ⟨rfl,K.out⟩
theorem Vr (w:World)(x y z x' y' z' p q r p' q' r':Value):∃ W,W=(w.alloc (.cells #[x,y,z,x',y',z'] 30)).alloc (.cells #[p,q,r,p',q',r'] 30)∧Kept w W∧BlkI W w.heap.size x y z x' y' z'∧BlkI W (w.heap.size+1) p q r p' q' r':=by
 refine ⟨_,rfl,(Ad _ _).trans (Ad _ _),(Eo _ _ _ _ _ _ _).kept (Ad _ _),?_⟩;have:=Eo (w.alloc (.cells #[x,y,z,x',y',z'] 30)) p q r p' q' r';simpa using this
theorem R7 (h:w.heap[b]?=some (.cells cs t (0,0)))(i:Nat):w.cell? ⟨b,i,none⟩=cs[i]?:=by
 simp [World.cell?,h]
theorem Lim.setBlock (h:Lim w s xs)(hb:w.heap[b]?=some (.cells cs t (0,0)))(hn:∀ (i:Nat) (v:Value),cs[i]?=some v→Be v)
 (hs:w.heap.size≤w'.heap.size) (ho:∀ k,k<w.heap.size→k≠b→w'.heap[k]?=w.heap[k]?):Lim w' s xs:=by
 obtain ⟨hsm,A,c,rfl,hc,hA⟩:=h;refine ⟨hsm,A,c,rfl,hc,fun hp=>?_⟩;obtain ⟨b1,off,rfl,hb1,hcell⟩:=hA hp;have hne:b1≠b:=by
  rintro rfl;have h5:=hcell 0 hp;rw [R7 hb] at h5;exact hn _ _ h5 _ rfl
 refine ⟨b1,off,rfl,Nat.lt_of_lt_of_le hb1 hs,fun i hi=>?_⟩;rw [←hcell i hi];exact World.cell?_of_block (ho b1 hb1 hne)
def ivW (w:World) (b:Nat) (x y z x' y' z':Value):World :=
 (((((w.setCell ⟨b,0,none⟩ x).setCell ⟨b,1,none⟩ y).setCell ⟨b,2,none⟩ z).setCell ⟨b,3,none⟩ x').setCell ⟨b,4,none⟩ y').setCell ⟨b,5,none⟩ z'
theorem BlkI.laid {p q r p' q' r':Value}(h:BlkI w b p q r p' q' r')(x y z x' y' z':Value):BlkI (ivW w b x y z x' y' z') b x y z x' y' z' :=
 Aw (Aw (Aw (Aw (Aw (Aw h _) _) _) _) _) _
theorem Bm {w0:World}{x:Value}(h:Kept w0 w)(h2:w0.heap.size≤b):Kept w0 (ivW w b x y z x' y' z') :=
 (((((h.setCell (p:=⟨b,0,none⟩) h2 x).setCell (p:=⟨b,1,none⟩) h2 y).setCell (p:=⟨b,2,none⟩) h2 z).setCell (p:=⟨b,3,none⟩) h2 x').setCell (p:=⟨b,4,none⟩) h2 y').setCell (p:=⟨b,5,none⟩) h2 z'
theorem Cd (w:World)(b k:Nat)(x y z x' y' z':Value)(h:k≠b):(ivW w b x y z x' y' z').heap[k]?=w.heap[k]?:=by
 unfold ivW;rw [Below.heap_setCell _ _ _ _ h,Below.heap_setCell _ _ _ _ h,Below.heap_setCell _ _ _ _ h,Below.heap_setCell _ _ _ _ h,Below.heap_setCell _ _ _ _ h,Below.heap_setCell _ _ _ _ h]
theorem BlkI.noLimb {e:Int}(_h:BlkI w b (.bool n) (.slice A l c) (.int .i64 e) (.bool n') (.slice A' l' c') (.int .i64 e')) :
 ∀ (i:Nat) (v:Value),(#[Value.bool n,.slice A l c,.int .i64 e,.bool n',.slice A' l' c',.int .i64 e']:Array Value)[i]?=some v→Be v:=by
 intro i v hv;rcases i with _ | _ | _ | _ | _ | _ | i
 ·simp at hv;subst hv;exact Ah _
 ·simp at hv;subst hv;exact Ag _ _ _
 ·simp at hv;subst hv;exact Af _
 ·simp at hv;subst hv;exact Ah _
 ·simp at hv;subst hv;exact Ag _ _ _
 ·simp at hv;subst hv;exact Af _
 ·simp at hv
theorem Lim.ivW {e:Int}(h:Lim w s xs)(hb:BlkI w b (.bool n) (.slice A l c) (.int .i64 e) (.bool n') (.slice A' l' c') (.int .i64 e'))(x y z x' y' z':Value) :
 Lim (Go.Proofs.YtabjjdicffcolaaGreatDoor.ivW w b x y z x' y' z') s xs :=
 h.setBlock hb hb.noLimb (by simp [Go.Proofs.YtabjjdicffcolaaGreatDoor.ivW,World.setCell]) (fun k _ hne=>Cd _ _ _ _ _ _ _ _ _ hne)
theorem DyR.ivW {e:Int}(h:DyR w v r)(hb:BlkI w b (.bool n) (.slice A l c) (.int .i64 e) (.bool n') (.slice A' l' c') (.int .i64 e'))(x y z x' y' z':Value) :
 DyR (Go.Proofs.YtabjjdicffcolaaGreatDoor.ivW w b x y z x' y' z') v r:=by
 obtain ⟨s,rfl,hs,h1,h2⟩:=h;exact ⟨s,rfl,hs.ivW hb _ _ _ _ _ _,h1,h2⟩
theorem BlkI.free {x:Value}(h:BlkI w b x y z x' y' z'):w.frozen? ⟨b,0,none⟩=false∧w.frozen? ⟨b,1,none⟩=false∧w.frozen? ⟨b,2,none⟩=false∧w.frozen? ⟨b,3,none⟩=false∧w.frozen? ⟨b,4,none⟩=false∧w.frozen? ⟨b,5,none⟩=false :=
 ⟨Ap h 0,Ap h 1,Ap h 2,Ap h 3,Ap h 4,Ap h 5⟩
theorem Fy {fn:Func}{a:Act}{t:Nat}{x:Value}(h:BlkI w b x y z x' y' z')
 (hres:fn.results=#[.cell t 30]) (ht:a.tmps.getD t undef=.pointer (some ⟨b,0,none⟩)) (hd:a.defers=[]) (hR:R (.returned (.agg #[x,y,z,x',y',z'])) w) :
 bodyPost Tryz.prog fn R .ret a w:=by
 obtain ⟨_,c0,c1,c2,c3,c4,c5⟩:=h.facts;refine bodyPost_ret (v:=.agg #[x,y,z,x',y',z']) ?_ hd hR;have ht2:a.tmps[t]?.getD undef=.pointer (some ⟨b,0,none⟩):=by simpa using ht
 simp [results,hres,ht2,go_sem,c0,c1,c2,c3,c4,c5]
theorem Ci {fn:Func}{a:Act}{t u:Nat}{x:Value}(h:BlkI w b x y z x' y' z')
 (hres:fn.results=#[.cell t 30,.tmp u]) (ht:a.tmps.getD t undef=.pointer (some ⟨b,0,none⟩)) (hd:a.defers=[])
 (hR:R (.returned (.tuple #[.agg #[x,y,z,x',y',z'],a.tmps.getD u undef])) w):bodyPost Tryz.prog fn R .ret a w:=by
 obtain ⟨_,c0,c1,c2,c3,c4,c5⟩:=h.facts;refine bodyPost_ret (v:=.tuple #[.agg #[x,y,z,x',y',z'],a.tmps.getD u undef]) ?_ hd hR;have ht2:a.tmps[t]?.getD undef=.pointer (some ⟨b,0,none⟩):=by simpa using ht
 simp [results,hres,ht2,go_sem,c0,c1,c2,c3,c4,c5]
def RetI (a:RawI) (w:World) (e:Ending) (w':World):Prop:=Kept w w'∧∃ v,e=.returned v∧IvR w' v a
def RetIE (o:Outc RawI) (w:World) (e:Ending) (w':World):Prop:=Kept w w'∧∃ v,e=.returned (.tuple #[v,.int .i64 o.k])∧IvR w' v o.v
theorem Hq (w:World):BlkI (w.alloc (.cells #[.bool false,.slice none 0 0,.int .i64 0,.bool false,.slice none 0 0,.int .i64 0] 30)) w.heap.size (.bool false) (.slice none 0 0) (.int .i64 0) (.bool false) (.slice none 0 0) (.int .i64 0):=heap_alloc_new _ _
theorem Akm (hv:DyR w v r):Calls Tryz.prog 21 #[v] w (RetI ⟨r,r⟩ w):=by
 have hv':=hv;obtain ⟨A,l,c,rfl,hv⟩:=Ay hv;have HV:=hid hv;clear hv hv';have hb1:=Eo (w.alloc (.cells #[.bool r.neg,.slice A l c,.int .i64 r.e] 28)) (.bool r.neg) (.slice A l c) (.int .i64 r.e) (.bool r.neg) (.slice A l c) (.int .i64 r.e);simp only [World.size_alloc] at hb1;have HB:=hid hb1;clear hb1;go_enter Tryz.func21,Tryz.ntmps21;go_wp2_with fail;exact Fy HB.out rfl rfl rfl ⟨(Ad _ _).trans (Ad _ _),_,rfl,_,_,_,_,_,_,rfl,HV.out.kept ((Ad _ _).trans (Ad _ _)),HV.out.kept ((Ad _ _).trans (Ad _ _))⟩
section
variable {P:Program} {ops:Array Oper} {Q:Exit→Act→World→Prop}
theorem Aeb {m:Nat}{V:Nat→Value→World→Prop}{a0:Act}{W:World}
 (hsz:m≤ops.size) (hap:Bs ops m=true) (hin:Cw ops m a0.tmps.size=true) (hbk:Dr .any ops=true)
 (hmono:∀ i v w w',Kept w w'→V i v w→V i v w')
 (hstep:∀ i o,i<m→ops[i]?=some o→∀ a w,Finds .any ops m V a0 W i a w→Bf P ops Q V i o a w)
 (hend:∀ u w,Kept W w→(∀ i,i<m→V i (u i) w)→wpOps P ops Q (List.range' m (ops.size-m)) (Ax ops (fun _=>true) u m a0) w) :
 ∀ (k i:Nat) (u:Nat→Value) (w:World),i+k=m→Kept W w→(∀ j,j<i→V j (u j) w)→wpOps P ops Q (List.range' i (ops.size-i)) (Ax ops (fun j=>decide (j<i)) u m a0) w:=by
 intro k
 induction k with
 | zero =>
   intro i u w hi hk hu;obtain rfl:i=m:=by omega
   have e:Ax ops (fun j=>decide (j<i)) u i a0=Ax ops (fun _=>true) u i a0:=Hw i (fun j hj=>⟨by simp [hj],rfl⟩);rw [e];exact hend u w hk hu
 | succ k ih =>
   intro i u w hi hk hu;have him:i<m:=by omega
   have his:i<ops.size:=by omega
   obtain ⟨r,hr⟩:∃ r,ops.size-i=r+1:=⟨ops.size-i-1,by omega⟩;have hr':ops.size-(i+1)=r:=by omega
   rw [hr,List.range'_succ];have hoi:=Array.getElem?_eq_getElem his;have hback:∀ x y,Bi .any ops x y=true→y<x:=by
    intro x y hxy;unfold Bi at hxy;by_cases hx:x<ops.size
    ·have h1:=Cp hbk x hx;rw [Array.getElem?_eq_getElem hx] at h1 hxy;simp only [Option.map_some,Option.getD_some,Array.all_eq_true',Array.any_eq_true'] at h1 hxy;obtain ⟨e,he,hb⟩:=hxy;simp only [Bool.and_eq_true,beq_iff_eq] at hb;have:=h1 e he;rw [hb.1,hb.2] at this;simpa using this
    ·rw [Array.getElem?_eq_none (by omega)] at hxy;simp at hxy
   have hF:Finds .any ops m V a0 W i (Ax ops (fun j=>decide (j<i)) u m a0) w:=by
    refine ⟨hk,Kb m,fun j t hw hs=>?_,fun t hu0=>?_⟩
    ·have hji:=hback i j hw;have hjm:j<m:=by omega
     have htn:t<a0.tmps.size:=by
      have:=Cp hin j hjm;rw [hs] at this;simpa using this
     rw [Hh (i:=j) htn (by simp [hji]) hs m hjm (fun j' hj' hne=>?_)]
     ·exact hu j hji
     ·have h1:=Cp (Cp hap j hjm) j' hj';rw [hs] at h1;simp only [Bool.or_eq_true,beq_iff_eq,bne_iff_ne] at h1;rcases h1 with (h1 | h1) | h1
      ·exact absurd h1.symm hne
      ·cases h1
      ·exact fun h=>h1 h.symm
    ·refine Hg m (fun j hj hjl hs=>?_);have h1:=Cp hu0 j hj;rw [hs] at h1;simp only [bne_self_eq_false,Bool.false_or,Bool.or_eq_true,beq_iff_eq] at h1;simp only [decide_eq_true_eq] at hjl;rcases h1 with h1 | h1
     ·omega
     ·have:=hback j i h1;omega
   have hs:=hstep i ops[i] him hoi _ w hF;unfold Bf at hs;have hso:(ops[i]).dst=Al ops i:=by unfold Al;rw [hoi];rfl
   have hput:∀ v,(Ax ops (fun j=>decide (j<i)) u m a0).put (ops[i]).dst v=Ax ops (fun j=>decide (j<i+1)) (upd u i v) m a0:=by
    intro v;rw [hso,S0 (S:=fun j=>decide (j<i)) (by simp) m him (fun j hj hne=>?_)]
    ·refine Hw m (fun j _=>⟨?_,rfl⟩);unfold upd;by_cases hj:j=i
     ·rw [if_pos hj];simp;omega
     ·rw [if_neg hj];by_cases h2:j<i
      ·simp [h2];omega
      ·simp [h2];omega
    ·have h1:=Cp (Cp hap i him) j hj;simp only [Bool.or_eq_true,beq_iff_eq,bne_iff_ne] at h1;rcases h1 with (h1 | h1) | h1
     ·exact absurd h1.symm hne
     ·exact .inl h1
     ·exact .inr h1
   have hnext:∀ v w',Kept w w'→V i v w'→wpOps P ops Q (List.range' (i+1) r) ((Ax ops (fun j=>decide (j<i)) u m a0).put (ops[i]).dst v) w':=by
    intro v w' hk' hv;rw [hput];have:=ih (i+1) (upd u i v) w' (by omega) (hk.trans hk') (fun j hj=>by
     unfold upd;by_cases hji:j=i
     ·subst hji;rw [if_pos rfl];exact hv
     ·rw [if_neg hji];exact hmono j _ _ _ hk' (hu j (by omega)))
    rw [hr'] at this;exact this
   unfold wpOps;simp only [hoi];by_cases hw:Region.wanted ops[i] (yielded ops (Ax ops (fun j=>decide (j<i)) u m a0).tmps)=true
   ·rw [if_pos hw] at hs ⊢;refine .inl (Oper.wp_mono (fun a' w' h=>?_) hs);obtain ⟨v,rfl,hk',hv⟩:=h;exact hnext v w' hk' hv
   ·rw [if_neg hw] at hs ⊢;exact hnext undef w (Below.refl _ _) hs
theorem Qp {id m:Nat}{V:Nat→Value→World→Prop}{a0:Act}{W:World}
 (hsz:m≤ops.size) (hap:Bs ops m=true) (hin:Cw ops m a0.tmps.size=true) (hbk:Dr .any ops=true)
 (hmono:∀ i v w w',Kept w w'→V i v w→V i v w')
 (hstep:∀ i o,i<m→ops[i]?=some o→∀ a w,Finds .any ops m V a0 W i a w→Bf P ops Q V i o a w)
 (hend:∀ u w,Kept W w→(∀ i,i<m→V i (u i) w)→wpOps P ops Q (List.range' m (ops.size-m)) (Ax ops (fun _=>true) u m a0) w) :
 (Code.region id ops false).wp P Q a0 W:=by
 refine wp_region ?_;rw [List.range_eq_range'];have h:=Aeb hsz hap hin hbk hmono hstep hend m 0 (fun _=>undef) W (by omega) (Below.refl _ _) (fun j hj=>absurd hj (Nat.not_lt_zero _));have e:∀ n,Ax ops (fun j=>decide (j<0)) (fun _=>undef) n a0=a0:=by
  intro n
  induction n with
  | zero=>rfl
  | succ n ih=>unfold Ax;rw [if_neg (by simp),ih]
 rw [e m,Nat.sub_zero] at h;exact h
theorem Aa9 {id m:Nat}{V:Nat→Value→World→Prop}{a0:Act}{W:World}
 (hsz:m=ops.size) (hap:Bs ops m=true) (hin:Cw ops m a0.tmps.size=true) (hbk:Dr .any ops=true)
 (hmono:∀ i v w w',Kept w w'→V i v w→V i v w')
 (hstep:∀ i o,i<m→ops[i]?=some o→∀ a w,Finds .any ops m V a0 W i a w→Bf P ops Q V i o a w)
 (hend:∀ u w,Kept W w→(∀ i,i<m→V i (u i) w)→Q .normal (Ax ops (fun _=>true) u m a0) w) :
 (Code.region id ops false).wp P Q a0 W:=by
 refine Qp (by omega) hap hin hbk hmono hstep (fun u w k hu=>?_);have:ops.size-m=0:=by omega
 rw [this];exact hend u w k hu
theorem Qv {i:Nat}{o:Oper}{a:Act}{w:World}{rest:List Nat}(ho:ops[i]?=some o)(hg:o.guard=none)(h:o.wp P a w (fun a w=>wpOps P ops Q rest a w) Q):wpOps P ops Q (i::rest) a w:=by
 unfold wpOps;simp only [ho];have:Region.wanted o (yielded ops a.tmps)=true:=by simp [Region.wanted,hg]
 rw [if_pos this];exact .inl h
theorem Y5 {id m:Nat}{V:Nat→Value→World→Prop}{a0:Act}{W:World}{o:Oper}
 (hsz:m+1=ops.size) (ho:ops[m]?=some o) (hg:o.guard=none) (hap:Bs ops m=true) (hin:Cw ops m a0.tmps.size=true) (hbk:Dr .any ops=true)
 (hmono:∀ i v w w',Kept w w'→V i v w→V i v w')
 (hstep:∀ i o,i<m→ops[i]?=some o→∀ a w,Finds .any ops m V a0 W i a w→Bf P ops Q V i o a w)
 (hend:∀ u w,Kept W w→(∀ i,i<m→V i (u i) w)→o.wp P (Ax ops (fun _=>true) u m a0) w (Q .normal) Q) :
 (Code.region id ops false).wp P Q a0 W:=by
 refine Qp (by omega) hap hin hbk hmono hstep (fun u w k hu=>?_);have:ops.size-m=0+1:=by omega
 rw [this,List.range'_succ];exact Qv ho hg (hend u w k hu)
theorem Y6 {id m:Nat}{V:Nat→Value→World→Prop}{a0:Act}{W:World}{o o':Oper}
 (hsz:m+2=ops.size) (ho:ops[m]?=some o) (hg:o.guard=none) (ho':ops[m+1]?=some o') (hg':o'.guard=none) (hap:Bs ops m=true) (hin:Cw ops m a0.tmps.size=true) (hbk:Dr .any ops=true)
 (hmono:∀ i v w w',Kept w w'→V i v w→V i v w')
 (hstep:∀ i o,i<m→ops[i]?=some o→∀ a w,Finds .any ops m V a0 W i a w→Bf P ops Q V i o a w)
 (hend:∀ u w,Kept W w→(∀ i,i<m→V i (u i) w)→o.wp P (Ax ops (fun _=>true) u m a0) w (fun a w=>o'.wp P a w (Q .normal) Q) Q) :
 (Code.region id ops false).wp P Q a0 W:=by
 refine Qp (by omega) hap hin hbk hmono hstep (fun u w k hu=>?_);have:ops.size-m=1+1:=by omega
 rw [this,List.range'_succ];refine Qv ho hg (Oper.wp_mono (fun a w h=>?_) (hend u w k hu));rw [List.range'_succ];exact Qv ho' hg' h
theorem rS {id:Nat}{a0:Act}{W:World}(m:Nat)(l:List (Value→World→Prop))(hs:Jc P .any ops Q m (VL l) a0 W 0 m ops.toList)(he:∀ u w,Kept W w→(∀ i,i<m→VL l i (u i) w)→Q .normal (Ax ops (fun _=>true) u m a0) w)(hM:Nonempty (Jm l):=by infer_instance)
 (hz:m=ops.size:=by exact rfl) (ha:Bs ops m=true:=by kernel_rfl) (hi:Cw ops m a0.tmps.size=true:=by kernel_rfl) (hb:Dr .any ops=true:=by kernel_rfl):(Code.region id ops false).wp P Q a0 W :=
 Aa9 hz ha hi hb (Io l (F5 hM)) (K8 hs) he
theorem rS1 {id:Nat}{a0:Act}{W:World}{o:Oper}(m:Nat)(l:List (Value→World→Prop))(hs:Jc P .any ops Q m (VL l) a0 W 0 m ops.toList)(he:∀ u w,Kept W w→(∀ i,i<m→VL l i (u i) w)→o.wp P (Ax ops (fun _=>true) u m a0) w (Q .normal) Q)(hM:Nonempty (Jm l):=by infer_instance)
 (hz:m+1=ops.size:=by exact rfl) (ho:ops[m]?=some o:=by exact rfl) (hg:o.guard=none:=by exact rfl) (ha:Bs ops m=true:=by kernel_rfl) (hi:Cw ops m a0.tmps.size=true:=by kernel_rfl)
 (hb:Dr .any ops=true:=by kernel_rfl):(Code.region id ops false).wp P Q a0 W :=
 Y5 hz ho hg ha hi hb (Io l (F5 hM)) (K8 hs) he
theorem rS2 {id:Nat}{a0:Act}{W:World}{o o':Oper}(m:Nat)(l:List (Value→World→Prop))(hs:Jc P .any ops Q m (VL l) a0 W 0 m ops.toList)(he:∀ u w,Kept W w→(∀ i,i<m→VL l i (u i) w)→o.wp P (Ax ops (fun _=>true) u m a0) w (fun a w=>o'.wp P a w (Q .normal) Q) Q)(hM:Nonempty (Jm l):=by infer_instance)
 (hz:m+2=ops.size:=by exact rfl) (ho:ops[m]?=some o:=by exact rfl) (hg:o.guard=none:=by exact rfl) (ho':ops[m+1]?=some o':=by exact rfl) (hg':o'.guard=none:=by exact rfl) (ha:Bs ops m=true:=by kernel_rfl) (hi:Cw ops m a0.tmps.size=true:=by kernel_rfl)
 (hb:Dr .any ops=true:=by kernel_rfl):(Code.region id ops false).wp P Q a0 W :=
 Y6 hz ho hg ho' hg' ha hi hb (Io l (F5 hM)) (K8 hs) he
end
theorem RetIE.good {o:Outc RawI}(h:RetIE o w e w'):Fk (fun u w=>∃ d,u=.tuple #[d,.int .i64 o.k]∧IvR w d o.v) w e w':=by
 obtain ⟨k,v,he,hl⟩:=h;exact ⟨_,he,k,v,rfl,hl⟩
theorem RetI.good {a:RawI}(h:RetI a w e w'):Fk (fun u w=>IvR w u a) w e w':=by
 obtain ⟨k,v,he,hl⟩:=h;exact ⟨v,he,k,hl⟩
section
variable {P:Program} {ops:Array Oper} {Q:Exit→Act→World→Prop} {i:Nat} {a:Act} {w:World} {V:Nat→Value→World→Prop} {o:Oper} {f:FuncId} {args:Array Value}
theorem sI {x:RawI}(hc:Calls P f args w (RetI x w))(hp:∀ v w',IvR w' v x→V i v w')(hw:Region.wanted o (yielded ops a.tmps)=true:=by simp [Region.wanted])(h:(execOp a.eval o).run P w=.ok (.enter f args) w:=by go_simp):Bf P ops Q V i o a w :=
 Av hw h hc (fun _ _ h=>RetI.good h) hp
theorem sP {x:Outc RawI}(hc:Calls P f args w (RetIE x w))(hp:∀ v w',(∃ d,v=.tuple #[d,.int .i64 x.k]∧IvR w' d x.v)→V i v w')(hw:Region.wanted o (yielded ops a.tmps)=true:=by simp [Region.wanted])(h:(execOp a.eval o).run P w=.ok (.enter f args) w:=by go_simp):Bf P ops Q V i o a w :=
 Av hw h hc (fun _ _ h=>RetIE.good h) hp
end
section
variable {P:Program} {ops:Array Oper} {Q:Exit→Act→World→Prop}
theorem Ahf {V V1:Nat→Value→World→Prop}{i:Nat}{o:Oper}{a:Act}{w:World}(h:Bf P ops Q V1 i o a w)(hi:∀ v w',V1 i v w'→V i v w'):Bf P ops Q V i o a w:=by
 unfold Bf at *;by_cases hw:Region.wanted o (yielded ops a.tmps)=true
 ·rw [if_pos hw] at h ⊢;exact Oper.wp_mono (fun a' w' ⟨v,h1,h2,h3⟩=>⟨v,h1,h2,hi v w' h3⟩) h
 ·rw [if_neg hw] at h ⊢;exact hi _ _ h
theorem sOc {V:Nat→Value→World→Prop}{i:Nat}{o:Oper}{a:Act}{w:World}{g t:Nat}{b v:Bool}(hg:o.guard=some (g,b))(hs:Al ops g=some t)(sg:a.tmps.getD t undef=.bool v)(hb:(v==b)=false)(hv:V i undef w):Bf P ops Q V i o a w:=Zi ((Aj hg hs sg).trans hb) hv
theorem sVc {V:Nat→Value→World→Prop}{i:Nat}{o:Oper}{a:Act}{w:World}{x:Value}{g t:Nat}{b v:Bool}(hg:o.guard=some (g,b))(hs:Al ops g=some t)(sg:a.tmps.getD t undef=.bool v)(hb:(v==b)=true)(hv:V i x w:=by exact rfl)(h:(execOp a.eval o).run P w=.ok (.value x) w:=by go_simp):Bf P ops Q V i o a w:=Ar ((Aj hg hs sg).trans hb) h hv
instance iCond {C:Bool} {p:Value→World→Prop} [h:Nonempty (Ke p)]:Nonempty (Ke fun v w=>(C=true→p v w)∧(C=false→v=undef)):=⟨fun v w w' k q=>⟨fun e=>F5 h v w w' k (q.1 e),q.2⟩⟩
theorem nW {C:Bool}{q:Prop}(h:C=false):(C=true→q)∧(C=false→undef=undef):=⟨fun e=>absurd (h.symm.trans e) (by decide),fun _=>rfl⟩
theorem sIm {V:Nat→Value→World→Prop}{i:Nat}{o:Oper}{a:Act}{w:World}{C:Bool}(hC:C=true)(p:Value→World→Prop)(h:Bf P ops Q (fun _=>p) i o a w)(e:∀ v w',((C=true→p v w')→(C=false→v=undef)→V i v w'):=by exact fun _ _ a b=>⟨a,b⟩):Bf P ops Q V i o a w :=
 Ahf h fun v w' q=>e v w' (fun _=>q) (fun n=>absurd (hC.symm.trans n) (by decide))
end
theorem Dg.len_bl (n:Nat):(Dg.limbs n).length≤bl n:=by
 rw [Dg.length_limbs];unfold bl;split<;>omega
theorem Dg.box_nn (w:World)(x y z p q r:Value):∃ W,W=(w.alloc (.cells #[x,y,z] 123)).alloc (.cells #[p,q,r] 123) ∧
 Kept w W∧Dg.Blk W w.heap.size x y z∧Dg.Blk W (w.heap.size+1) p q r:=by
 refine ⟨_,rfl,(Ad _ _).trans (Ad _ _),(Dg.blk_new _ _ _ _).kept (Ad _ _),?_⟩;have:=Dg.blk_new (w.alloc (.cells #[x,y,z] 123)) p q r;simpa using this
theorem Ajo {y:Dy}(ha:Dg.DN w va x.neg x.m x.e)(hb:Dg.DN w vb y.neg y.m y.e)(hx:x.Ok)(hy:y.Ok)(hx0:x.m≠0)(hy0:y.m≠0) :
 Calls Tryz.prog 110 #[va,vb] w (RetK (.int .i64 (Gl x y)) w):=by
 obtain ⟨A,l,c,rfl,ha⟩:=ha;obtain ⟨A2,l2,c2,rfl,hb⟩:=hb;have bx:=Cq x.m 64 hx.len;have bY:=Cq y.m 64 hy.len;have lx:=Dg.len_bl x.m;have ly:=Dg.len_bl y.m;have hs1:=fun w1 (k:Kept w w1)=>Dg.bits_c (ha.kept k) (by omega)
 have hs2:=fun w1 (k:Kept w w1)=>Dg.bits_c (hb.kept k) (by omega)
 have x1:=hx.lo;have x2:=hx.hi;have y1:=hy.lo;have y2:=hy.hi;obtain ⟨j1,hj1⟩:∃ j:Nat,x.e-min x.e y.e=j:=⟨(x.e-min x.e y.e).toNat,by omega⟩;obtain ⟨j2,hj2⟩:∃ j:Nat,y.e-min x.e y.e=j:=⟨(y.e-min x.e y.e).toNat,by omega⟩;have b1:j1≤2097152:=by omega
 have b2:j2≤2097152:=by omega
 have hl1:=fun w1 (k:Kept w w1)=>Dg.shl_c (ha.kept k) j1 (by omega) (by omega)
 have hl2:=fun w1 (k:Kept w w1)=>Dg.shl_c (hb.kept k) j2 (by omega) (by omega)
 have kx:(Dg.limbs (x.m*2^j1)).length≤40000000:=by have:=Dg.len_bl (x.m*2^j1);rw [Fq _ _ hx0] at this;omega
 have ky:(Dg.limbs (y.m*2^j2)).length≤40000000:=by have:=Dg.len_bl (y.m*2^j2);rw [Fq _ _ hy0] at this;omega
 have ho:=fun w1 v u (h1:Dg.Lim w1 v (Dg.limbs (x.m*2^j1))) (h2:Dg.Lim w1 u (Dg.limbs (y.m*2^j2)))=>Dg.cmp_c h1 h2 (by omega) (by omega)
 have hwx:IntKind.i64.wrap ((bl x.m:Int)+x.e)=(bl x.m:Int)+x.e:=by simp [IntKind.wrap_i64];omega
 have hwy:IntKind.i64.wrap ((bl y.m:Int)+y.e)=(bl y.m:Int)+y.e:=by simp [IntKind.wrap_i64];omega
 have hw1:IntKind.i64.wrap (x.e-min x.e y.e)=(j1:Int):=by rw [hj1];simp [IntKind.wrap_i64];omega
 have hw2:IntKind.i64.wrap (y.e-min x.e y.e)=(j2:Int):=by rw [hj2];simp [IntKind.wrap_i64];omega
 have hD:Gl x y=if (bl x.m:Int)+x.e<bl y.m+y.e then -1 else if (bl y.m:Int)+y.e<bl x.m+x.e then 1 else Du (x.m*2^j1) (y.m*2^j2):=by
  unfold Gl;rw [hj1,hj2];rfl
 have HD:=hid hD;have H1:=hid hs1;have H2:=hid hs2;have L1:=hid hl1;have L2:=hid hl2;have HO:=hid ho;clear hD hs1 hs2 hl1 hl2 ho lx ly kx ky ha hb bx bY x1 x2 y1 y2 hx hy hx0 hy0 b1 b2 hj1 hj2;generalize Dg.limbs (x.m*2^j1)=xs at *;generalize Dg.limbs (y.m*2^j2)=ys at *;generalize Du (x.m*2^j1) (y.m*2^j2)=cc at *;obtain ⟨sx,hsx⟩:∃ sx,(bl x.m:Int)+x.e=sx:=⟨_,rfl⟩;obtain ⟨sy,hsy⟩:∃ sy,(bl y.m:Int)+y.e=sy:=⟨_,rfl⟩;rw [hsx,hsy] at HD;rw [hsx] at hwx;rw [hsy] at hwy;have HX:=hid hsx;have HY:=hid hsy;clear hsx hsy;obtain ⟨lo,hlo⟩:∃ lo,min x.e y.e=lo:=⟨_,rfl⟩;rw [hlo] at hw1 hw2;have HL:=hid hlo;clear hlo
 generalize bl x.m=bx at *;generalize bl y.m=bY at *;have hsz:=HD.out;generalize Gl x y=res at *;generalize x.neg=n1,x.e=e1,y.neg=n2,y.e=e2 at *;clear HD;obtain ⟨W,hW,kW,B0,B1⟩:=Dg.box_nn w (.bool n1) (.slice A l c) (.int .i64 e1) (.bool n2) (.slice A2 l2 c2) (.int .i64 e2);have HW:=hid hW;have HK:=hid kW;have HB0:=hid B0;have HB1':=hid B1;clear hW kW B0 B1;by_cases h1:sx<sy
 ·rw [if_pos h1] at hsz;subst hsz;have d1:decide (sx<sy)=true:=by simp [h1]
  have d0:(sx != sy)=true:=by simp;omega
  clear h1;go_enter Tryz.func110,Tryz.ntmps110;go_wp2_with fail;rw [←HW.out]
  refine rgL 14 ([(vP w.heap.size 1),(vE (.slice A l c)),(vE (.int .i64 bx)),(vP w.heap.size 2),(vE (.int .i64 e1)),(vE (.int .i64 sx)),(vP (w.heap.size+1) 1),(vE (.slice A2 l2 c2)),(vE (.int .i64 bY)),(vP (w.heap.size+1) 2),(vE (.int .i64 e2)),(vE (.int .i64 sy)),(vE (.int .i64 sx)),(vE (.int .i64 sy))])
   ⟨
    (gq 2),(gvl 0 8 fun _ k=>Ai HB0.out k 1 _ rfl),(fun aF wF F=>by have s9:=F.v 1 9;exact sQ (H1.out _ (HK.out.trans F.kept)) fun _ _ h=>h),(gq 2),(gvl 3 11 fun _ k=>Ai HB0.out k 2 _ rfl),(fun aF wF F=>by have s10:=F.v 2 10;have s12:=F.v 4 12;exact sw (by have:=HX.out;go_simp) rfl),(gq 3),(gvl 6 14 fun _ k=>Ai HB1'.out k 1 _ rfl),(fun aF wF F=>by have s15:=F.v 7 15;exact sQ (H2.out _ (HK.out.trans F.kept)) fun _ _ h=>h),(gq 3),(gvl 9 17 fun _ k=>Ai HB1'.out k 2 _ rfl),(fun aF wF F=>by have s16:=F.v 8 16;have s18:=F.v 10 18;exact sw (by have:=HY.out;go_simp) rfl),(gv 5 13),(gv 11 19),
    trivial⟩ ?_
  intro u w1 k1 hu;simp only [Ax,Al,if_true,Act.put,zlA,zlB,zlC,zlD,zlE,zlF,zlG,hv hu 0,hv hu 1,hv hu 2,hv hu 3,hv hu 4,hv hu 5,hv hu 6,hv hu 7,hv hu 8,hv hu 9,hv hu 10,hv hu 11,hv hu 12,hv hu 13];clear hu;go_wp2_with fail;go_ret;exact ⟨rfl,HK.out.trans k1⟩
 ·rw [if_neg h1] at hsz;have d1:decide (sx<sy)=false:=by simp;omega
  by_cases h2:sy<sx
  ·rw [if_pos h2] at hsz;subst hsz;have d0:(sx != sy)=true:=by simp;omega
   clear h1 h2;go_enter Tryz.func110,Tryz.ntmps110;go_wp2_with fail;rw [←HW.out]
   refine rgL 14 ([(vP w.heap.size 1),(vE (.slice A l c)),(vE (.int .i64 bx)),(vP w.heap.size 2),(vE (.int .i64 e1)),(vE (.int .i64 sx)),(vP (w.heap.size+1) 1),(vE (.slice A2 l2 c2)),(vE (.int .i64 bY)),(vP (w.heap.size+1) 2),(vE (.int .i64 e2)),(vE (.int .i64 sy)),(vE (.int .i64 sx)),(vE (.int .i64 sy))])
    ⟨
     (gq 2),(gvl 0 8 fun _ k=>Ai HB0.out k 1 _ rfl),(fun aF wF F=>by have s9:=F.v 1 9;exact sQ (H1.out _ (HK.out.trans F.kept)) fun _ _ h=>h),(gq 2),(gvl 3 11 fun _ k=>Ai HB0.out k 2 _ rfl),(fun aF wF F=>by have s10:=F.v 2 10;have s12:=F.v 4 12;exact sw (by have:=HX.out;go_simp) rfl),(gq 3),(gvl 6 14 fun _ k=>Ai HB1'.out k 1 _ rfl),(fun aF wF F=>by have s15:=F.v 7 15;exact sQ (H2.out _ (HK.out.trans F.kept)) fun _ _ h=>h),(gq 3),(gvl 9 17 fun _ k=>Ai HB1'.out k 2 _ rfl),(fun aF wF F=>by have s16:=F.v 8 16;have s18:=F.v 10 18;exact sw (by have:=HY.out;go_simp) rfl),(gv 5 13),(gv 11 19),
     trivial⟩ ?_
   intro u w1 k1 hu;simp only [Ax,Al,if_true,Act.put,zlA,zlB,zlC,zlD,zlE,zlF,zlG,hv hu 0,hv hu 1,hv hu 2,hv hu 3,hv hu 4,hv hu 5,hv hu 6,hv hu 7,hv hu 8,hv hu 9,hv hu 10,hv hu 11,hv hu 12,hv hu 13];clear hu;go_wp2_with fail;go_ret;exact ⟨rfl,HK.out.trans k1⟩
  ·rw [if_neg h2] at hsz;subst hsz;have d0:(sx != sy)=false:=by simp;omega
   clear h1 h2;go_enter Tryz.func110,Tryz.ntmps110;go_wp2_with fail;rw [←HW.out]
   refine rgL 14 ([(vP w.heap.size 1),(vE (.slice A l c)),(vE (.int .i64 bx)),(vP w.heap.size 2),(vE (.int .i64 e1)),(vE (.int .i64 sx)),(vP (w.heap.size+1) 1),(vE (.slice A2 l2 c2)),(vE (.int .i64 bY)),(vP (w.heap.size+1) 2),(vE (.int .i64 e2)),(vE (.int .i64 sy)),(vE (.int .i64 sx)),(vE (.int .i64 sy))])
    ⟨
     (gq 2),(gvl 0 8 fun _ k=>Ai HB0.out k 1 _ rfl),(fun aF wF F=>by have s9:=F.v 1 9;exact sQ (H1.out _ (HK.out.trans F.kept)) fun _ _ h=>h),(gq 2),(gvl 3 11 fun _ k=>Ai HB0.out k 2 _ rfl),(fun aF wF F=>by have s10:=F.v 2 10;have s12:=F.v 4 12;exact sw (by have:=HX.out;go_simp) rfl),(gq 3),(gvl 6 14 fun _ k=>Ai HB1'.out k 1 _ rfl),(fun aF wF F=>by have s15:=F.v 7 15;exact sQ (H2.out _ (HK.out.trans F.kept)) fun _ _ h=>h),(gq 3),(gvl 9 17 fun _ k=>Ai HB1'.out k 2 _ rfl),(fun aF wF F=>by have s16:=F.v 8 16;have s18:=F.v 10 18;exact sw (by have:=HY.out;go_simp) rfl),(gv 5 13),(gv 11 19),
     trivial⟩ ?_
   intro u w1 k1 hu;simp only [Ax,Al,if_true,Act.put,zlA,zlB,zlC,zlD,zlE,zlF,zlG,hv hu 0,hv hu 1,hv hu 2,hv hu 3,hv hu 4,hv hu 5,hv hu 6,hv hu 7,hv hu 8,hv hu 9,hv hu 10,hv hu 11,hv hu 12,hv hu 13];clear hu;obtain ⟨-,a0,a1,a2,-⟩:=(HB0.out.kept k1).facts;obtain ⟨-,b0,b1,b2,-⟩:=(HB1'.out.kept k1).facts;go_wp2_with fail;rw [HL.out];have K1:=hid k1;clear a0 a1 a2 b0 b1 b2 k1 hwx hwy d1 d0
   refine rgL 16 ([(vP w.heap.size 1),(vE (.slice A l c)),(vP w.heap.size 2),(vE (.int .i64 e1)),(vE (.int .i64 lo)),(vE (.int .i64 j1)),(fun v wv=>Dg.Lim wv v xs),(vP (w.heap.size+1) 1),(vE (.slice A2 l2 c2)),(vP (w.heap.size+1) 2),(vE (.int .i64 e2)),(vE (.int .i64 lo)),(vE (.int .i64 j2)),(fun v wv=>Dg.Lim wv v ys),(vE (.int .i64 res)),(vE (.int .i64 res))])
    (hM:=⟨⟨mE,mE,mE,mE,mE,mE,fun v w w' k h=>by first | exact h | exact h.kept k | exact ⟨h.1,h.2.kept k⟩,mE,mE,mE,mE,mE,mE,fun v w w' k h=>by first | exact h | exact h.kept k | exact ⟨h.1,h.2.kept k⟩,mE,mE,trivial⟩⟩) ⟨
      (gq 2),(gvl 0 31 fun _ k=>Ai (HB0.out.kept K1.out) k 1 _ rfl),(gq 2),(gvl 2 33 fun _ k=>Ai (HB0.out.kept K1.out) k 2 _ rfl),(gq 7),(gvv 3 34 4 35),(fun aF wF F=>by have s32:=F.v 1 32;have s36:=F.v 5 36;exact Av (by simp [Region.wanted]) (by go_simp) (L1.out _ (HK.out.trans (K1.out.trans F.kept))) (fun _ _ h=>Dg.RetLim.good h) (fun _ _ h=>h)),(gq 3),(gvl 7 38 fun _ k=>Ai (HB1'.out.kept K1.out) k 1 _ rfl),(gq 3),(gvl 9 40 fun _ k=>Ai (HB1'.out.kept K1.out) k 2 _ rfl),(gq 7),(gvv 10 41 11 42),(fun aF wF F=>by have s39:=F.v 8 39;have s43:=F.v 12 43;exact Av (by simp [Region.wanted]) (by go_simp) (L2.out _ (HK.out.trans (K1.out.trans F.kept))) (fun _ _ h=>Dg.RetLim.good h) (fun _ _ h=>h)),(fun aF wF F=>by have s37:=F.p 6 37;have s44:=F.p 13 44;exact sQ (HO.out _ _ _ s37 s44) fun _ _ h=>h),(gv 14 45),
      trivial⟩ ?_
   intro u w1 k1 hu;have p37:=hp hu 6;have p44:=hp hu 13;simp only [Ax,Al,if_true,Act.put,zlA,zlB,zlC,zlD,zlE,zlF,zlG,hv hu 0,hv hu 1,hv hu 2,hv hu 3,hv hu 4,hv hu 5,hv hu 7,hv hu 8,hv hu 9,hv hu 10,hv hu 11,hv hu 12,hv hu 14,hv hu 15];clear hu;generalize u 6=v37,u 13=v44 at *;clear p37 p44;go_wp2_with fail;go_ret;exact ⟨rfl,HK.out.trans (K1.out.trans k1)⟩
theorem Agy {y:Dy}(ha:DyR w va x.raw)(hb:DyR w vb y.raw)(hx:x.Ok)(hy:y.Ok) :
 Calls Tryz.prog 75 #[va,vb] w (RetK (.int .i64 (Cg x.q y.q)) w):=by
 have lx:=Ds hx;have ly:=Ds hy;have s1:=fun w1 (k:Kept w w1)=>Acp (ha.kept k) (by omega)
 have s2:=fun w1 (k:Kept w w1)=>Acp (hb.kept k) (by omega)
 have m1:=fun w1 (k:Kept w w1)=>S6 (ha.kept k) (by omega)
 have m2:=fun w1 (k:Kept w w1)=>S6 (hb.kept k) (by omega)
 have o1:=fun w1 (k:Kept w w1)=>Dg.of_c (ha.kept k) (by omega)
 have o2:=fun w1 (k:Kept w w1)=>Dg.of_c (hb.kept k) (by omega)
 have hsz:=fun w1 v u (hv:Dg.DN w1 v x.neg x.m x.e) (hu:Dg.DN w1 u y.neg y.m y.e) (h1:x.m≠0) (h2:y.m≠0)=>Ajo hv hu hx hy h1 h2
 rw [show Go.Proofs.YtabjjdicffcolaaGreatDoor.val x.raw.m=x.m from Bn _] at o1;rw [show Go.Proofs.YtabjjdicffcolaaGreatDoor.val y.raw.m=y.m from Bn _] at o2;rw [M4 x hx] at s1;rw [M4 y hy] at s2;rw [hx.may] at m1;rw [hy.may] at m2;have g1:=@Z9 x y;have g2:=@Ae9 x y;have g3:=@Xg x y;have c1:=I0 x;have c2:=I0 y;have z1:sg x≠0→x.m≠0:=fun h h0=>h (by unfold sg;rw [if_pos h0])
 have z2:sg y≠0→y.m≠0:=fun h h0=>h (by unfold sg;rw [if_pos h0])
 have hsr:Gl x y=-1∨Gl x y=0∨Gl x y=1:=by
  unfold Gl Du;split
  ·exact .inl rfl
  ·split
   ·exact .inr (.inr rfl)
   ·split
    ·exact .inl rfl
    ·split
     ·exact .inr (.inl rfl)
     ·exact .inr (.inr rfl)
 obtain ⟨A,l,c,rfl,-,ha,-,-⟩:=ha.shape;obtain ⟨A2,l2,c2',rfl,-,hb,-,-⟩:=hb.shape;have S1:=hid s1;have S2:=hid s2;have M1:=hid m1;have M2:=hid m2;have O1:=hid o1;have O2:=hid o2;have HZ:=hid hsz;have G1:=hid g1;have G2:=hid g2;have G3:=hid g3;have Z1:=hid z1;have Z2:=hid z2;have C1:=hid c1;have C2:=hid c2;have HR:=hid hsr;clear s1 s2 m1 m2 o1 o2 hsz g1 g2 g3 z1 z2 c1 c2 hsr ha hb lx ly hx hy;generalize Cg x.q y.q=res at *;simp only [Dy.raw] at *;generalize x.neg=n1,x.e=e1,y.neg=n2,y.e=e2 at *;generalize Gl x y=zz at *;generalize sg x=g at *;generalize sg y=g' at *
 generalize x.m=nx,y.m=ny at *;obtain ⟨W,hW,kW,B0,B1⟩:=P8 w (.bool n1) (.slice A l c) (.int .i64 e1) (.bool n2) (.slice A2 l2 c2') (.int .i64 e2);have HW:=hid hW;have HK:=hid kW;have HB0:=hid B0;have HB1':=hid B1;clear hW kW B0 B1;by_cases h1:g<g'
 ·have hr:=G1.out h1;subst hr;have d1:(g != g')=true:=by simp;omega
  have d2:decide (g<g')=true:=by simp [h1]
  clear h1;go_enter Tryz.func75,Tryz.ntmps75;go_upto_region 1 with fail;rw [←HW.out];obtain ⟨-,a0,a1,a2,-⟩:=HB0.out.facts;obtain ⟨-,b0,b1,b2,-⟩:=HB1'.out.facts;go_wp2_with fail;refine (M1.out _ HK.out).mono ?_;rintro e w2 ⟨rfl,q⟩;have KX:=hid q;clear a0 a1 a2 b0 b1 b2 q;obtain ⟨-,a0,a1,a2,-⟩:=(HB0.out.kept KX.out).facts;obtain ⟨-,b0,b1,b2,-⟩:=(HB1'.out.kept KX.out).facts;simp only [];go_wp2_with fail;refine (M2.out _ (HK.out.trans KX.out)).mono ?_;rintro e w3 ⟨rfl,q⟩;replace KX:=hid (KX.out.trans q);clear a0 a1 a2 b0 b1 b2 q;simp only [];go_wp2_with fail
  refine rgL 6 ([(vE (.agg #[.bool n1,.slice A l c,.int .i64 e1])),(vE (.int .i64 g)),(vE (.agg #[.bool n2,.slice A2 l2 c2',.int .i64 e2])),(vE (.int .i64 g')),(vE (.int .i64 g)),(vE (.int .i64 g'))])
   ⟨
    (gql 2 fun _ k=>c3 (HB0.out.kept KX.out) k),(fun aF wF F=>by have s15:=F.v 0 15;exact sK (S1.out _ (HK.out.trans (KX.out.trans F.kept))) fun _ _ h=>h),(gql 3 fun _ k=>c3 (HB1'.out.kept KX.out) k),(fun aF wF F=>by have s17:=F.v 2 17;exact sK (S2.out _ (HK.out.trans (KX.out.trans F.kept))) fun _ _ h=>h),(gv 1 16),(gv 3 18),
    trivial⟩ ?_
  intro u w1 k1 hu;simp only [Ax,Al,if_true,Act.put,zlA,zlB,zlC,zlD,zlE,zlF,zlG,hv hu 0,hv hu 1,hv hu 2,hv hu 3,hv hu 4,hv hu 5];clear hu;replace KX:=hid (KX.out.trans k1);clear k1 u;obtain ⟨-,a0,a1,a2,-⟩:=(HB0.out.kept KX.out).facts;obtain ⟨-,b0,b1,b2,-⟩:=(HB1'.out.kept KX.out).facts;go_wp2_with fail;go_ret;exact ⟨rfl,HK.out.trans KX.out⟩
 ·have d2:decide (g<g')=false:=by simp;omega
  by_cases h2:g=g'
  ·have hr:=G3.out h2;obtain rfl:=h2;have d1:(g != g)=false:=by simp
   have d4:decide (g<g)=false:=by simp
   by_cases h3:g=0
   ·rw [if_pos h3] at hr;subst hr;have d3:(g==0)=true:=by rw [beq_iff_eq];exact h3
    clear h1 h3;go_enter Tryz.func75,Tryz.ntmps75;go_upto_region 1 with fail;rw [←HW.out];obtain ⟨-,a0,a1,a2,-⟩:=HB0.out.facts;obtain ⟨-,b0,b1,b2,-⟩:=HB1'.out.facts;go_wp2_with fail;refine (M1.out _ HK.out).mono ?_;rintro e w2 ⟨rfl,q⟩;have KX:=hid q;clear a0 a1 a2 b0 b1 b2 q;obtain ⟨-,a0,a1,a2,-⟩:=(HB0.out.kept KX.out).facts;obtain ⟨-,b0,b1,b2,-⟩:=(HB1'.out.kept KX.out).facts;simp only [];go_wp2_with fail;refine (M2.out _ (HK.out.trans KX.out)).mono ?_;rintro e w3 ⟨rfl,q⟩;replace KX:=hid (KX.out.trans q);clear a0 a1 a2 b0 b1 b2 q;simp only [];go_wp2_with fail
    refine rgL 6 ([(vE (.agg #[.bool n1,.slice A l c,.int .i64 e1])),(vE (.int .i64 g)),(vE (.agg #[.bool n2,.slice A2 l2 c2',.int .i64 e2])),(vE (.int .i64 g)),(vE (.int .i64 g)),(vE (.int .i64 g))])
     ⟨
      (gql 2 fun _ k=>c3 (HB0.out.kept KX.out) k),(fun aF wF F=>by have s15:=F.v 0 15;exact sK (S1.out _ (HK.out.trans (KX.out.trans F.kept))) fun _ _ h=>h),(gql 3 fun _ k=>c3 (HB1'.out.kept KX.out) k),(fun aF wF F=>by have s17:=F.v 2 17;exact sK (S2.out _ (HK.out.trans (KX.out.trans F.kept))) fun _ _ h=>h),(gv 1 16),(gv 3 18),
      trivial⟩ ?_
    intro u w1 k1 hu;simp only [Ax,Al,if_true,Act.put,zlA,zlB,zlC,zlD,zlE,zlF,zlG,hv hu 0,hv hu 1,hv hu 2,hv hu 3,hv hu 4,hv hu 5];clear hu;replace KX:=hid (KX.out.trans k1);clear k1 u;obtain ⟨-,a0,a1,a2,-⟩:=(HB0.out.kept KX.out).facts;obtain ⟨-,b0,b1,b2,-⟩:=(HB1'.out.kept KX.out).facts;go_wp2_with fail;go_ret;exact ⟨rfl,HK.out.trans KX.out⟩
   ·rw [if_neg h3] at hr;subst hr;have d3:(g==0)=false:=by rw [beq_eq_false_iff_ne];exact h3
    have hz:=fun w1 v u hv hu=>HZ.out w1 v u hv hu (Z1.out h3) (Z2.out h3)
    have hw:IntKind.i64.wrap (g*zz)=g*zz:=by
     rcases C1.out with h | h | h<;>rcases HR.out with h' | h' | h'<;>rw [h,h']<;>first | rfl | decide
    clear HZ;have HZ:=hid hz;have HWW:=hid hw;clear h1 h3 hz hw;go_enter Tryz.func75,Tryz.ntmps75;go_upto_region 1 with fail;rw [←HW.out];obtain ⟨-,a0,a1,a2,-⟩:=HB0.out.facts;obtain ⟨-,b0,b1,b2,-⟩:=HB1'.out.facts;go_wp2_with fail;refine (M1.out _ HK.out).mono ?_;rintro e w2 ⟨rfl,q⟩;have KX:=hid q;clear a0 a1 a2 b0 b1 b2 q;obtain ⟨-,a0,a1,a2,-⟩:=(HB0.out.kept KX.out).facts;obtain ⟨-,b0,b1,b2,-⟩:=(HB1'.out.kept KX.out).facts;simp only [];go_wp2_with fail;refine (M2.out _ (HK.out.trans KX.out)).mono ?_;rintro e w3 ⟨rfl,q⟩;replace KX:=hid (KX.out.trans q);clear a0 a1 a2 b0 b1 b2 q;simp only [];go_wp2_with fail
    refine rgL 6 ([(vE (.agg #[.bool n1,.slice A l c,.int .i64 e1])),(vE (.int .i64 g)),(vE (.agg #[.bool n2,.slice A2 l2 c2',.int .i64 e2])),(vE (.int .i64 g)),(vE (.int .i64 g)),(vE (.int .i64 g))])
     ⟨
      (gql 2 fun _ k=>c3 (HB0.out.kept KX.out) k),(fun aF wF F=>by have s15:=F.v 0 15;exact sK (S1.out _ (HK.out.trans (KX.out.trans F.kept))) fun _ _ h=>h),(gql 3 fun _ k=>c3 (HB1'.out.kept KX.out) k),(fun aF wF F=>by have s17:=F.v 2 17;exact sK (S2.out _ (HK.out.trans (KX.out.trans F.kept))) fun _ _ h=>h),(gv 1 16),(gv 3 18),
      trivial⟩ ?_
    intro u w1 k1 hu;simp only [Ax,Al,if_true,Act.put,zlA,zlB,zlC,zlD,zlE,zlF,zlG,hv hu 0,hv hu 1,hv hu 2,hv hu 3,hv hu 4,hv hu 5];clear hu;replace KX:=hid (KX.out.trans k1);clear k1 u;obtain ⟨-,a0,a1,a2,-⟩:=(HB0.out.kept KX.out).facts;obtain ⟨-,b0,b1,b2,-⟩:=(HB1'.out.kept KX.out).facts;go_wp2_with fail;clear a0 a1 a2 b0 b1 b2 d1 d2 d3 d4
    refine rgL 8 ([(vE (.int .i64 g)),(vE (.agg #[.bool n1,.slice A l c,.int .i64 e1])),(fun v wv=>Dg.DN wv v n1 nx e1),(vE (.agg #[.bool n2,.slice A2 l2 c2',.int .i64 e2])),(fun v wv=>Dg.DN wv v n2 ny e2),(vE (.int .i64 zz)),(vE (.int .i64 (g*zz))),(vE (.int .i64 (g*zz)))])
     (hM:=⟨⟨mE,mE,fun v w w' k h=>by first | exact h | exact h.kept k | exact ⟨h.1,h.2.kept k⟩,mE,fun v w w' k h=>by first | exact h | exact h.kept k | exact ⟨h.1,h.2.kept k⟩,mE,mE,mE,trivial⟩⟩) ⟨
       (gq 5),(gql 2 fun _ k=>c3 (HB0.out.kept KX.out) k),(fun aF wF F=>by have s33:=F.v 1 33;exact Av (by simp [Region.wanted]) (by go_simp) (O1.out _ (HK.out.trans (KX.out.trans F.kept))) (fun _ _ h=>Dg.RetN.good h) (fun _ _ h=>h)),(gql 3 fun _ k=>c3 (HB1'.out.kept KX.out) k),(fun aF wF F=>by have s35:=F.v 3 35;exact Av (by simp [Region.wanted]) (by go_simp) (O2.out _ (HK.out.trans (KX.out.trans F.kept))) (fun _ _ h=>Dg.RetN.good h) (fun _ _ h=>h)),(fun aF wF F=>by have s34:=F.p 2 34;have s36:=F.p 4 36;exact sK (HZ.out _ _ _ s34 s36) fun _ _ h=>h),(fun aF wF F=>by have s32:=F.v 0 32;have s37:=F.v 5 37;exact sw (by (go_simp;exact HWW.out)) rfl),(gv 6 38),
       trivial⟩ ?_
    intro u w1 k1 hu;have p34:=hp hu 2;have p36:=hp hu 4;simp only [Ax,Al,if_true,Act.put,zlA,zlB,zlC,zlD,zlE,zlF,zlG,hv hu 0,hv hu 1,hv hu 3,hv hu 5,hv hu 6,hv hu 7];clear hu;generalize u 2=v34,u 4=v36 at *;clear p34 p36;go_wp2_with fail;go_ret;exact ⟨rfl,HK.out.trans (KX.out.trans k1)⟩
  ·have hr:=G2.out (by omega);subst hr;have d1:(g != g')=true:=by simp;omega
   have d3:decide (g'<g)=true:=by simp;omega
   clear h1 h2;go_enter Tryz.func75,Tryz.ntmps75;go_upto_region 1 with fail;rw [←HW.out];obtain ⟨-,a0,a1,a2,-⟩:=HB0.out.facts;obtain ⟨-,b0,b1,b2,-⟩:=HB1'.out.facts;go_wp2_with fail;refine (M1.out _ HK.out).mono ?_;rintro e w2 ⟨rfl,q⟩;have KX:=hid q;clear a0 a1 a2 b0 b1 b2 q;obtain ⟨-,a0,a1,a2,-⟩:=(HB0.out.kept KX.out).facts;obtain ⟨-,b0,b1,b2,-⟩:=(HB1'.out.kept KX.out).facts;simp only [];go_wp2_with fail;refine (M2.out _ (HK.out.trans KX.out)).mono ?_;rintro e w3 ⟨rfl,q⟩;replace KX:=hid (KX.out.trans q);clear a0 a1 a2 b0 b1 b2 q;simp only [];go_wp2_with fail
   refine rgL 6 ([(vE (.agg #[.bool n1,.slice A l c,.int .i64 e1])),(vE (.int .i64 g)),(vE (.agg #[.bool n2,.slice A2 l2 c2',.int .i64 e2])),(vE (.int .i64 g')),(vE (.int .i64 g)),(vE (.int .i64 g'))])
    ⟨
     (gql 2 fun _ k=>c3 (HB0.out.kept KX.out) k),(fun aF wF F=>by have s15:=F.v 0 15;exact sK (S1.out _ (HK.out.trans (KX.out.trans F.kept))) fun _ _ h=>h),(gql 3 fun _ k=>c3 (HB1'.out.kept KX.out) k),(fun aF wF F=>by have s17:=F.v 2 17;exact sK (S2.out _ (HK.out.trans (KX.out.trans F.kept))) fun _ _ h=>h),(gv 1 16),(gv 3 18),
     trivial⟩ ?_
   intro u w1 k1 hu;simp only [Ax,Al,if_true,Act.put,zlA,zlB,zlC,zlD,zlE,zlF,zlG,hv hu 0,hv hu 1,hv hu 2,hv hu 3,hv hu 4,hv hu 5];clear hu;replace KX:=hid (KX.out.trans k1);clear k1 u;obtain ⟨-,a0,a1,a2,-⟩:=(HB0.out.kept KX.out).facts;obtain ⟨-,b0,b1,b2,-⟩:=(HB1'.out.kept KX.out).facts;go_wp2_with fail;go_ret;exact ⟨rfl,HK.out.trans KX.out⟩
theorem Acn {a:RawI}(hv:IvR w v a)(hl:a.lens 17592186044416) :
 Calls Tryz.prog 38 #[v] w (RetK (.bool (Fh a)) w):=by
 obtain ⟨A,l,c,A',l',c',rfl,h1,h2⟩:=Aq hv;have M1:=hid (fun w1 (k:Kept w w1)=>S6 (h1.kept k) hl.1);have M2:=hid (fun w1 (k:Kept w w1)=>S6 (h2.kept k) hl.2);have hc:(Ew a.lo&&Ew a.hi)=true→∀ w1,Kept w w1→Calls Tryz.prog 75 #[.agg #[.bool a.lo.neg,.slice A l c,.int .i64 a.lo.e],.agg #[.bool a.hi.neg,.slice A' l' c',.int .i64 a.hi.e]] w1 (RetK (.int .i64 (Cg a.lo.dy.q a.hi.dy.q)) w1):=by
  intro d w1 k;simp only [Bool.and_eq_true] at d;obtain ⟨e1,o1⟩:=Gw (Hz h1) d.1;obtain ⟨e2,o2⟩:=Gw (Hz h2) d.2;have g1:=h1.kept k;have g2:=h2.kept k;exact Agy (x:=a.lo.dy) (y:=a.hi.dy) (by rw [e1];exact g1) (by rw [e2];exact g2) o1 o2
 unfold Fh;have HC:=hid hc;clear hc h1 h2 hv hl;generalize a.lo.neg=n1,a.lo.e=e1,a.hi.neg=n2,a.hi.e=e2 at *;generalize Cg a.lo.dy.q a.hi.dy.q=cc at *;generalize Ew a.lo=b1 at *;generalize Ew a.hi=b2 at *;obtain ⟨b3,h3⟩:∃ b3,decide (cc≤0)=b3:=⟨_,rfl⟩;rw [h3];have H3:=hid h3;clear h3;obtain ⟨W,hW,kW,BI⟩:=Akj w (.bool n1) (.slice A l c) (.int .i64 e1) (.bool n2) (.slice A' l' c') (.int .i64 e2);have HW:=hid hW;have K:=hid kW;have HB:=hid BI;clear hW kW BI;go_enter Tryz.func38,Tryz.ntmps38;go_upto_region 1 with fail;rw [←HW.out]
 refine rS 17 ([(vP w.heap.size 0),(vE (.agg #[.bool n1,.slice A l c,.int .i64 e1])),(vE (.bool b1)),(vE (.bool b1)),(fun v wv=>(b1=true→(fun v _=>v=(.pointer (some ⟨w.heap.size,3,none⟩))) v wv)∧(b1=false→v=undef)),(fun v wv=>(b1=true→(fun v _=>v=(.agg #[.bool n2,.slice A' l' c',.int .i64 e2])) v wv)∧(b1=false→v=undef)),(fun v wv=>(b1=true→(fun v _=>v=(.bool b2)) v wv)∧(b1=false→v=undef)),(vE (.bool (b1&&b2))),(vE (.bool (b1&&b2))),(fun v wv=>((b1&&b2)=true→(fun v _=>v=(.pointer (some ⟨w.heap.size,0,none⟩))) v wv)∧((b1&&b2)=false→v=undef)),(fun v wv=>((b1&&b2)=true→(fun v _=>v=(.agg #[.bool n1,.slice A l c,.int .i64 e1])) v wv)∧((b1&&b2)=false→v=undef)),(fun v wv=>((b1&&b2)=true→(fun v _=>v=(.pointer (some ⟨w.heap.size,3,none⟩))) v wv)∧((b1&&b2)=false→v=undef)),(fun v wv=>((b1&&b2)=true→(fun v _=>v=(.agg #[.bool n2,.slice A' l' c',.int .i64 e2])) v wv)∧((b1&&b2)=false→v=undef)),(fun v wv=>((b1&&b2)=true→(fun v _=>v=(.int .i64 cc)) v wv)∧((b1&&b2)=false→v=undef)),(fun v wv=>((b1&&b2)=true→(fun v _=>v=(.bool b3)) v wv)∧((b1&&b2)=false→v=undef)),(vE (.bool (b1&&b2&&b3))),(vE (.bool (b1&&b2&&b3)))])
  ⟨
   (gq 1),(fun aF wF F=>by have s3:=F.v 0 3;have c0:=Ai HB.out F.kept 0 _ rfl;have c1:=Ai HB.out F.kept 1 _ rfl;have c2:=Ai HB.out F.kept 2 _ rfl;exact sv rfl),(fun aF wF F=>by have s4:=F.v 1 4;exact sK (M1.out _ (K.out.trans F.kept)) fun _ _ h=>h),(gv 2 5),
   (fun aF wF F=>by
  have sg:=F.v 3 6;have s1:=F.q 1 (.pointer (some ⟨w.heap.size,0,none⟩));rcases Bl b1 with hC | hC
  ·refine sIm hC (vE (.pointer (some ⟨w.heap.size,3,none⟩))) ?_;exact sVc rfl rfl sg (by first | rfl | simp [hC])
  ·exact sOc rfl rfl sg (by first | rfl | simp [hC]) (nW hC)),
   (fun aF wF F=>by
  have sg:=F.v 3 6;have s7:(b1=true→aF.tmps.getD 7 undef=(.pointer (some ⟨w.heap.size,3,none⟩)))∧(b1=false→aF.tmps.getD 7 undef=undef):=F.done 4 7 (by kernel_rfl) rfl;have c0:=Ai HB.out F.kept 3 _ rfl;have c1:=Ai HB.out F.kept 4 _ rfl;have c2:=Ai HB.out F.kept 5 _ rfl;rcases Bl b1 with hC | hC
  ·refine sIm hC (vE (.agg #[.bool n2,.slice A' l' c',.int .i64 e2])) ?_;replace s7:=s7.1 hC;exact sVc rfl rfl sg (by first | rfl | simp [hC])
  ·exact sOc rfl rfl sg (by first | rfl | simp [hC]) (nW hC)),
   (fun aF wF F=>by
  have sg:=F.v 3 6;have s8:(b1=true→aF.tmps.getD 8 undef=(.agg #[.bool n2,.slice A' l' c',.int .i64 e2]))∧(b1=false→aF.tmps.getD 8 undef=undef):=F.done 5 8 (by kernel_rfl) rfl;rcases Bl b1 with hC | hC
  ·refine sIm hC (vE (.bool b2)) ?_;replace s8:=s8.1 hC;exact Av ((Aj rfl rfl sg).trans (by first | rfl | simp [hC])) (by go_simp) (M2.out _ (K.out.trans F.kept)) (fun _ _ h=>RetK.good h) (fun _ _ h=>h)
  ·exact sOc rfl rfl sg (by first | rfl | simp [hC]) (nW hC)),
   (fun aF wF F=>by
  have s6:=F.v 3 6;have s9:(b1=true→aF.tmps.getD 9 undef=(.bool b2))∧(b1=false→aF.tmps.getD 9 undef=undef):=F.done 6 9 (by kernel_rfl) rfl;rcases Bl b1 with hE | hE
  ·replace s9:=s9.1 hE;exact sw (by first | (go_simp;done) | (go_simp;simp_all;done) | (simp_all;done)) rfl
  ·exact sw (by first | (go_simp;done) | (go_simp;simp_all;done) | (simp_all;done)) rfl),(gv 7 10),
   (fun aF wF F=>by
  have sg:=F.v 8 11;have s1:=F.q 1 (.pointer (some ⟨w.heap.size,0,none⟩));rcases Bl (b1&&b2) with hC | hC
  ·refine sIm hC (vE (.pointer (some ⟨w.heap.size,0,none⟩))) ?_;exact sVc rfl rfl sg (by first | rfl | simp [hC])
  ·exact sOc rfl rfl sg (by first | rfl | simp [hC]) (nW hC)),
   (fun aF wF F=>by
  have sg:=F.v 8 11;have s12:((b1&&b2)=true→aF.tmps.getD 12 undef=(.pointer (some ⟨w.heap.size,0,none⟩)))∧((b1&&b2)=false→aF.tmps.getD 12 undef=undef):=F.done 9 12 (by kernel_rfl) rfl;have c0:=Ai HB.out F.kept 0 _ rfl;have c1:=Ai HB.out F.kept 1 _ rfl;have c2:=Ai HB.out F.kept 2 _ rfl;rcases Bl (b1&&b2) with hC | hC
  ·refine sIm hC (vE (.agg #[.bool n1,.slice A l c,.int .i64 e1])) ?_;replace s12:=s12.1 hC;exact sVc rfl rfl sg (by first | rfl | simp [hC])
  ·exact sOc rfl rfl sg (by first | rfl | simp [hC]) (nW hC)),
   (fun aF wF F=>by
  have sg:=F.v 8 11;have s1:=F.q 1 (.pointer (some ⟨w.heap.size,0,none⟩));rcases Bl (b1&&b2) with hC | hC
  ·refine sIm hC (vE (.pointer (some ⟨w.heap.size,3,none⟩))) ?_;exact sVc rfl rfl sg (by first | rfl | simp [hC])
  ·exact sOc rfl rfl sg (by first | rfl | simp [hC]) (nW hC)),
   (fun aF wF F=>by
  have sg:=F.v 8 11;have s14:((b1&&b2)=true→aF.tmps.getD 14 undef=(.pointer (some ⟨w.heap.size,3,none⟩)))∧((b1&&b2)=false→aF.tmps.getD 14 undef=undef):=F.done 11 14 (by kernel_rfl) rfl;have c0:=Ai HB.out F.kept 3 _ rfl;have c1:=Ai HB.out F.kept 4 _ rfl;have c2:=Ai HB.out F.kept 5 _ rfl;rcases Bl (b1&&b2) with hC | hC
  ·refine sIm hC (vE (.agg #[.bool n2,.slice A' l' c',.int .i64 e2])) ?_;replace s14:=s14.1 hC;exact sVc rfl rfl sg (by first | rfl | simp [hC])
  ·exact sOc rfl rfl sg (by first | rfl | simp [hC]) (nW hC)),
   (fun aF wF F=>by
  have sg:=F.v 8 11;have s13:((b1&&b2)=true→aF.tmps.getD 13 undef=(.agg #[.bool n1,.slice A l c,.int .i64 e1]))∧((b1&&b2)=false→aF.tmps.getD 13 undef=undef):=F.done 10 13 (by kernel_rfl) rfl;have s15:((b1&&b2)=true→aF.tmps.getD 15 undef=(.agg #[.bool n2,.slice A' l' c',.int .i64 e2]))∧((b1&&b2)=false→aF.tmps.getD 15 undef=undef):=F.done 12 15 (by kernel_rfl) rfl;rcases Bl (b1&&b2) with hC | hC
  ·refine sIm hC (vE (.int .i64 cc)) ?_;replace s13:=s13.1 hC;replace s15:=s15.1 hC;exact Av ((Aj rfl rfl sg).trans (by first | rfl | simp [hC])) (by go_simp) (HC.out hC _ (K.out.trans F.kept)) (fun _ _ h=>RetK.good h) (fun _ _ h=>h)
  ·exact sOc rfl rfl sg (by first | rfl | simp [hC]) (nW hC)),
   (fun aF wF F=>by
  have sg:=F.v 8 11;have s16:((b1&&b2)=true→aF.tmps.getD 16 undef=(.int .i64 cc))∧((b1&&b2)=false→aF.tmps.getD 16 undef=undef):=F.done 13 16 (by kernel_rfl) rfl;rcases Bl (b1&&b2) with hC | hC
  ·refine sIm hC (vE (.bool b3)) ?_;replace s16:=s16.1 hC;exact Ar ((Aj rfl rfl sg).trans (by first | rfl | simp [hC])) (by (go_simp;exact H3.out)) rfl
  ·exact sOc rfl rfl sg (by first | rfl | simp [hC]) (nW hC)),
   (fun aF wF F=>by
  have s11:=F.v 8 11;have s17:((b1&&b2)=true→aF.tmps.getD 17 undef=(.bool b3))∧((b1&&b2)=false→aF.tmps.getD 17 undef=undef):=F.done 14 17 (by kernel_rfl) rfl;rcases Bl (b1&&b2) with hE | hE
  ·replace s17:=s17.1 hE;exact sw (by first | (go_simp;done) | (go_simp;simp_all;done) | (simp_all;done)) rfl
  ·exact sw (by first | (go_simp;done) | (go_simp;simp_all;done) | (simp_all;done)) rfl),(gv 15 18),
   trivial⟩ ?_
 intro u w1 k1 hu;have p7:=hp hu 4;have p8:=hp hu 5;have p9:=hp hu 6;have p12:=hp hu 9;have p13:=hp hu 10;have p14:=hp hu 11;have p15:=hp hu 12;have p16:=hp hu 13;have p17:=hp hu 14;simp only [Ax,Al,if_true,Act.put,zlA,zlB,zlC,zlD,zlE,zlF,zlG,hv hu 0,hv hu 1,hv hu 2,hv hu 3,hv hu 7,hv hu 8,hv hu 15,hv hu 16];clear hu;generalize u 4=v7,u 5=v8,u 6=v9,u 9=v12,u 10=v13,u 11=v14,u 12=v15,u 13=v16,u 14=v17 at *;clear p7 p8 p9 p12 p13 p14 p15 p16 p17;go_wp2_with fail;go_ret;exact ⟨rfl,K.out.trans k1⟩
theorem Aco {y:Dy}(ha:DyR w va x.raw)(hb:DyR w vb y.raw)(hx:x.Ok)(hy:y.Ok)(h:y.q≤x.q) :
 Calls Tryz.prog 39 #[va,vb] w (RetK (.bool false) w):=by
 have hc:=fun w1 (k:Kept w w1)=>Agy (ha.kept k) (hb.kept k) hx hy
 have h0:decide (Cg x.q y.q<0)=false:=by
  rw [decide_eq_false_iff_not,Lj];exact Rat.not_lt.2 h
 obtain ⟨A,l,c,rfl,-,-,-,-⟩:=ha.shape;obtain ⟨A2,l2,c2,rfl,-,-,-,-⟩:=hb.shape;obtain ⟨W,hW,kW,B0,B1⟩:=P8 w (.bool x.raw.neg) (.slice A l c) (.int .i64 x.raw.e) (.bool y.raw.neg) (.slice A2 l2 c2) (.int .i64 y.raw.e);have HC:=hid hc;have HW:=hid hW;have K:=hid kW;have HB0:=hid B0;have HB1:=hid B1;clear hc hW kW B0 B1 ha hb hx hy h;generalize x.raw.neg=n1,x.raw.e=e1,y.raw.neg=n2,y.raw.e=e2 at *;generalize Cg x.q y.q=cc at *;go_enter Tryz.func39,Tryz.ntmps39;go_upto_region 1 with fail;rw [←HW.out];obtain ⟨-,a0,a1,a2,-⟩:=HB0.out.facts;obtain ⟨-,b0,b1,b2,-⟩:=HB1.out.facts
 go_wp2_with fail;refine (HC.out _ K.out).mono ?_;rintro e w1 ⟨rfl,q⟩;simp only [];replace K:=hid (K.out.trans q);clear q a0 a1 a2 b0 b1 b2;go_wp2_with fail;go_ret;exact ⟨rfl,K.out⟩
theorem Ad3 {b:Iv}(hv:IvC w v a)(hu:IvC w u b)(ha:a.Ok)(hb:b.Ok)(h1:b.lo.q≤a.lo.q)(h2:a.hi.q≤b.hi.q) :
 Calls Tryz.prog 16 #[v,u] w (RetK (.bool true) w):=by
 have m1:=fun w1 (k:Kept w w1)=>Acn (hv.kept k) ⟨Nat.le_trans ha.lo.len (by decide),Nat.le_trans ha.hi.len (by decide)⟩
 have m2:=fun w1 (k:Kept w w1)=>Acn (hu.kept k) ⟨Nat.le_trans hb.lo.len (by decide),Nat.le_trans hb.hi.len (by decide)⟩
 rw [Dt ha] at m1;rw [Dt hb] at m2;obtain ⟨A,l,c,A',l',c',rfl,x1,x2⟩:=F3 hv;obtain ⟨B,j,e,B',j',e',rfl,y1,y2⟩:=F3 hu;have q1:=fun w1 (k:Kept w w1)=>Aco (x1.kept k) (y1.kept k) ha.lo hb.lo h1
 have q2:=fun w1 (k:Kept w w1)=>Aco (y2.kept k) (x2.kept k) hb.hi ha.hi h2
 have M1:=hid m1;have M2:=hid m2;have Q1:=hid q1;have Q2:=hid q2;clear m1 m2 q1 q2 x1 x2 y1 y2 hv hu ha hb h1 h2;generalize a.lo.neg=n1,a.lo.e=e1,a.hi.neg=n2,a.hi.e=e2,b.lo.neg=n3,b.lo.e=e3,b.hi.neg=n4,b.hi.e=e4 at *;obtain ⟨W,hW,kW,BI,BJ⟩:=Vr w (.bool n1) (.slice A l c) (.int .i64 e1) (.bool n2) (.slice A' l' c') (.int .i64 e2) (.bool n3) (.slice B j e) (.int .i64 e3) (.bool n4) (.slice B' j' e') (.int .i64 e4);have HW:=hid hW;have K:=hid kW;have HB:=hid BI;have HD:=hid BJ;clear hW kW BI BJ
 go_enter Tryz.func16,Tryz.ntmps16;go_upto_region 1 with fail;rw [←HW.out]
 refine rS 23 ([(vE (.agg #[.bool n1,.slice A l c,.int .i64 e1,.bool n2,.slice A' l' c',.int .i64 e2])),(vE (.bool true)),(vE (.bool true)),(vE (.agg #[.bool n3,.slice B j e,.int .i64 e3,.bool n4,.slice B' j' e',.int .i64 e4])),(vE (.bool true)),(vE (.bool true)),(vE (.bool true)),(vP w.heap.size 0),(vE (.agg #[.bool n1,.slice A l c,.int .i64 e1])),(vP (w.heap.size+1) 0),(vE (.agg #[.bool n3,.slice B j e,.int .i64 e3])),(vE (.bool false)),(vE (.bool true)),(vE (.bool true)),(vE (.bool true)),(vP (w.heap.size+1) 3),(vE (.agg #[.bool n4,.slice B' j' e',.int .i64 e4])),(vP w.heap.size 3),(vE (.agg #[.bool n2,.slice A' l' c',.int .i64 e2])),(vE (.bool false)),(vE (.bool true)),(vE (.bool true)),(vE (.bool true))])
  ⟨
   (gql 2 fun _ k=>c6 HB.out k),(fun aF wF F=>by have s5:=F.v 0 5;exact sK (M1.out _ (K.out.trans F.kept)) fun _ _ h=>h),(gv 1 6),(fun aF wF F=>by have s3:=F.q 3 (.pointer (some ⟨w.heap.size+1,0,none⟩));obtain ⟨c0,c1,c2,c3,c4,c5⟩:=c6 HD.out F.kept;have sg:=F.v 2 7;exact Ar ((Aj rfl rfl sg).trans rfl) (by go_simp) rfl),(fun aF wF F=>by have s8:=F.v 3 8;have sg:=F.v 2 7;exact Av ((Aj rfl rfl sg).trans rfl) (by go_simp) (M2.out _ (K.out.trans F.kept)) (fun _ _ h=>RetK.good h) (fun _ _ h=>h)),(gvv 2 7 4 9),(gv 5 10),(fun aF wF F=>by have s2:=F.q 2 (.pointer (some ⟨w.heap.size,0,none⟩));have sg:=F.v 6 11;exact Ar ((Aj rfl rfl sg).trans rfl) (by go_simp) rfl),(fun aF wF F=>by have s12:=F.v 7 12;have c0:=Ai HB.out F.kept 0 _ rfl;have c1:=Ai HB.out F.kept 1 _ rfl;have c2:=Ai HB.out F.kept 2 _ rfl;have sg:=F.v 6 11;exact Ar ((Aj rfl rfl sg).trans rfl) (by go_simp) rfl),(fun aF wF F=>by have s3:=F.q 3 (.pointer (some ⟨w.heap.size+1,0,none⟩));have sg:=F.v 6 11;exact Ar ((Aj rfl rfl sg).trans rfl) (by go_simp) rfl),(fun aF wF F=>by have s14:=F.v 9 14;have c0:=Ai HD.out F.kept 0 _ rfl;have c1:=Ai HD.out F.kept 1 _ rfl;have c2:=Ai HD.out F.kept 2 _ rfl;have sg:=F.v 6 11;exact Ar ((Aj rfl rfl sg).trans rfl) (by go_simp) rfl),(fun aF wF F=>by have s13:=F.v 8 13;have s15:=F.v 10 15;have sg:=F.v 6 11;exact Av ((Aj rfl rfl sg).trans rfl) (by go_simp) (Q1.out _ (K.out.trans F.kept)) (fun _ _ h=>RetK.good h) (fun _ _ h=>h)),(fun aF wF F=>by have s16:=F.v 11 16;have sg:=F.v 6 11;exact Ar ((Aj rfl rfl sg).trans rfl) (by go_simp) rfl),(gvv 6 11 12 17),(gv 13 18),(fun aF wF F=>by have s3:=F.q 3 (.pointer (some ⟨w.heap.size+1,0,none⟩));have sg:=F.v 14 19;exact Ar ((Aj rfl rfl sg).trans rfl) (by go_simp) rfl),(fun aF wF F=>by have s20:=F.v 15 20;have c0:=Ai HD.out F.kept 3 _ rfl;have c1:=Ai HD.out F.kept 4 _ rfl;have c2:=Ai HD.out F.kept 5 _ rfl;have sg:=F.v 14 19;exact Ar ((Aj rfl rfl sg).trans rfl) (by go_simp) rfl),(fun aF wF F=>by have s2:=F.q 2 (.pointer (some ⟨w.heap.size,0,none⟩));have sg:=F.v 14 19;exact Ar ((Aj rfl rfl sg).trans rfl) (by go_simp) rfl),(fun aF wF F=>by have s22:=F.v 17 22;have c0:=Ai HB.out F.kept 3 _ rfl;have c1:=Ai HB.out F.kept 4 _ rfl;have c2:=Ai HB.out F.kept 5 _ rfl;have sg:=F.v 14 19;exact Ar ((Aj rfl rfl sg).trans rfl) (by go_simp) rfl),(fun aF wF F=>by have s21:=F.v 16 21;have s23:=F.v 18 23;have sg:=F.v 14 19;exact Av ((Aj rfl rfl sg).trans rfl) (by go_simp) (Q2.out _ (K.out.trans F.kept)) (fun _ _ h=>RetK.good h) (fun _ _ h=>h)),(fun aF wF F=>by have s24:=F.v 19 24;have sg:=F.v 14 19;exact Ar ((Aj rfl rfl sg).trans rfl) (by go_simp) rfl),(gvv 14 19 20 25),(gv 21 26),
   trivial⟩ ?_
 intro u w1 k1 hu;simp only [Ax,Al,if_true,Act.put,zlA,zlB,zlC,zlD,zlE,zlF,zlG,hv hu 0,hv hu 1,hv hu 2,hv hu 3,hv hu 4,hv hu 5,hv hu 6,hv hu 7,hv hu 8,hv hu 9,hv hu 10,hv hu 11,hv hu 12,hv hu 13,hv hu 14,hv hu 15,hv hu 16,hv hu 17,hv hu 18,hv hu 19,hv hu 20,hv hu 21,hv hu 22];clear hu;have KF:=hid (K.out.trans k1);clear k1;go_wp2_with fail;go_ret;exact ⟨rfl,KF.out⟩
end Go.Proofs.YtabjjdicffcolaaGreatDoor
