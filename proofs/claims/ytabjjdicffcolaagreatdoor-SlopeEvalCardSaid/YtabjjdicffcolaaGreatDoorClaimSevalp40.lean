/- Words and contracts, part 40. -/
import Derived.Test.YtabjjdicffcolaaGreatDoorClaimSevalp31
import Derived.Test.YtabjjdicffcolaaGreatDoorClaimSevalp35
set_option maxRecDepth 100000
set_option maxHeartbeats 0
namespace Go.Proofs.YtabjjdicffcolaaGreatDoor
open Go.Lib (hid)
open Go.RowKit
theorem Oo {w w':World}{b:Nat}{o:Obj}(h:w.heap[b]?=some o)(k:Kept w w'):w'.heap[b]?=some o:=(k.block b (Array.getElem?_eq_some_iff.1 h).1).trans h
theorem Ak5 (w:World)(x y z:Value):∃ V,V=w.alloc (.cells #[x,y,z] 3)∧Kept w V∧V.heap[w.heap.size]?=some (.cells #[x,y,z] 3 (0,0)) :=
 ⟨_,rfl,Ad _ _,heap_alloc_new _ _⟩
theorem Ahx {w:World}{v:Value}{a:Iv}{p:Nat}(hv:IvC w v a)(ok:a.Ok)(hT:Tab w)(p1:1≤p)(p2:p≤300) :
 Calls Tryz.prog 102 #[v,.int .i64 (p:Nat)] w (RetIE (Bp (ovI a p)) w):=by
 have M:=hid (fun w1 (k:Kept w w1)=>Ui (hv.kept k) ok);obtain ⟨A,l,c,A',l',c',rfl,h1,h2⟩:=Gu hv;have X0:=hid (fun w1 (k:Kept w w1)=>Sh (p:=p) (h1.kept k) (Nat.le_trans ok.lo.len (by decide)) (hT.kept k));have X1:=hid (fun w1 (k:Kept w w1)=>Sh (p:=p) (h2.kept k) (Nat.le_trans ok.hi.len (by decide)) (hT.kept k));have E0:=hid (fun w1 (k:Kept w w1)=>Aay (up:=false) (h1.kept k) ok.lo p1 p2 (hT.kept k));have E1:=hid (fun w1 (k:Kept w w1)=>Aay (up:=true) (h2.kept k) ok.hi p1 p2 (hT.kept k));have hb:∀ k,ovE (E4 a.lo.raw p) (E4 a.hi.raw p)=k→k≠0→Bp (ovI a p)=⟨rzI,k⟩:=fun k hk h0=>by
  unfold ovI;rw [if_pos (by rw [hk];exact h0),hk];unfold Bp;rw [Ou]
 have hg:E4 a.lo.raw p=0→E4 a.hi.raw p=0→Bp (ovI a p)=if (Fq a.lo p false).raw.k≠0∨(Fq a.hi p true).raw.k≠0 then ⟨rzI,max (Fq a.lo p false).raw.k (Fq a.hi p true).raw.k⟩ else ⟨⟨(Fq a.lo p false).raw.v,(Fq a.hi p true).raw.v⟩,0⟩:=fun h h'=>by
  unfold ovI;rw [if_neg (by rw [h,h'];decide)]
  show _=if (Fq a.lo p false).k≠0∨(Fq a.hi p true).k≠0 then _ else _
  split
  ·unfold Bp;rw [Ou];rfl
  ·rfl
 have c0:=Kp a.lo.raw p;have c1:=Kp a.hi.raw p;generalize E4 a.lo.raw p=m0 at *;generalize E4 a.hi.raw p=m1 at *;generalize (Fq a.lo p false).raw=o0 at *;generalize (Fq a.hi p true).raw=o1 at *;obtain ⟨T,hTT⟩:∃ T,Bp (ovI a p)=T:=⟨_,rfl⟩;rw [hTT] at hb hg ⊢;have BAD:=hid hb;have GOOD:=hid hg;have C0:=hid c0;have C1:=hid c1;clear hTT hb hg c0 c1 hv ok hT h1 h2;generalize a.lo.neg=n1 at *;generalize a.lo.e=e1 at *;generalize a.hi.neg=n2 at *;generalize a.hi.e=e2 at *;obtain ⟨W,hW,kW,BA,BR⟩:=Tz w (.bool n1) (.slice A l c) (.int .i64 e1) (.bool n2) (.slice A' l' c') (.int .i64 e2) (.bool false) (.slice none 0 0) (.int .i64 0) (.bool false) (.slice none 0 0) (.int .i64 0)
 have HW:=hid hW;have K:=hid kW;have HB:=hid BA;have HR:=hid BR;obtain ⟨-,a0,a1,a2,a3,a4,a5⟩:=BA.facts;clear hW kW BA BR;go_enter Tryz.func102,Tryz.ntmps102;go_upto_region 1 with fail;rw [←HW.out];go_wp2_with fail;refine (M.out _ K.out).mono ?_;rintro ee w1 ⟨rfl,q⟩;simp only [];replace K:=hid (K.out.trans q);replace HB:=hid (HB.out.kept q);replace HR:=hid (HR.out.kept q);clear q a0 a1 a2 a3 a4 a5 M HW;have lR:=HR.out.facts.1;obtain ⟨V,hV,kV,hv3⟩:=Ak5 w1 (.int .i64 1) (.int .i64 4) (.int .i64 2);have HV:=hid hV;have V3:=hid hv3;replace K:=hid (K.out.trans kV);replace HB:=hid (HB.out.kept kV);replace HR:=hid (HR.out.kept kV)
 have KX:Hid (Kept V V):=hid (Below.refl _ _);obtain ⟨-,a0,a1,a2,a3,a4,a5⟩:=HB.out.facts;clear hV kV hv3;go_upto_region 4 with fail;rw [←HV.out];refine wp_loop_rounds 4 ?_
 -- a round of the loop over the errors: C the error, I its place
 rw [rounds_succ];have v9:=Ae (Oo V3.out KX.out) 0 _ rfl;go_upto_region 6 with fail;by_cases h0:m0=1
 ·have g0:(m0==1)=true:=by simp [h0]
  go_wp2_with fail;refine (X0.out _ (K.out.trans KX.out)).mono ?_;rintro ee w2 ⟨rfl,q⟩;simp only [];have KK:=hid (K.out.trans (KX.out.trans q));have HR2:=hid ((HR.out.kept KX.out).kept q);clear q a0 a1 a2 a3 a4 a5 v9;obtain ⟨-,x0,x1,x2,x3,x4,x5⟩:=HR2.out.facts;obtain ⟨f0,f1,f2,f3,f4,f5⟩:=HR2.out.free;go_wp2_with fail;have e:T=⟨rzI,1⟩:=BAD.out 1 (by unfold ovE;rw [if_pos (by omega)]) (by decide);subst e;exact Cd (HR2.out.laid _ _ _ _ _ _) rfl rfl rfl ⟨Bm KK.out (by omega),_,rfl,_,_,_,_,_,_,rfl,Cc _,Cc _⟩
 have g0:(m0==1)=false:=by simp [h0]
 go_wp2_with fail;refine (X0.out _ (K.out.trans KX.out)).mono ?_;rintro ee w2 ⟨rfl,q⟩;simp only [];replace KX:=hid (KX.out.trans q);clear q a0 a1 a2 a3 a4 a5;obtain ⟨-,a0,a1,a2,a3,a4,a5⟩:=(HB.out.kept KX.out).facts;by_cases h1:m1=1
 ·have g1:(m1==1)=true:=by simp [h1]
  go_wp2_with fail;refine (X1.out _ (K.out.trans KX.out)).mono ?_;rintro ee w2 ⟨rfl,q⟩;simp only [];have KK:=hid (K.out.trans (KX.out.trans q));have HR2:=hid ((HR.out.kept KX.out).kept q);clear q a0 a1 a2 a3 a4 a5 v9;obtain ⟨-,x0,x1,x2,x3,x4,x5⟩:=HR2.out.facts;obtain ⟨f0,f1,f2,f3,f4,f5⟩:=HR2.out.free;go_wp2_with fail;have e:T=⟨rzI,1⟩:=BAD.out 1 (by unfold ovE;rw [if_pos (by omega)]) (by decide);subst e;exact Cd (HR2.out.laid _ _ _ _ _ _) rfl rfl rfl ⟨Bm KK.out (by omega),_,rfl,_,_,_,_,_,_,rfl,Cc _,Cc _⟩
 have g1:(m1==1)=false:=by simp [h1]
 go_wp2_with fail;refine (X1.out _ (K.out.trans KX.out)).mono ?_;rintro ee w3 ⟨rfl,q⟩;simp only [];replace KX:=hid (KX.out.trans q);clear q a0 a1 a2 a3 a4 a5;obtain ⟨-,a0,a1,a2,a3,a4,a5⟩:=(HB.out.kept KX.out).facts;go_wp2_with fail;have H1:=hid (And.intro h0 h1);clear g0 g1 h0 h1 v9
 -- a round of the loop over the errors: C the error, I its place
 rw [rounds_succ];have v9:=Ae (Oo V3.out KX.out) 1 _ rfl;go_upto_region 6 with fail;by_cases h0:m0=4
 ·have g0:(m0==4)=true:=by simp [h0]
  go_wp2_with fail;refine (X0.out _ (K.out.trans KX.out)).mono ?_;rintro ee w2 ⟨rfl,q⟩;simp only [];have KK:=hid (K.out.trans (KX.out.trans q));have HR2:=hid ((HR.out.kept KX.out).kept q);clear q a0 a1 a2 a3 a4 a5 v9;obtain ⟨-,x0,x1,x2,x3,x4,x5⟩:=HR2.out.facts;obtain ⟨f0,f1,f2,f3,f4,f5⟩:=HR2.out.free;go_wp2_with fail;have e:T=⟨rzI,4⟩:=BAD.out 4 (by have a9:=H1.out;unfold ovE;rw [if_neg (by omega),if_pos (by omega)]) (by decide);subst e;exact Cd (HR2.out.laid _ _ _ _ _ _) rfl rfl rfl ⟨Bm KK.out (by omega),_,rfl,_,_,_,_,_,_,rfl,Cc _,Cc _⟩
 have g0:(m0==4)=false:=by simp [h0]
 go_wp2_with fail;refine (X0.out _ (K.out.trans KX.out)).mono ?_;rintro ee w4 ⟨rfl,q⟩;simp only [];replace KX:=hid (KX.out.trans q);clear q a0 a1 a2 a3 a4 a5;obtain ⟨-,a0,a1,a2,a3,a4,a5⟩:=(HB.out.kept KX.out).facts;by_cases h1:m1=4
 ·have g1:(m1==4)=true:=by simp [h1]
  go_wp2_with fail;refine (X1.out _ (K.out.trans KX.out)).mono ?_;rintro ee w2 ⟨rfl,q⟩;simp only [];have KK:=hid (K.out.trans (KX.out.trans q));have HR2:=hid ((HR.out.kept KX.out).kept q);clear q a0 a1 a2 a3 a4 a5 v9;obtain ⟨-,x0,x1,x2,x3,x4,x5⟩:=HR2.out.facts;obtain ⟨f0,f1,f2,f3,f4,f5⟩:=HR2.out.free;go_wp2_with fail;have e:T=⟨rzI,4⟩:=BAD.out 4 (by have a9:=H1.out;unfold ovE;rw [if_neg (by omega),if_pos (by omega)]) (by decide);subst e;exact Cd (HR2.out.laid _ _ _ _ _ _) rfl rfl rfl ⟨Bm KK.out (by omega),_,rfl,_,_,_,_,_,_,rfl,Cc _,Cc _⟩
 have g1:(m1==4)=false:=by simp [h1]
 go_wp2_with fail;refine (X1.out _ (K.out.trans KX.out)).mono ?_;rintro ee w5 ⟨rfl,q⟩;simp only [];replace KX:=hid (KX.out.trans q);clear q a0 a1 a2 a3 a4 a5;obtain ⟨-,a0,a1,a2,a3,a4,a5⟩:=(HB.out.kept KX.out).facts;go_wp2_with fail;have H4:=hid (And.intro h0 h1);clear g0 g1 h0 h1 v9
 -- a round of the loop over the errors: C the error, I its place
 rw [rounds_succ];have v9:=Ae (Oo V3.out KX.out) 2 _ rfl;go_upto_region 6 with fail;by_cases h0:m0=2
 ·have g0:(m0==2)=true:=by simp [h0]
  go_wp2_with fail;refine (X0.out _ (K.out.trans KX.out)).mono ?_;rintro ee w2 ⟨rfl,q⟩;simp only [];have KK:=hid (K.out.trans (KX.out.trans q));have HR2:=hid ((HR.out.kept KX.out).kept q);clear q a0 a1 a2 a3 a4 a5 v9;obtain ⟨-,x0,x1,x2,x3,x4,x5⟩:=HR2.out.facts;obtain ⟨f0,f1,f2,f3,f4,f5⟩:=HR2.out.free;go_wp2_with fail;have e:T=⟨rzI,2⟩:=BAD.out 2 (by have a9:=H1.out;have a8:=H4.out;unfold ovE;rw [if_neg (by omega),if_neg (by omega),if_pos (by omega)]) (by decide);subst e;exact Cd (HR2.out.laid _ _ _ _ _ _) rfl rfl rfl ⟨Bm KK.out (by omega),_,rfl,_,_,_,_,_,_,rfl,Cc _,Cc _⟩
 have g0:(m0==2)=false:=by simp [h0]
 go_wp2_with fail;refine (X0.out _ (K.out.trans KX.out)).mono ?_;rintro ee w6 ⟨rfl,q⟩;simp only [];replace KX:=hid (KX.out.trans q);clear q a0 a1 a2 a3 a4 a5;obtain ⟨-,a0,a1,a2,a3,a4,a5⟩:=(HB.out.kept KX.out).facts;by_cases h1:m1=2
 ·have g1:(m1==2)=true:=by simp [h1]
  go_wp2_with fail;refine (X1.out _ (K.out.trans KX.out)).mono ?_;rintro ee w2 ⟨rfl,q⟩;simp only [];have KK:=hid (K.out.trans (KX.out.trans q));have HR2:=hid ((HR.out.kept KX.out).kept q);clear q a0 a1 a2 a3 a4 a5 v9;obtain ⟨-,x0,x1,x2,x3,x4,x5⟩:=HR2.out.facts;obtain ⟨f0,f1,f2,f3,f4,f5⟩:=HR2.out.free;go_wp2_with fail;have e:T=⟨rzI,2⟩:=BAD.out 2 (by have a9:=H1.out;have a8:=H4.out;unfold ovE;rw [if_neg (by omega),if_neg (by omega),if_pos (by omega)]) (by decide);subst e;exact Cd (HR2.out.laid _ _ _ _ _ _) rfl rfl rfl ⟨Bm KK.out (by omega),_,rfl,_,_,_,_,_,_,rfl,Cc _,Cc _⟩
 have g1:(m1==2)=false:=by simp [h1]
 go_wp2_with fail;refine (X1.out _ (K.out.trans KX.out)).mono ?_;rintro ee w7 ⟨rfl,q⟩;simp only [];replace KX:=hid (KX.out.trans q);clear q a0 a1 a2 a3 a4 a5;obtain ⟨-,a0,a1,a2,a3,a4,a5⟩:=(HB.out.kept KX.out).facts;go_wp2_with fail;have H2:=hid (And.intro h0 h1);clear g0 g1 h0 h1 v9;rw [rounds_succ];have hm0:m0=0∧m1=0:=by
  have a1:=H1.out;have a2:=H4.out;have a3:=H2.out;have a4:=C0.out;have a5:=C1.out;omega
 have HT:=hid (GOOD.out hm0.1 hm0.2);clear hm0 GOOD BAD H1 H4 H2 C0 C1 X0 X1;obtain ⟨k0,hk0⟩:∃ k,k=o0.k:=⟨_,rfl⟩;obtain ⟨k1,hk1⟩:∃ k,k=o1.k:=⟨_,rfl⟩;have HK0:=hid hk0;have HK1:=hid hk1;clear hk0 hk1;go_upto_region 9 with fail;go_wp2_with fail;refine (E0.out _ (K.out.trans KX.out)).mono ?_;rintro ee w8 ⟨q,v0,rfl,hv0⟩;obtain ⟨B,j,f,rfl,d0⟩:=Ax hv0;rw [←HK0.out];simp only [];have D0:=hid d0;replace KX:=hid (KX.out.trans q);clear q a0 a1 a2 a3 a4 a5 hv0 d0 E0;obtain ⟨V9,hV9,kV9,bV9,-⟩:=Lb w8 (.bool o0.v.neg) (.slice B j f) (.int .i64 o0.v.e);have HV9:=hid hV9;replace KX:=hid (KX.out.trans kV9)
 have B9:=hid bV9;replace D0:=hid (D0.out.kept kV9);obtain ⟨-,a0,a1,a2,a3,a4,a5⟩:=(HB.out.kept KX.out).facts;clear hV9 kV9 bV9;go_upto_region 10 with fail;rw [←HV9.out];go_wp2_with fail;refine (E1.out _ (K.out.trans KX.out)).mono ?_;rintro ee w10 ⟨q,v1,rfl,hv1⟩;obtain ⟨B',j',f',rfl,d1⟩:=Ax hv1;rw [←HK1.out];simp only [];have D1:=hid d1;replace KX:=hid (KX.out.trans q);replace B9:=hid (B9.out.kept q);replace D0:=hid (D0.out.kept q);clear q a0 a1 a2 a3 a4 a5 hv1 d1 E1 HV9;obtain ⟨V11,hV11,kV11,bV11,-⟩:=Lb w10 (.bool o1.v.neg) (.slice B' j' f') (.int .i64 o1.v.e);have HV11:=hid hV11;replace KX:=hid (KX.out.trans kV11)
 replace B9:=hid (B9.out.kept kV11);have B11:=hid bV11;replace D0:=hid (D0.out.kept kV11);replace D1:=hid (D1.out.kept kV11);have HR2:=hid (HR.out.kept KX.out);have KK:=hid (K.out.trans KX.out);clear hV11 kV11 bV11 HR HB KX;go_upto_region 11 with fail;rw [←HV11.out];obtain ⟨-,x0,x1,x2,x3,x4,x5⟩:=HR2.out.facts;obtain ⟨f0,f1,f2,f3,f4,f5⟩:=HR2.out.free;by_cases z0:k0=0
 ·by_cases z1:k1=0
  ·have g0:(k0 != 0)=false:=by simp [z0]
   have g1:(k1 != 0)=false:=by simp [z1]
   obtain ⟨-,c0,c1,c2⟩:=B9.out.facts;obtain ⟨-,e0,e1,e2⟩:=B11.out.facts;go_wp2_with fail;have e:T=⟨⟨o0.v,o1.v⟩,0⟩:=by
    rw [HT.out,if_neg (by rw [←HK0.out,←HK1.out];omega)]
   subst e;exact Cd (HR2.out.laid _ _ _ _ _ _) rfl rfl rfl ⟨Bm KK.out (by omega),_,rfl,_,_,_,_,_,_,rfl,D0.out.ivW HR2.out _ _ _ _ _ _,D1.out.ivW HR2.out _ _ _ _ _ _⟩
  ·have g0:(k0 != 0)=false:=by simp [z0]
   have g1:(k1 != 0)=true:=by simp [z1]
   go_wp2_with fail;have e:T=⟨rzI,max 0 k1⟩:=by
    rw [HT.out,if_pos (by rw [←HK0.out,←HK1.out];omega),←HK0.out,←HK1.out,z0]
   subst e;exact Cd (HR2.out.laid _ _ _ _ _ _) rfl rfl rfl ⟨Bm KK.out (by omega),_,rfl,_,_,_,_,_,_,rfl,Cc _,Cc _⟩
 ·have g0:(k0 != 0)=true:=by simp [z0]
  go_wp2_with fail;have e:T=⟨rzI,max k0 k1⟩:=by
   rw [HT.out,if_pos (by rw [←HK0.out,←HK1.out];omega),←HK0.out,←HK1.out]
  subst e;exact Cd (HR2.out.laid _ _ _ _ _ _) rfl rfl rfl ⟨Bm KK.out (by omega),_,rfl,_,_,_,_,_,_,rfl,Cc _,Cc _⟩
theorem Aag:OvC ovI:=⟨fun a p ha p1 p2=>Aen a p ha p1 p2,fun _ _ _ _ hv ok hT p1 p2=>Ahx hv ok hT p1 p2⟩
end Go.Proofs.YtabjjdicffcolaaGreatDoor
