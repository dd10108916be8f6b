/- Words and contracts, part 40. -/
import Derived.Test.YtinbgjcooolbiaaGreatDoorClaimPartsp34
import Derived.Test.YtinbgjcooolbiaaGreatDoorClaimPartsp39
set_option maxRecDepth 100000
set_option maxHeartbeats 0
namespace Go.Proofs.YtinbgjcooolbiaaGreatDoor
open Go.Lib (hid)
open Go.RowKit
theorem Zo (neg:Bool)(m p:Nat)(up:Bool):Gv neg m p up≤m+1:=by
 unfold Gv;have:=Nat.div_le_self m (2^(bl m-p));split
 ·omega
 ·split<;>omega
theorem Tq {neg:Bool}{m p:Nat}{up:Bool}(h:bl m≤10000):(Dg.limbs (Gv neg m p up)).length≤1000000:=by
 have h1:=Zo neg m p up;have h2:=Bi m;obtain ⟨K,hK⟩:∃ K:Nat,K=10000:=⟨_,rfl⟩;have h3:2^bl m≤2^K:=Nat.pow_le_pow_right (by decide) (by omega);have h4:=Gb (Gv neg m p up) (K+1) (by rw [Nat.pow_succ];omega);have:=Dg.len_bl (Gv neg m p up);omega
theorem Px {a b:Dy}{p:Nat}(oa:a.Ok)(ob:b.Ok)(h0:a.m≠0)(p2:p≤1000):bl (Jg a b p)≤9400:=by
 have ba:=Kz oa;have bb:=Kz ob;have hX:bl (a.m*2^Ch a b p)≤9300:=by rw [Ci _ _ h0];unfold Ch;omega
 unfold Jg;generalize a.m*2^Ch a b p=X at *;have hqx:X/b.m≤X:=Nat.div_le_self _ _;have h1:=Bi X;obtain ⟨K,hK⟩:∃ K:Nat,K=9300:=⟨_,rfl⟩;have h3:2^bl X≤2^K:=Nat.pow_le_pow_right (by decide) (by omega);have e:(2:Nat)^(K+2)=2^K*2*2:=by rw [Nat.pow_succ,Nat.pow_succ]
 have:(if X%b.m=0 then X/b.m*2 else X/b.m*2+1)<2^(K+2):=by
  rw [e];split<;>omega
 have:=Gb _ _ this;omega
theorem X0 {a b:Dy}{p:Nat}{up:Bool}(oa:a.Ok)(ob:b.Ok)(p2:p≤1000):(Dg.limbs (Lc a b p up)).length≤1000000:=by
 unfold Lc;by_cases h:a.m=0
 ·rw [if_pos h,Dg.limbs_zero];exact Nat.zero_le _
 ·rw [if_neg h];exact Tq (by have:=Px oa ob h p2;omega)
theorem Acf {a b:Dy}{p:Nat}(oa:a.Ok)(ob:b.Ok)(p2:p≤1000):-100000000≤Ka a b p∧Ka a b p≤100000000:=by
 unfold Ka;by_cases h:a.m=0
 ·rw [if_pos h];omega
 ·rw [if_neg h];have:=Px oa ob h p2;have ba:=Kz oa;have bb:=Kz ob;have a1:=oa.lo;have a2:=oa.hi;have b1:=ob.lo;have b2:=ob.hi;have:Ch a b p≤5200:=by unfold Ch;omega
  omega
theorem Aal {w:World}{v u:Value}{x y:Dy}{p:Nat}{up:Bool}(ha:DyR w v x.raw)(hb:DyR w u y.raw)(hx:x.Ok)(hy:y.Ok)(hy0:y.m≠0)(p1:1≤p)(p2:p≤1000) :
 Calls Tryz.prog 39 #[v,u,.int .i64 p,.bool up] w (RetE (Bh x y p up).raw w):=by
 have lx:=Di hx;have ly:=Di hy;have M1:=hid (fun w1 (k:Kept w w1)=>show Calls Tryz.prog 79 #[v] w1 (RetK (.bool true) w1) by have h:=Hz (ha.kept k) (by omega);rwa [hx.may] at h);have M2:=hid (fun w1 (k:Kept w w1)=>show Calls Tryz.prog 79 #[u] w1 (RetK (.bool true) w1) by have h:=Hz (hb.kept k) (by omega);rwa [hy.may] at h);have O1:=hid (fun w1 (k:Kept w w1)=>show Calls Tryz.prog 84 #[v] w1 (Dg.RetN x.neg x.m x.e w1) by have h:=Dg.of_c (ha.kept k) (by omega);rwa [show Go.Proofs.YtinbgjcooolbiaaGreatDoor.val x.raw.m=x.m from val_limbs _] at h);have O2:=hid (fun w1 (k:Kept w w1)=>show Calls Tryz.prog 84 #[u] w1 (Dg.RetN y.neg y.m y.e w1) by have h:=Dg.of_c (hb.kept k) (by omega);rwa [show Go.Proofs.YtinbgjcooolbiaaGreatDoor.val y.raw.m=y.m from val_limbs _] at h)
 have PA:=hid (fun w1 v1 v2 (h1:Dg.DN w1 v1 x.neg x.m x.e) (h2:Dg.DN w1 v2 y.neg y.m y.e)=>Ace (up:=up) h1 h2 hx hy hy0 p1 p2);have pe:=Acf hx hy p2;have WI:=hid (fun w1 v1 (h1:Dg.DN w1 v1 (N6 x y) (Lc x y p up) (Ka x y p))=>show Calls Tryz.prog 82 #[v1] w1 (RetE (Bh x y p up).raw w1) by
  have h:=T8 h1 (X0 hx hy p2) pe.1 pe.2;rwa [Uy hy0] at h)
 obtain ⟨A,l,c,rfl,-,-,-,-⟩:=ha.shape;obtain ⟨B,j,d,rfl,hj,-,-,-⟩:=hb.shape;have hj0:(((j:Nat):Int)==0)=false:=by
  have hh:j≠0:=by
   rintro rfl;have h1:(limbs y.m).length=0:=hj.symm;have h2:limbs y.m=[]:=List.eq_nil_of_length_eq_zero h1;have h3:=val_limbs y.m;rw [h2] at h3;exact hy0 h3.symm
  simp;omega
 have d1:decide ((p:Int)<1)=false:=decide_eq_false (by omega);have d2:decide ((2000:Int)<(p:Int))=false:=decide_eq_false (by omega);have d3:decide (p<1)=false:=decide_eq_false (by omega);have d4:decide (2000<p)=false:=decide_eq_false (by omega);have d5:decide (p=0)=false:=decide_eq_false (by omega);clear lx ly hx hy hy0 ha hb pe hj;simp only [Dy.raw] at *;generalize Bh x y p up=T at *;generalize Lc x y p up=pm at *;generalize Ka x y p=pe at *;generalize N6 x y=pn at *;generalize x.neg=n1 at *;generalize x.e=e1 at *;generalize x.m=m1 at *;generalize y.neg=n2 at *;generalize y.e=e2 at *
 generalize y.m=m2 at *;obtain ⟨W,hW,kW,BA,BB,BC⟩:=Gu w (.bool n1) (.slice A l c) (.int .i64 e1) (.bool n2) (.slice B j d) (.int .i64 e2);have HW:=hid hW;have K:=hid kW;have HA:=hid BA;have HB:=hid BB;have HC:=hid BC;clear hW kW BA BB BC;obtain ⟨-,a0,a1,a2,-⟩:=HA.out.facts;go_enter Tryz.func39,Tryz.ntmps39;go_wp2_with fail;rw [←HW.out];go_wp2_with fail;refine (M1.out _ K.out).mono ?_;rintro _ w1 ⟨rfl,q1⟩;replace K:=hid (K.out.trans q1);replace HA:=hid (HA.out.kept q1);replace HB:=hid (HB.out.kept q1);replace HC:=hid (HC.out.kept q1);clear a0 a1 a2 q1 M1;obtain ⟨-,b0,b1,b2,-⟩:=HB.out.facts;simp only []
 go_wp2_with fail;refine (M2.out _ K.out).mono ?_;rintro _ w2 ⟨rfl,q1⟩;replace K:=hid (K.out.trans q1);replace HA:=hid (HA.out.kept q1);replace HB:=hid (HB.out.kept q1);replace HC:=hid (HC.out.kept q1);clear b0 b1 b2 q1 M2;obtain ⟨-,b0,b1,b2,-⟩:=HB.out.facts;simp only [];go_wp2_with fail;clear b0 b1 b2
 refine Q9 10 ([(vE (.agg #[.bool n1,.slice A l c,.int .i64 e1])),(fun v wv=>Dg.DN wv v n1 m1 e1),(vE (.agg #[.bool n2,.slice B j d,.int .i64 e2])),(fun v wv=>Dg.DN wv v n2 m2 e2),(vE (.int .i64 p)),(vE (.bool up)),(fun v wv=>Dg.DN wv v pn pm pe),(fun v wv=>∃ d,v=.tuple #[d,.int .i64 T.raw.k]∧DyR wv d T.raw.v),(fun v wv=>DyR wv v T.raw.v),(vE (.int .i64 T.raw.k))])
  (hM:=⟨⟨mE,fun v w w' k h=>by first | exact h | exact h.kept k | exact ⟨h.1,h.2.kept k⟩,mE,fun v w w' k h=>by first | exact h | exact h.kept k | exact ⟨h.1,h.2.kept k⟩,mE,mE,fun v w w' k h=>by first | exact h | exact h.kept k | exact ⟨h.1,h.2.kept k⟩,fun v w w' k h=>by obtain ⟨d,h1,h2⟩:=h;exact ⟨d,h1,h2.kept k⟩,mD,mE,trivial⟩⟩) ⟨
    (gql 4 fun _ k=>c3 HA.out k),(fun aF wF F=>by have s32:=F.v 0 32;exact Ao (by simp [Region.wanted]) (by go_simp) (O1.out _ (K.out.trans F.kept)) (fun _ _ h=>Dg.RetN.good h) (fun _ _ h=>h)),(gql 5 fun _ k=>c3 HB.out k),(fun aF wF F=>by have s34:=F.v 2 34;exact Ao (by simp [Region.wanted]) (by go_simp) (O2.out _ (K.out.trans F.kept)) (fun _ _ h=>Dg.RetN.good h) (fun _ _ h=>h)),(gq 2),(gq 3),(fun aF wF F=>by have s33:=F.p 1 33;have s35:=F.p 3 35;have s36:=F.v 4 36;have s37:=F.v 5 37;exact Ao (by simp [Region.wanted]) (by go_simp) (PA.out _ _ _ s33 s35) (fun _ _ h=>Dg.RetN.good h) (fun _ _ h=>h)),(fun aF wF F=>by have s38:=F.p 6 38;exact sE (WI.out _ _ s38) fun _ _ h=>h),(fun aF wF F=>by have s39:=F.p 7 39;obtain ⟨dd,ee,hh⟩:=s39;exact sv hh),(fun aF wF F=>by have s39:=F.p 7 39;exact sw (by obtain ⟨dd,ee,hh⟩:=s39;go_simp) rfl),
    trivial⟩ ?_
 intro u w3 k3 hu;have p33:=hp hu 1;have p35:=hp hu 3;have p38:=hp hu 6;have p39:=hp hu 7;have p40:=hp hu 8;simp only [Av,Am,if_true,Act.put,zlA,zlB,zlC,zlD,zlE,zlF,zlG,hv hu 0,hv hu 2,hv hu 4,hv hu 5,hv hu 9];clear hu;generalize u 1=v33,u 3=v35,u 6=v38,u 7=v39,u 8=v40 at *;obtain ⟨Az,lz,cz,rfl,-,zz,g3,g4⟩:=p40.shape;have ZZ:=hid zz;replace HC:=hid (HC.out.kept k3);replace K:=hid (K.out.trans k3);clear zz p33 p35 p38 p39 p40 k3 HA HB WI PA O1 O2;obtain ⟨-,b0,b1,b2,f0,f1,f2⟩:=HC.out.facts;refine ⟨?_,.inl (by kernel_rfl)⟩;go_simp;go_wp2_with fail;exact Bw (HC.out.laid _ _ _) rfl rfl rfl ⟨Al K.out (by omega),_,rfl,(ZZ.out.dyW HC.out (Ah _) (Ag _ _ _) (Aj _)).dyR (r:=T.raw.v) g3 g4⟩
theorem Ps (x:Int):bits .and .i64 x 1=x%2:=by
 have e:(BitVec.ofInt 64 x &&& BitVec.ofInt 64 1).toNat=(x%2).toNat:=by
  rw [BitVec.toNat_and,BitVec.toNat_ofInt,BitVec.toNat_ofInt];have e1:((1:Int)%((2^64:Nat):Int)).toNat=1:=by decide
  rw [e1,Nat.and_one_is_mod];omega
 show IntKind.i64.wrap (((BitVec.ofInt 64 x &&& BitVec.ofInt 64 1).toNat:Nat):Int)=_
 rw [e,IntKind.wrap_i64];omega
theorem Ac7 (w:World)(x y z:Value):∃ V,V=w.alloc (.cells #[x,y,z] 81)∧Kept w V∧Dg.Blk V w.heap.size x y z∧w.heap.size<V.heap.size :=
 ⟨_,rfl,Ad _ _,Dg.blk_new _ _ _ _,by simp⟩
theorem Ac8 (w:World)(x y z:Value):∃ W,W=(w.alloc (.cells #[x,y,z] 24)).alloc (.cells #[.bool false,.slice none 0 0,.int .i64 0] 24) ∧
 Kept w W∧Blk W w.heap.size x y z∧Blk W (w.heap.size+1) (.bool false) (.slice none 0 0) (.int .i64 0) :=
 ⟨_,rfl,(Ad _ _).trans (Ad _ _),Ax (blk_new _ _ _ _) _,Du _ _ _ _ _⟩
theorem U9 {d:Dy}{p:Nat}{up:Bool}(h:d.m=0):Df d p up=good dz:=by
 unfold Df Id;rw [h,Nat.zero_mul];have e:isq 0=0:=Hr 0 0 (by decide) (by decide);rw [e];have h0:∀ b c d,E0 0 b c d=if b&&d then 1 else 0:=by
  intro b c d;unfold E0 Fv;simp [Ey]
 rw [h0];simp only [Nat.zero_mul,not_true,decide_false,Bool.false_and,Bool.false_eq_true,if_false];unfold Bu;rw [if_pos rfl]
theorem V7 {d:Dy}{p:Nat}(od:d.Ok)(h0:d.m≠0)(p2:p≤1000):bl (Ld d p)≤9400∧bl (d.m*2^Bx d p)≤9300∧Bx d p≤3000:=by
 have ba:=Kz od;have hs:Bx d p≤3000:=by unfold Bx Ed;split<;>omega
 have hX:bl (d.m*2^Bx d p)≤9300:=by rw [Ci _ _ h0];omega
 refine ⟨?_,hX,hs⟩;unfold Ld;generalize d.m*2^Bx d p=X at *;have h1:=Bi X;have h2:isq X≤X:=by
  have:=(Dz X).1;by_cases hh:isq X=0
  ·omega
  ·have:=Nat.le_mul_of_pos_left (isq X) (Nat.pos_of_ne_zero hh);omega
 obtain ⟨K,hK⟩:∃ K:Nat,K=9300:=⟨_,rfl⟩;have h3:2^bl X≤2^K:=Nat.pow_le_pow_right (by decide) (by omega);have e:(2:Nat)^(K+2)=2^K*2*2:=by rw [Nat.pow_succ,Nat.pow_succ]
 have:(if isq X*isq X=X then isq X*2 else isq X*2+1)<2^(K+2):=by
  rw [e];split<;>omega
 have:=Gb _ _ this;omega
theorem T6 {w:World}{v:Value}{x:Dy}{p:Nat}{up:Bool}(ha:DyR w v x.raw)(hx:x.Ok)(p1:1≤p)(p2:p≤1000) :
 Calls Tryz.prog 44 #[v,.int .i64 p,.bool up] w (RetE (if x.neg then bad 4 else Df x p up).raw w):=by
 have lx:=Di hx;have M1:=hid (fun w1 (k:Kept w w1)=>show Calls Tryz.prog 79 #[v] w1 (RetK (.bool true) w1) by have h:=Hz (ha.kept k) (by omega);rwa [hx.may] at h);have O1:=hid (fun w1 (k:Kept w w1)=>show Calls Tryz.prog 84 #[v] w1 (Dg.RetN x.neg x.m x.e w1) by have h:=Dg.of_c (ha.kept k) (by omega);rwa [show Go.Proofs.YtinbgjcooolbiaaGreatDoor.val x.raw.m=x.m from val_limbs _] at h);have RX:=hid ha;obtain ⟨A,l,c,rfl,hlx,-,-,-⟩:=ha.shape;have d1:decide ((p:Int)<1)=false:=decide_eq_false (by omega);have d2:decide ((2000:Int)<(p:Int))=false:=decide_eq_false (by omega);have d4:decide (2000<p)=false:=decide_eq_false (by omega)
 have d3:decide (p<1)=false:=decide_eq_false (by omega);have d5:decide (p=0)=false:=decide_eq_false (by omega);simp only [Dy.raw] at *;obtain ⟨W,hW,kW,BA,BC⟩:=Ac8 w (.bool x.neg) (.slice A l c) (.int .i64 x.e);have HW:=hid hW;have K:=hid kW;have HA:=hid BA;have HC:=hid BC;clear hW kW BA BC;by_cases hn:x.neg=true
 ·rw [hn,if_pos rfl];rw [hn] at HW HA M1;clear hlx hx ha lx O1 RX hn p1 p2;generalize x.e=e1 at *;obtain ⟨-,a0,a1,a2,-⟩:=HA.out.facts;go_enter Tryz.func44,Tryz.ntmps44;go_wp2_with fail;rw [←HW.out];go_wp2_with fail;refine (M1.out _ K.out).mono ?_;rintro _ w1 ⟨rfl,q1⟩;replace K:=hid (K.out.trans q1);replace HA:=hid (HA.out.kept q1);replace HC:=hid (HC.out.kept q1);clear a0 a1 a2 q1 M1;obtain ⟨-,a0,a1,a2,-⟩:=HA.out.facts;obtain ⟨-,c0,c1,c2,f0,f1,f2⟩:=HC.out.facts;simp only [];go_wp2_with fail;exact Bw (HC.out.laid _ _ _) rfl rfl rfl ⟨Al K.out (by omega),_,rfl,by rw [bad,Outc.raw,Cj];exact rzR _⟩
 have hn':x.neg=false:=by cases h:x.neg;rfl;exact absurd h hn
 rw [if_neg hn];by_cases h0:x.m=0
 ·have hl0:l=0:=by rw [hlx];show (limbs x.m).length=0;rw [h0,limbs_zero];rfl
  rw [U9 h0];have hz:=hx.zero h0;have hxe:x.e=0:=hz.2;have hr:(good dz).raw=⟨rz,0⟩:=by simp [Outc.raw,good,Cj]
  rw [hr];subst hl0;rw [hn',hxe] at HW HA M1 ⊢;rw [hn',hxe,h0,limbs_zero] at RX;clear hlx hx lx O1 hn p1 p2 h0 ha hn' hz hxe hr;obtain ⟨-,a0,a1,a2,-⟩:=HA.out.facts;go_enter Tryz.func44,Tryz.ntmps44;go_wp2_with fail;rw [←HW.out];go_wp2_with fail;refine (M1.out _ K.out).mono ?_;rintro _ w1 ⟨rfl,q1⟩;replace K:=hid (K.out.trans q1);replace HA:=hid (HA.out.kept q1);replace HC:=hid (HC.out.kept q1);clear a0 a1 a2 q1 M1;obtain ⟨-,a0,a1,a2,-⟩:=HA.out.facts;obtain ⟨-,c0,c1,c2,f0,f1,f2⟩:=HC.out.facts;simp only [];go_wp2_with fail;exact Bw (HC.out.laid _ _ _) rfl rfl rfl ⟨Al K.out (by omega),_,rfl,(RX.out.kept K.out).dyW HC.out (Ah _) (Ag _ _ _) (Aj _) _ _ _⟩
 have hl0:(((l:Nat):Int)==0)=false:=by
  have hh:l≠0:=by
   rintro rfl;have h1:(limbs x.m).length=0:=hlx.symm;have h2:limbs x.m=[]:=List.eq_nil_of_length_eq_zero h1;have h3:=val_limbs x.m;rw [h2] at h3;exact h0 h3.symm
  simp;omega
 have bx:=Kz hx;have x1:=hx.lo;have x2:=hx.hi;have kx:(Dg.limbs x.m).length≤10000:=by have:=Dg.len_bl x.m;omega
 obtain ⟨bM,bX,bS⟩:=V7 hx h0 p2;have hs:max 0 (2*(p:Int)+6-(bl x.m:Int))=((Ed x p:Nat):Int):=by unfold Ed;omega
 have hs0:Ed x p≤3000:=by unfold Ed;omega
 have hpar:((x.e-(Ed x p:Nat))%2=0∧Bx x p=Ed x p)∨((x.e-(Ed x p:Nat))%2=1∧Bx x p=Ed x p+1):=by
  unfold Bx;by_cases h:(x.e-(Ed x p:Nat))%2=0
  ·exact .inl ⟨h,by rw [if_pos h]⟩
  ·exact .inr ⟨by omega,by rw [if_neg h]⟩
 have hev:=Jr x p;have hM:Ld x p=if isq (x.m*2^Bx x p)*isq (x.m*2^Bx x p)=x.m*2^Bx x p then isq (x.m*2^Bx x p)*2 else isq (x.m*2^Bx x p)*2+1:=rfl
 have hT:=Yr (p:=p) (up:=up) h0;have SH:=hid (fun w1 v1 (h:Dg.Lim w1 v1 (Dg.limbs x.m))=>Dg.shl_c h (Bx x p) (by omega) (by omega));have BB:=hid (fun w1 v1 (h:Dg.Lim w1 v1 (Dg.limbs x.m))=>(Dg.bits_c h (by omega)).mono fun _ _ h=>RetQ.k h);have hr1:isq (x.m*2^Bx x p)≤x.m*2^Bx x p:=by
  have h2:=(Dz (x.m*2^Bx x p)).1;by_cases hh:isq (x.m*2^Bx x p)=0
  ·omega
  ·have:=Nat.le_mul_of_pos_left (isq (x.m*2^Bx x p)) (Nat.pos_of_ne_zero hh);omega
 have hr2:=(Dz (x.m*2^Bx x p)).1;have huq:=Hr (x.m*2^Bx x p);rw [hn'] at HW HA M1 O1 ⊢;clear hn hn' hlx hx ha lx RX h0;rw [←hT];clear hT;generalize Ld x p=M at *;generalize Ed x p=s0 at *;generalize Bx x p=s at *;generalize x.m*2^s=X at *;have hXl:(Dg.limbs X).length≤10000:=by have:=Dg.len_bl X;omega
 have RO:=hid (fun w1 v1 (h:Dg.Lim w1 v1 (Dg.limbs X))=>show Calls Tryz.prog 91 #[v1] w1 (Dg.RetLim (Dg.limbs (isq X)) w1) from (Dg.root_c h (by omega)).mono fun _ _ ⟨r,g1,g2,g3⟩=>by rw [huq r g1 g2];exact g3);generalize isq X=r at *;have hrl:(Dg.limbs r).length≤10000:=Nat.le_trans (Dg.len_mono hr1) hXl;have hrr:(Dg.limbs (r*r)).length≤10000:=Nat.le_trans (Dg.len_mono hr2) hXl;have hMl:(Dg.limbs M).length≤10000:=by have:=Dg.len_bl M;omega
 have hr2l:(Dg.limbs (r*2)).length≤10000:=Nat.le_trans (Dg.len_mono (by rw [hM];split<;>omega)) hMl;have MU:=hid (fun w1 v1 (h:Dg.Lim w1 v1 (Dg.limbs r))=>Dg.mul_c h h (by omega) (by omega));have CM:=hid (fun w1 v1 v2 (h:Dg.Lim w1 v1 (Dg.limbs (r*r))) (h2:Dg.Lim w1 v2 (Dg.limbs X))=>(Dg.cmp_c h h2 (by omega) (by omega)).mono fun _ _ h=>RetQ.k h);have S1:=hid (fun w1 v1 (h:Dg.Lim w1 v1 (Dg.limbs r))=>show Calls Tryz.prog 90 #[v1,.int .i64 1] w1 (Dg.RetLim (Dg.limbs (r*2)) w1) by have g:=Dg.shl_c h 1 (by omega) (by omega);rwa [Nat.pow_one] at g);have AD:=hid (fun w1 u v1 (h:Dg.Lim w1 u (Dg.limbs (r*2))) (h':Dg.Lim w1 v1 (Dg.limbs 1))=>Dg.add_c h h' (by omega) (by rw [Dg.limbs_one];decide))
 have CU:=hid (fun w1 u (h:Dg.DN w1 u false M ((x.e-(s:Nat))/2-1))=>Yh (up:=up) (p:=p) h (by omega) (by omega) (by omega) (by omega));obtain ⟨T,hTT⟩:∃ T,Hi false (Gv false M p up) ((x.e-(s:Nat))/2-1+((bl M-p:Nat):Int))=T:=⟨_,rfl⟩;rw [hTT];have WI:=hid (fun w1 v1 (h1:Dg.DN w1 v1 false (Gv false M p up) ((x.e-(s:Nat))/2-1+((bl M-p:Nat):Int)))=>show Calls Tryz.prog 82 #[v1] w1 (RetE T.raw w1) by have h:=T8 h1 (Tq (by omega)) (by omega) (by omega);rwa [hTT] at h);clear hTT;have cc:(Bp (r*r) X=0∧r*r=X)∨(¬Bp (r*r) X=0∧¬r*r=X):=by
  unfold Bp;by_cases h1:r*r<X
  ·rw [if_pos h1];exact .inr ⟨by decide,by omega⟩
  ·rw [if_neg h1];by_cases h2:r*r=X
   ·rw [if_pos h2];exact .inl ⟨rfl,h2⟩
   ·rw [if_neg h2];exact .inr ⟨by decide,h2⟩
 have CC:=hid cc;have HM:=hid hM;have HPAR:=hid hpar;have HEV:=hid hev;have hw1:IntKind.i64.wrap (2*(p:Int))=2*(p:Int):=by simp [IntKind.wrap_i64];omega
 have hw2:IntKind.i64.wrap (2*(p:Int)+6)=2*(p:Int)+6:=by simp [IntKind.wrap_i64];omega
 have hw3:IntKind.i64.wrap (2*(p:Int)+6-(bl x.m:Int))=2*(p:Int)+6-(bl x.m:Int):=by simp [IntKind.wrap_i64];omega
 have hw4:IntKind.i64.wrap (x.e-(s0:Nat))=x.e-(s0:Nat):=by simp [IntKind.wrap_i64];omega
 have hw5:IntKind.i64.wrap ((s0:Int)+1)=(s0:Int)+1:=by simp [IntKind.wrap_i64];omega
 have hw6:IntKind.i64.wrap (x.e-(s:Nat))=x.e-(s:Nat):=by simp [IntKind.wrap_i64];omega
 have hw8:IntKind.i64.wrap ((x.e-(s:Nat))/2-1)=(x.e-(s:Nat))/2-1:=by simp [IntKind.wrap_i64];omega
 have hw7:IntKind.i64.wrap ((x.e-(s:Nat)).tdiv 2)=(x.e-(s:Nat))/2:=by
  have:(x.e-(s:Nat)).tdiv 2=(x.e-(s:Nat))/2:=by
   obtain ⟨t,ht⟩:∃ t,x.e-(s:Nat)=2*t:=⟨(x.e-(s:Nat))/2,by omega⟩;rw [ht,Int.mul_tdiv_cancel_left t (by decide)];omega
  rw [this];simp [IntKind.wrap_i64];omega
 clear kx bM bX bS hs0 hpar hev hM hr1 hr2 huq hXl hrl hrr hMl hr2l cc bx x1 x2 p1 p2;generalize (bl x.m:Int)=bx at *;generalize x.m=m1 at *;generalize x.e=e1 at *;obtain ⟨-,a0,a1,a2,-⟩:=HA.out.facts;go_enter Tryz.func44,Tryz.ntmps44;go_wp2_with fail;rw [←HW.out];go_wp2_with fail;refine (M1.out _ K.out).mono ?_;rintro _ w1 ⟨rfl,q1⟩;replace K:=hid (K.out.trans q1);replace HA:=hid (HA.out.kept q1);replace HC:=hid (HC.out.kept q1);clear a0 a1 a2 q1 M1;obtain ⟨-,a0,a1,a2,-⟩:=HA.out.facts;simp only [];go_wp2_with fail;refine (O1.out _ K.out).mono ?_;rintro _ w2 ⟨q2,v2,rfl,A2,l2,c2,rfl,z2⟩;simp only []
 obtain ⟨V,hV,kV,hb,lV⟩:=Ac7 w2 (.bool false) (.slice A2 l2 c2) (.int .i64 e1);have HV:=hid hV;have kk:=q2.trans kV;replace K:=hid (K.out.trans kk);replace HC:=hid (HC.out.kept kk);have H8:=hid hb;have Z8:=hid (z2.kept kV);clear hV kV hb lV kk q2 z2 a0 a1 a2 HA O1 hl0;go_upto_region 8 with fail;rw [←HV.out];clear HV;generalize w2.heap.size=b8 at *
 refine rS 9 ([(vE (.int .i64 p)),(vE (.int .i64 (2*(p:Int)))),(vE (.int .i64 (2*(p:Int)+6))),(vP b8 1),(vE (.slice A2 l2 c2)),(vE (.int .i64 bx)),(vE (.int .i64 (2*(p:Int)+6-bx))),(vE (.int .i64 (max 0 (2*(p:Int)+6-bx)))),(vE (.int .i64 (max 0 (2*(p:Int)+6-bx))))])
  ⟨
   (gq 1),(gv 0 35),(gv 1 36),(gq 8),(gvl 3 38 fun _ k=>Af H8.out k 1 _ rfl),(fun aF wF F=>by have s39:=F.v 4 39;exact sK (BB.out _ _ (Z8.out.kept F.kept)) fun _ _ h=>h),(gvv 2 37 5 40),(gv 6 41),(gv 7 42),
   trivial⟩ ?_
 intro u w3 k3 hu;simp only [Av,Am,if_true,Act.put,zlA,zlB,zlC,zlD,zlE,zlF,zlG,hv hu 0,hv hu 1,hv hu 2,hv hu 3,hv hu 4,hv hu 5,hv hu 6,hv hu 7,hv hu 8];clear hu;rw [hs];clear hs hw1 hw2 hw3 BB;replace K:=hid (K.out.trans k3);replace HC:=hid (HC.out.kept k3);replace H8:=hid (H8.out.kept k3);replace Z8:=hid (Z8.out.kept k3);clear k3;go_upto_region 9 with fail
 refine rS 6 ([(vP b8 2),(vE (.int .i64 e1)),(vE (.int .i64 s0)),(vE (.int .i64 (e1-(s0:Nat)))),(vE (.int .i64 ((e1-(s0:Nat))%2))),(vE (.bool ((e1-(s0:Nat))%2 != 0)))])
  ⟨
   (gq 8),(gvl 0 43 fun _ k=>Af H8.out k 2 _ rfl),(gq 9),(gvv 1 44 2 45),(fun aF wF F=>by have s46:=F.v 3 46;exact sw (by (go_simp;rw [Ps])) rfl),(gv 4 47),
   trivial⟩ ?_
 intro u w4 k4 hu;simp only [Av,Am,if_true,Act.put,zlA,zlB,zlC,zlD,zlE,zlF,zlG,hv hu 0,hv hu 1,hv hu 2,hv hu 3,hv hu 4,hv hu 5];clear hu;clear hw4;replace K:=hid (K.out.trans k4);replace HC:=hid (HC.out.kept k4);replace H8:=hid (H8.out.kept k4);replace Z8:=hid (Z8.out.kept k4);clear k4
 go_upto_if 48 with fail
 go_cut [9] (fun s9 wx=>s9=.int .i64 (s:Int)∧wx=w4)
 case first =>
  rcases HPAR.out with ⟨g1,g2⟩ | ⟨g1,g2⟩
  ·have e0:((e1-(s0:Nat))%2 != 0)=false:=by rw [g1];rfl
   subst g2;clear HPAR g1;go_wp2_with fail
   go_meet
   exact ⟨rfl,rfl⟩
  ·have e0:((e1-(s0:Nat))%2 != 0)=true:=by rw [g1];rfl
   have g3:((s:Nat):Int)=(s0:Int)+1:=by omega
   clear HPAR g1;go_wp2_with fail
   go_meet
   exact ⟨by rw [g3],rfl⟩
 obtain ⟨rfl,rfl⟩:=hcut;clear HPAR hw5;obtain ⟨-,a0,a1,a2,-⟩:=H8.out.facts;go_wp2_with fail;refine (SH.out _ _ Z8.out).mono ?_;rintro _ w5 ⟨v5,rfl,z5,q1⟩;obtain ⟨A3,c3,rfl⟩:=Dg.Lim.shape z5
 skip
 have ZX:=hid z5;replace K:=hid (K.out.trans q1);replace HC:=hid (HC.out.kept q1);replace H8:=hid (H8.out.kept q1);clear z5 q1;generalize hl5:(Dg.limbs X).length=l3 at *;clear hl5;simp only [];go_wp2_with fail;refine (RO.out _ _ ZX.out).mono ?_;rintro _ w6 ⟨v5,rfl,z5,q1⟩;obtain ⟨A4,c4,rfl⟩:=Dg.Lim.shape z5;replace ZX:=hid (ZX.out.kept q1);have ZR:=hid z5;replace K:=hid (K.out.trans q1);replace HC:=hid (HC.out.kept q1);replace H8:=hid (H8.out.kept q1);clear z5 q1;generalize hl5:(Dg.limbs r).length=l4 at *;clear hl5;simp only [];go_wp2_with fail;refine (MU.out _ _ ZR.out).mono ?_;rintro _ w7 ⟨v5,rfl,z5,q1⟩
 obtain ⟨A5,c5,rfl⟩:=Dg.Lim.shape z5;replace ZX:=hid (ZX.out.kept q1);replace ZR:=hid (ZR.out.kept q1);have ZQ:=hid z5;replace K:=hid (K.out.trans q1);replace HC:=hid (HC.out.kept q1);replace H8:=hid (H8.out.kept q1);clear z5 q1;generalize hl5:(Dg.limbs (r*r)).length=l5 at *;clear hl5;simp only [];go_wp2_with fail;refine (CM.out _ _ _ ZQ.out ZX.out).mono ?_;rintro _ w8 ⟨rfl,q1⟩;simp only [];replace K:=hid (K.out.trans q1);replace HC:=hid (HC.out.kept q1);replace H8:=hid (H8.out.kept q1);replace ZR:=hid (ZR.out.kept q1);clear q1 ZQ ZX a0 a1 a2 SH RO MU CM;go_wp2_with fail;refine (S1.out _ _ ZR.out).mono ?_
 rintro _ w9 ⟨v5,rfl,z5,q1⟩;obtain ⟨A9,c9,rfl⟩:=Dg.Lim.shape z5
 skip
 have ZW:=hid z5;replace K:=hid (K.out.trans q1);replace HC:=hid (HC.out.kept q1);replace H8:=hid (H8.out.kept q1);clear z5 q1;generalize hl5:(Dg.limbs (r*2)).length=l9 at *;clear hl5;simp only [];clear ZR S1;rcases CC.out with ⟨g1,g2⟩ | ⟨g1,g2⟩
 ·have hM:M=r*2:=by rw [HM.out,if_pos g2]
  rw [g1];subst hM;clear HM CC g1 g2 AD;go_upto_region 17 with fail
  refine rS2 14 ([(vE (.slice A9 l9 c9)),(vP b8 2),(vE (.int .i64 e1)),(vE (.int .i64 (s:Int))),(vE (.int .i64 (e1-(s:Nat)))),(vE (.int .i64 ((e1-(s:Nat))/2))),(vE (.int .i64 ((e1-(s:Nat))/2-1))),(fun v wv=>Dg.DN wv v false (r*2) ((e1-(s:Nat))/2-1)),(vE (.int .i64 p)),(vE (.bool up)),(fun v wv=>Dg.DN wv v false (Gv false (r*2) p up) ((e1-(s:Nat))/2-1+((bl (r*2)-p:Nat):Int))),(fun v wv=>∃ d,v=.tuple #[d,.int .i64 T.raw.k]∧DyR wv d T.raw.v),(fun v wv=>DyR wv v T.raw.v),(vE (.int .i64 T.raw.k))])
   (hM:=⟨⟨mE,mE,mE,mE,mE,mE,mE,fun v w w' k h=>h.kept k,mE,mE,fun v w w' k h=>by first | exact h | exact h.kept k | exact ⟨h.1,h.2.kept k⟩,fun v w w' k h=>by obtain ⟨d,h1,h2⟩:=h;exact ⟨d,h1,h2.kept k⟩,mD,mE,trivial⟩⟩) ⟨
     (gq 11),(gq 8),(gvl 1 71 fun _ k=>Af H8.out k 2 _ rfl),(gq 9),(gvv 2 72 3 73),(gv 4 74),(gv 5 75),(fun aF wF F=>by have s70:=F.v 0 70;have s76:=F.v 6 76;simp only [Array.getD_eq_getD_getElem?] at s70;simp only [Array.getD_eq_getD_getElem?] at s76;exact sv ⟨_,_,_,rfl,ZW.out.kept F.kept⟩),(gq 1),(gq 2),(fun aF wF F=>by have s77:=F.p 7 77;have s78:=F.v 8 78;have s79:=F.v 9 79;exact Ao (by simp [Region.wanted]) (by go_simp) (CU.out _ _ s77) (fun _ _ h=>Dg.RetN.good h) (fun _ _ h=>h)),(fun aF wF F=>by have s80:=F.p 10 80;exact sE (WI.out _ _ s80) fun _ _ h=>h),(fun aF wF F=>by have s81:=F.p 11 81;obtain ⟨dd,ee,hh⟩:=s81;exact sv hh),(fun aF wF F=>by have s81:=F.p 11 81;exact sw (by obtain ⟨dd,ee,hh⟩:=s81;go_simp) rfl),
     trivial⟩ ?_
  intro u w20 k20 hu;have p77:=hp hu 7;have p80:=hp hu 10;have p81:=hp hu 11;have p82:=hp hu 12;simp only [Av,Am,if_true,Act.put,zlA,zlB,zlC,zlD,zlE,zlF,zlG,hv hu 0,hv hu 1,hv hu 2,hv hu 3,hv hu 4,hv hu 5,hv hu 6,hv hu 8,hv hu 9,hv hu 13];clear hu;generalize u 7=v77,u 10=v80,u 11=v81,u 12=v82 at *;obtain ⟨Az,lz,cz,rfl,-,zz,g3,g4⟩:=p82.shape;have ZZ:=hid zz;replace HC:=hid (HC.out.kept k20);replace K:=hid (K.out.trans k20);clear zz p77 p80 p81 p82 k20 H8 Z8 CU WI;obtain ⟨-,b0,b1,b2,f0,f1,f2⟩:=HC.out.facts;go_simp;go_wp2_with fail;exact Bw (HC.out.laid _ _ _) rfl rfl rfl ⟨Al K.out (by omega),_,rfl,(ZZ.out.dyW HC.out (Ah _) (Ag _ _ _) (Aj _)).dyR (r:=T.raw.v) g3 g4⟩
 ·have hM:M=r*2+1:=by rw [HM.out,if_neg g2]
  have g0:(Bp (r*r) X==0)=false:=by simpa using g1
  subst hM;clear HM CC g1 g2;generalize Bp (r*r) X=cv at *;go_wp2_with fail;refine (AD.out _ _ _ (ZW.out.kept (Ad _ _)) (Dg.lim_one _)).mono ?_;rintro _ w10 ⟨v4,rfl,z4,q4⟩;have Z4:=hid z4;obtain ⟨A10,c10,rfl⟩:=Dg.Lim.shape z4;have q5:=(Ad _ _).trans q4;replace K:=hid (K.out.trans q5);replace HC:=hid (HC.out.kept q5);replace H8:=hid (H8.out.kept q5);clear q4 q5 z4 ZW AD g0;generalize hl4:(Dg.limbs (r*2+1)).length=l10 at *;clear hl4;generalize r*2+1=M at *;simp only [];go_upto_region 17 with fail
  refine rS2 14 ([(vE (.slice A10 l10 c10)),(vP b8 2),(vE (.int .i64 e1)),(vE (.int .i64 (s:Int))),(vE (.int .i64 (e1-(s:Nat)))),(vE (.int .i64 ((e1-(s:Nat))/2))),(vE (.int .i64 ((e1-(s:Nat))/2-1))),(fun v wv=>Dg.DN wv v false M ((e1-(s:Nat))/2-1)),(vE (.int .i64 p)),(vE (.bool up)),(fun v wv=>Dg.DN wv v false (Gv false M p up) ((e1-(s:Nat))/2-1+((bl M-p:Nat):Int))),(fun v wv=>∃ d,v=.tuple #[d,.int .i64 T.raw.k]∧DyR wv d T.raw.v),(fun v wv=>DyR wv v T.raw.v),(vE (.int .i64 T.raw.k))])
   (hM:=⟨⟨mE,mE,mE,mE,mE,mE,mE,fun v w w' k h=>h.kept k,mE,mE,fun v w w' k h=>by first | exact h | exact h.kept k | exact ⟨h.1,h.2.kept k⟩,fun v w w' k h=>by obtain ⟨d,h1,h2⟩:=h;exact ⟨d,h1,h2.kept k⟩,mD,mE,trivial⟩⟩) ⟨
     (gq 11),(gq 8),(gvl 1 71 fun _ k=>Af H8.out k 2 _ rfl),(gq 9),(gvv 2 72 3 73),(gv 4 74),(gv 5 75),(fun aF wF F=>by have s70:=F.v 0 70;have s76:=F.v 6 76;simp only [Array.getD_eq_getD_getElem?] at s70;simp only [Array.getD_eq_getD_getElem?] at s76;exact sv ⟨_,_,_,rfl,Z4.out.kept F.kept⟩),(gq 1),(gq 2),(fun aF wF F=>by have s77:=F.p 7 77;have s78:=F.v 8 78;have s79:=F.v 9 79;exact Ao (by simp [Region.wanted]) (by go_simp) (CU.out _ _ s77) (fun _ _ h=>Dg.RetN.good h) (fun _ _ h=>h)),(fun aF wF F=>by have s80:=F.p 10 80;exact sE (WI.out _ _ s80) fun _ _ h=>h),(fun aF wF F=>by have s81:=F.p 11 81;obtain ⟨dd,ee,hh⟩:=s81;exact sv hh),(fun aF wF F=>by have s81:=F.p 11 81;exact sw (by obtain ⟨dd,ee,hh⟩:=s81;go_simp) rfl),
     trivial⟩ ?_
  intro u w20 k20 hu;have p77:=hp hu 7;have p80:=hp hu 10;have p81:=hp hu 11;have p82:=hp hu 12;simp only [Av,Am,if_true,Act.put,zlA,zlB,zlC,zlD,zlE,zlF,zlG,hv hu 0,hv hu 1,hv hu 2,hv hu 3,hv hu 4,hv hu 5,hv hu 6,hv hu 8,hv hu 9,hv hu 13];clear hu;generalize u 7=v77,u 10=v80,u 11=v81,u 12=v82 at *;obtain ⟨Az,lz,cz,rfl,-,zz,g3,g4⟩:=p82.shape;have ZZ:=hid zz;replace HC:=hid (HC.out.kept k20);replace K:=hid (K.out.trans k20);clear zz p77 p80 p81 p82 k20 H8 Z8 CU WI;obtain ⟨-,b0,b1,b2,f0,f1,f2⟩:=HC.out.facts;go_simp;go_wp2_with fail;exact Bw (HC.out.laid _ _ _) rfl rfl rfl ⟨Al K.out (by omega),_,rfl,(ZZ.out.dyW HC.out (Ah _) (Ag _ _ _) (Aj _)).dyR (r:=T.raw.v) g3 g4⟩
end Go.Proofs.YtinbgjcooolbiaaGreatDoor
