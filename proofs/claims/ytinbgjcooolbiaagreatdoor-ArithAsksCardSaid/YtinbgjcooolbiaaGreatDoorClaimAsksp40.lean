/- Words and contracts, part 40. -/
import Derived.Test.YtinbgjcooolbiaaGreatDoorClaimAsksp39
set_option maxRecDepth 100000
set_option maxHeartbeats 0
namespace Go.Proofs.YtinbgjcooolbiaaGreatDoor
open Go.Lib (hid)
open Go.RowKit
theorem Qq (a:Iv):((!decide (Bn dz.q a.lo.q<0))&&(!decide (Bn a.hi.q dz.q<0)))=Cm a:=by
 unfold Cm;rw [Ul];have e1:(!decide (Bn 0 a.lo.q<0))=decide (Bn a.lo.q 0≤0):=by
  rw [←decide_not,decide_eq_decide,Gn,Gm,Rat.not_lt]
 have e2:(!decide (Bn a.hi.q 0<0))=decide (Bn 0 a.hi.q≤0):=by
  rw [←decide_not,decide_eq_decide,Gn,Gm,Rat.not_lt]
 rw [e1,e2]
theorem Ac4 (w:World)(x y z x' y' z' p q r:Value):∃ W,W=(w.alloc (.cells #[x,y,z,x',y',z'] 26)).alloc (.cells #[p,q,r] 24)∧Kept w W∧BlkI W w.heap.size x y z x' y' z'∧Blk W (w.heap.size+1) p q r:=by
 refine ⟨_,rfl,(Ad _ _).trans (Ad _ _),(Ey _ _ _ _ _ _ _).kept (Ad _ _),?_⟩;have:=blk_new (w.alloc (.cells #[x,y,z,x',y',z'] 26)) p q r;simpa using this
theorem Aac {w:World}{v:Value}{a:Iv}(ha:IvR w v a.raw)(hok:a.Ok) :
 Calls Tryz.prog 38 #[v,.agg #[.bool false,.slice none 0 0,.int .i64 0]] w (RetK (.bool (Cm a)) w):=by
 rw [←Qq];have hm:Dj a.raw=true:=Eg hok;have M1:=hid (fun w1 (k:Kept w w1)=>show Calls Tryz.prog 36 #[v] w1 (RetK (.bool true) w1) by have h:=Fz (ha.kept k) (Ez hok);rwa [hm] at h);have hz:∀ w1,DyR w1 (.agg #[.bool false,.slice none 0 0,.int .i64 0]) dz.raw:=fun w1=>by rw [Cp];exact Eo w1
 have M2:=hid (fun w1=>show Calls Tryz.prog 79 #[.agg #[.bool false,.slice none 0 0,.int .i64 0]] w1 (RetK (.bool true) w1) by have h:=Gf (hz w1) (by have:=Co dz_ok;omega);rwa [dz_ok.may] at h);obtain ⟨A,l,c,B,m,d,rfl,h1,h2⟩:=Ao ha;have L1:=hid (fun w1 (k:Kept w w1)=>L8 (hz w1) (h1.kept k) dz_ok hok.lo);have L2:=hid (fun w1 (k:Kept w w1)=>L8 (h2.kept k) (hz w1) hok.hi dz_ok);clear h1 h2 ha hok hm hz;generalize decide (Bn dz.q a.lo.q<0)=r1 at *;generalize decide (Bn a.hi.q dz.q<0)=r2 at *;simp only [Iv.raw,Dy.raw] at *;generalize a.lo.neg=n1 at *;generalize a.lo.e=e1 at *
 generalize a.hi.neg=n2 at *;generalize a.hi.e=e2 at *;obtain ⟨W,hW,kW,BA,BD⟩:=Ac4 w (.bool n1) (.slice A l c) (.int .i64 e1) (.bool n2) (.slice B m d) (.int .i64 e2) (.bool false) (.slice none 0 0) (.int .i64 0);have HW:=hid hW;have K:=hid kW;have HA:=hid BA;have HB:=hid BD;clear hW kW BA BD;go_enter Tryz.func38,Tryz.ntmps38;go_upto_region 1 with fail;rw [←HW.out]
 refine rS 21 ([(vE (.agg #[.bool n1,.slice A l c,.int .i64 e1,.bool n2,.slice B m d,.int .i64 e2])),(vE (.bool true)),(vE (.bool true)),(vE (.agg #[.bool false,.slice none 0 0,.int .i64 0])),(vE (.bool true)),(vE (.bool true)),(vE (.bool true)),(vE (.agg #[.bool false,.slice none 0 0,.int .i64 0])),(vP w.heap.size 0),(vE (.agg #[.bool n1,.slice A l c,.int .i64 e1])),(vE (.bool r1)),(vE (.bool (!r1))),(vE (.bool (!r1))),(vE (.bool (!r1))),(fun v wv=>((!r1)=true→(fun v _=>v=(.pointer (some ⟨w.heap.size,3,none⟩))) v wv)∧((!r1)=false→v=undef)),(fun v wv=>((!r1)=true→(fun v _=>v=(.agg #[.bool n2,.slice B m d,.int .i64 e2])) v wv)∧((!r1)=false→v=undef)),(fun v wv=>((!r1)=true→(fun v _=>v=(.agg #[.bool false,.slice none 0 0,.int .i64 0])) v wv)∧((!r1)=false→v=undef)),(fun v wv=>((!r1)=true→(fun v _=>v=(.bool r2)) v wv)∧((!r1)=false→v=undef)),(fun v wv=>((!r1)=true→(fun v _=>v=(.bool (!r2))) v wv)∧((!r1)=false→v=undef)),(vE (.bool (!r1&&!r2))),(vE (.bool (!r1&&!r2)))])
  ⟨
   (gql 2 fun _ k=>c6 HA.out k),(fun aF wF F=>by have s5:=F.v 0 5;exact sK (M1.out _ (K.out.trans F.kept)) fun _ _ h=>h),(gv 1 6),(fun aF wF F=>by have s3:=F.q 3 (.pointer (some ⟨w.heap.size+1,0,none⟩));obtain ⟨c0,c1,c2⟩:=c3 HB.out F.kept;have sg:=F.v 2 7;exact Ar ((Aj rfl rfl sg).trans rfl) (by go_simp) rfl),(fun aF wF F=>by have s8:=F.v 3 8;have sg:=F.v 2 7;exact Am ((Aj rfl rfl sg).trans rfl) (by go_simp) (M2.out _) (fun _ _ h=>RetK.good h) (fun _ _ h=>h)),(gvv 2 7 4 9),(gv 5 10),(fun aF wF F=>by have s3:=F.q 3 (.pointer (some ⟨w.heap.size+1,0,none⟩));obtain ⟨c0,c1,c2⟩:=c3 HB.out F.kept;have sg:=F.v 6 11;exact Ar ((Aj rfl rfl sg).trans rfl) (by go_simp) rfl),(fun aF wF F=>by have s2:=F.q 2 (.pointer (some ⟨w.heap.size,0,none⟩));have sg:=F.v 6 11;exact Ar ((Aj rfl rfl sg).trans rfl) (by go_simp) rfl),(fun aF wF F=>by have s13:=F.v 8 13;have c0:=Ag HA.out F.kept 0 _ rfl;have c1:=Ag HA.out F.kept 1 _ rfl;have c2:=Ag HA.out F.kept 2 _ rfl;have sg:=F.v 6 11;exact Ar ((Aj rfl rfl sg).trans rfl) (by go_simp) rfl),(fun aF wF F=>by have s12:=F.v 7 12;have s14:=F.v 9 14;have sg:=F.v 6 11;exact Am ((Aj rfl rfl sg).trans rfl) (by go_simp) (L1.out _ (K.out.trans F.kept)) (fun _ _ h=>RetK.good h) (fun _ _ h=>h)),(fun aF wF F=>by have s15:=F.v 10 15;have sg:=F.v 6 11;exact Ar ((Aj rfl rfl sg).trans rfl) (by go_simp) rfl),(gvv 6 11 11 16),(gv 12 17),
   (fun aF wF F=>by
  have sg:=F.v 13 18;have s2:=F.q 2 (.pointer (some ⟨w.heap.size,0,none⟩));rcases Bu (!r1) with hC | hC
  ·refine sIm hC (vE (.pointer (some ⟨w.heap.size,3,none⟩))) ?_;exact sVc rfl rfl sg (by first | rfl | simp [hC])
  ·exact sOc rfl rfl sg (by first | rfl | simp [hC]) (nW hC)),
   (fun aF wF F=>by
  have sg:=F.v 13 18;have s19:((!r1)=true→aF.tmps.getD 19 undef=(.pointer (some ⟨w.heap.size,3,none⟩)))∧((!r1)=false→aF.tmps.getD 19 undef=undef):=F.done 14 19 (by kernel_rfl) rfl;have c0:=Ag HA.out F.kept 3 _ rfl;have c1:=Ag HA.out F.kept 4 _ rfl;have c2:=Ag HA.out F.kept 5 _ rfl;rcases Bu (!r1) with hC | hC
  ·refine sIm hC (vE (.agg #[.bool n2,.slice B m d,.int .i64 e2])) ?_;replace s19:=s19.1 hC;exact sVc rfl rfl sg (by first | rfl | simp [hC])
  ·exact sOc rfl rfl sg (by first | rfl | simp [hC]) (nW hC)),
   (fun aF wF F=>by
  have sg:=F.v 13 18;have s3:=F.q 3 (.pointer (some ⟨w.heap.size+1,0,none⟩));obtain ⟨c0,c1,c2⟩:=c3 HB.out F.kept;rcases Bu (!r1) with hC | hC
  ·refine sIm hC (vE (.agg #[.bool false,.slice none 0 0,.int .i64 0])) ?_;exact sVc rfl rfl sg (by first | rfl | simp [hC])
  ·exact sOc rfl rfl sg (by first | rfl | simp [hC]) (nW hC)),
   (fun aF wF F=>by
  have sg:=F.v 13 18;have s20:((!r1)=true→aF.tmps.getD 20 undef=(.agg #[.bool n2,.slice B m d,.int .i64 e2]))∧((!r1)=false→aF.tmps.getD 20 undef=undef):=F.done 15 20 (by kernel_rfl) rfl;have s21:((!r1)=true→aF.tmps.getD 21 undef=(.agg #[.bool false,.slice none 0 0,.int .i64 0]))∧((!r1)=false→aF.tmps.getD 21 undef=undef):=F.done 16 21 (by kernel_rfl) rfl;rcases Bu (!r1) with hC | hC
  ·refine sIm hC (vE (.bool r2)) ?_;replace s20:=s20.1 hC;replace s21:=s21.1 hC;exact Am ((Aj rfl rfl sg).trans (by first | rfl | simp [hC])) (by go_simp) (L2.out _ (K.out.trans F.kept)) (fun _ _ h=>RetK.good h) (fun _ _ h=>h)
  ·exact sOc rfl rfl sg (by first | rfl | simp [hC]) (nW hC)),
   (fun aF wF F=>by
  have sg:=F.v 13 18;have s22:((!r1)=true→aF.tmps.getD 22 undef=(.bool r2))∧((!r1)=false→aF.tmps.getD 22 undef=undef):=F.done 17 22 (by kernel_rfl) rfl;rcases Bu (!r1) with hC | hC
  ·refine sIm hC (vE (.bool (!r2))) ?_;replace s22:=s22.1 hC;exact sVc rfl rfl sg (by first | rfl | simp [hC])
  ·exact sOc rfl rfl sg (by first | rfl | simp [hC]) (nW hC)),
   (fun aF wF F=>by
  have s18:=F.v 13 18;have s23:((!r1)=true→aF.tmps.getD 23 undef=(.bool (!r2)))∧((!r1)=false→aF.tmps.getD 23 undef=undef):=F.done 18 23 (by kernel_rfl) rfl;rcases Bu (!r1) with hE | hE
  ·replace s23:=s23.1 hE;exact sw (by first | (go_simp;done) | (go_simp;simp_all;done) | (simp_all;done)) rfl
  ·exact sw (by first | (go_simp;done) | (go_simp;simp_all;done) | (simp_all;done)) rfl),(gv 19 24),
   trivial⟩ ?_
 intro u w1 k1 hu;have p19:=hp hu 14;have p20:=hp hu 15;have p21:=hp hu 16;have p22:=hp hu 17;have p23:=hp hu 18;simp only [Au,An,if_true,Act.put,zlA,zlB,zlC,zlD,zlE,zlF,zlG,hv hu 0,hv hu 1,hv hu 2,hv hu 3,hv hu 4,hv hu 5,hv hu 6,hv hu 7,hv hu 8,hv hu 9,hv hu 10,hv hu 11,hv hu 12,hv hu 13,hv hu 19,hv hu 20];clear hu;generalize u 14=v19,u 15=v20,u 16=v21,u 17=v22,u 18=v23 at *;clear p19 p20 p21 p22 p23;go_wp2_with fail;go_ret;exact ⟨rfl,K.out.trans k1⟩
theorem Ut (x y:Dy):Bp x [x,y]=if Bn y.q x.q<0 then y else x:=by
 simp only [Bp,ite_self]
theorem Ph (x y:Dy):Av x [x,y]=if Bn x.q y.q<0 then y else x:=by
 simp only [Av,ite_self];by_cases h:x.q<y.q
 ·rw [if_pos (Gn.2 h),if_pos (I0.2 h)]
 ·rw [if_neg (fun hh=>h (Gn.1 hh)),if_neg (fun hh=>h (I0.1 hh))]
theorem Xz {a:Iv}{p:Nat}(h:(Bz a.lo a.lo).k≠0):Bj (F3 a p)=⟨rzI,(Bz a.lo a.lo).k⟩:=by
 unfold F3 Outc.bind Bj;rw [if_neg h,Gb]
theorem X0 {a:Iv}{p:Nat}(h:(Bz a.lo a.lo).k=0)(h2:(Bz a.hi a.hi).k≠0):Bj (F3 a p)=⟨rzI,(Bz a.hi a.hi).k⟩:=by
 unfold F3 Outc.bind Bj;rw [if_pos h];dsimp only;rw [if_neg h2,Gb]
theorem X6 {a:Iv}{p:Nat}(h:(Bz a.lo a.lo).k=0)(h2:(Bz a.hi a.hi).k=0):Bj (F3 a p) =
 Bj (D0 (Bv (if Cm a then dz else if Bn (Bz a.hi a.hi).v.q (Bz a.lo a.lo).v.q<0 then (Bz a.hi a.hi).v else (Bz a.lo a.lo).v) p false)
  (Bv (if Bn (Bz a.lo a.lo).v.q (Bz a.hi a.hi).v.q<0 then (Bz a.hi a.hi).v else (Bz a.lo a.lo).v) p true)):=by
 rw [←Ut,←Ph];unfold F3;rw [Outc.bind_of _ _ h,Outc.bind_of _ _ h2]
theorem Aah {w:World}{v:Value}{a:RawI}{p:Int}(ha:IvR w v a)(la:a.lens 17592186044416) :
 Calls Tryz.prog 19 #[v,.int .i64 p] w (RetIE (By p [a] (Bj (F3 a.iv p.toNat))) w):=by
 rw [Se];have MA:=hid (fun w1 (k:Kept w w1)=>Fz (ha.kept k) la);have P1:=hid (fun w1=>Pp (w:=w1) (p:=p));have RI:=hid ha;obtain ⟨A,l,c,A',l',c',rfl,h1,h2⟩:=Ao ha;have CA:=hid (fun (h:Dj a=true)=>Ca h1.small h2.small h);have RA:=hid h1;have RA':=hid h2;clear ha h1 h2 la;obtain ⟨ma,hma⟩:∃ x,Dj a=x:=⟨_,rfl⟩;obtain ⟨mp,hmp⟩:∃ x,(decide (1≤p)&&decide (p≤2000))=x:=⟨_,rfl⟩;have HP:=hid (fun (h:mp=true)=>show 1≤p∧p≤2000 by rw [←hmp] at h;simpa using h);rw [hma,hmp];rw [hma] at MA CA;rw [hmp] at P1;clear hma hmp;obtain ⟨T,hT⟩:∃ T,(if ma&&mp then Bj (F3 a.iv p.toNat) else ⟨rzI,1⟩)=T:=⟨_,rfl⟩
 rw [hT];have HT:=hid hT;clear hT;have CE:=hid (fun (h:(ma&&mp)=true)=>show (∃ n:Nat,p=n∧1≤n∧n≤2000)∧a.iv.Ok∧a=a.iv.raw∧T=Bj (F3 a.iv p.toNat) by
  have ht:=HT.out;rw [if_pos h] at ht;simp only [Bool.and_eq_true] at h;have:=HP.out h.2;exact ⟨⟨p.toNat,by omega,by omega,by omega⟩,(CA.out h.1).1,(CA.out h.1).2.symm,ht.symm⟩)
 have CN:=hid (fun (h:(ma&&mp)=false)=>show T=⟨rzI,1⟩ by rw [←HT.out,h];rfl);clear HT HP CA;obtain ⟨ai,hai⟩:∃ x,a.iv=x:=⟨_,rfl⟩;rw [hai] at CE;clear hai;generalize hx1:a.lo.neg=n1 at *;generalize hx2:a.lo.e=e1 at *;generalize hx3:a.hi.neg=n2 at *;generalize hx4:a.hi.e=e2 at *;clear hx1 hx2 hx3 hx4;obtain ⟨W,hW,kW,BA,BR⟩:=P9 w (.bool n1) (.slice A l c) (.int .i64 e1) (.bool n2) (.slice A' l' c') (.int .i64 e2);have HW:=hid hW;have K:=hid kW;have HA:=hid BA;have HR:=hid BR;clear hW kW BA BR;go_enter Tryz.func19,Tryz.ntmps19;go_upto_region 1 with fail;rw [←HW.out]
 refine rS 8 ([(vE (.agg #[.bool n1,.slice A l c,.int .i64 e1,.bool n2,.slice A' l' c',.int .i64 e2])),(vE (.bool ma)),(vE (.bool (!ma))),(vE (.bool (!ma))),(fun v wv=>(ma=true→(fun v _=>v=(.int .i64 p)) v wv)∧(ma=false→v=undef)),(fun v wv=>(ma=true→(fun v _=>v=(.bool mp)) v wv)∧(ma=false→v=undef)),(fun v wv=>(ma=true→(fun v _=>v=(.bool (!mp))) v wv)∧(ma=false→v=undef)),(vE (.bool (!(ma&&mp))))])
  ⟨
   (gql 2 fun _ k=>c6 HA.out k),(fun aF wF F=>by have s10:=F.v 0 10;exact sK (MA.out _ (K.out.trans F.kept)) fun _ _ h=>h),(gv 1 11),(gv 2 12),
   (fun aF wF F=>by
  have sg:=F.v 3 13;have s1:=F.q 1 (.int .i64 p);rcases Bu ma with hC | hC
  ·refine sIm hC (vE (.int .i64 p)) ?_;exact sVc rfl rfl sg (by first | rfl | simp [hC])
  ·exact sOc rfl rfl sg (by first | rfl | simp [hC]) (nW hC)),
   (fun aF wF F=>by
  have sg:=F.v 3 13;have s14:(ma=true→aF.tmps.getD 14 undef=(.int .i64 p))∧(ma=false→aF.tmps.getD 14 undef=undef):=F.done 4 14 (by kernel_rfl) rfl;rcases Bu ma with hC | hC
  ·refine sIm hC (vE (.bool mp)) ?_;replace s14:=s14.1 hC;exact Am ((Aj rfl rfl sg).trans (by first | rfl | simp [hC])) (by go_simp) (P1.out _) (fun _ _ h=>RetK.good h) (fun _ _ h=>h)
  ·exact sOc rfl rfl sg (by first | rfl | simp [hC]) (nW hC)),
   (fun aF wF F=>by
  have sg:=F.v 3 13;have s15:(ma=true→aF.tmps.getD 15 undef=(.bool mp))∧(ma=false→aF.tmps.getD 15 undef=undef):=F.done 5 15 (by kernel_rfl) rfl;rcases Bu ma with hC | hC
  ·refine sIm hC (vE (.bool (!mp))) ?_;replace s15:=s15.1 hC;exact sVc rfl rfl sg (by first | rfl | simp [hC])
  ·exact sOc rfl rfl sg (by first | rfl | simp [hC]) (nW hC)),
   (fun aF wF F=>by
  have s13:=F.v 3 13;have s16:(ma=true→aF.tmps.getD 16 undef=(.bool (!mp)))∧(ma=false→aF.tmps.getD 16 undef=undef):=F.done 6 16 (by kernel_rfl) rfl;rcases Bu ma with hE | hE
  ·replace s16:=s16.1 hE;exact sw (by first | (go_simp;done) | (go_simp;simp_all;done) | (simp_all;done)) rfl
  ·exact sw (by first | (go_simp;done) | (go_simp;simp_all;done) | (simp_all;done)) rfl),
   trivial⟩ ?_
 intro u w1 k1 hu;have p14:=hp hu 4;have p15:=hp hu 5;have p16:=hp hu 6;simp only [Au,An,if_true,Act.put,zlA,zlB,zlC,zlD,zlE,zlF,zlG,hv hu 0,hv hu 1,hv hu 2,hv hu 3,hv hu 7];clear hu;generalize u 4=v14,u 5=v15,u 6=v16 at *;clear p14 p15 p16 MA P1;replace K:=hid (K.out.trans k1);replace HA:=hid (HA.out.kept k1);replace HR:=hid (HR.out.kept k1);clear k1;rcases (Bu (ma&&mp)).symm with hg | hg
 ·have r0:=CN.out hg;subst r0;rw [hg];clear hg CN CE HA RA RA' RI;obtain ⟨-,r0,r1,r2,r3,r4,r5⟩:=HR.out.facts;obtain ⟨f0,f1,f2,f3,f4,f5⟩:=HR.out.free;go_wp2_with fail;exact Bq (HR.out.laid _ _ _ _ _ _) rfl rfl rfl ⟨Bf K.out (by omega),_,rfl,Ce _⟩
 obtain ⟨⟨n,rfl,p1,p2⟩,oa,ra,rT⟩:=CE.out hg;rw [hg];subst ra;clear hg CE CN;have os1:=(Fe ai.lo ai.lo).1;have os2:=(Fe ai.hi ai.hi).1;have S1:=hid (fun w1 (k:Kept w w1)=>Sw (RA.out.kept k) (RA.out.kept k) oa.lo oa.lo);have S2:=hid (fun w1 (k:Kept w w1)=>Sw (RA'.out.kept k) (RA'.out.kept k) oa.hi oa.hi);have H0:=hid (fun w1 (k:Kept w w1)=>Aac (RI.out.kept k) oa);have hT:T=Bj (F3 ai n):=rT;have t1:=@Xz ai n;have t2:=@X0 ai n;have t3:=@X6 ai n;rw [←hT] at t1 t2 t3;clear hT rT RA RA' RI oa;generalize Bz ai.lo ai.lo=s1 at *;generalize Bz ai.hi ai.hi=s2 at *
 generalize Cm ai=hz at *;have CL:=hid (fun w1 v1 v2 (h1:DyR w1 v1 s1.v.raw) (h2:DyR w1 v2 s2.v.raw)=>Qs h1 h2 os1 os2);have CG:=hid (fun w1 v1 v2 (h1:DyR w1 v1 s1.v.raw) (h2:DyR w1 v2 s2.v.raw)=>Ln h1 h2 os1 os2);have okl:(if Bn s2.v.q s1.v.q<0 then s2.v else s1.v).Ok:=by split<;>assumption
 have okg:(if Bn s1.v.q s2.v.q<0 then s2.v else s1.v).Ok:=by split<;>assumption
 generalize (if Bn s2.v.q s1.v.q<0 then s2.v else s1.v)=L at *;generalize (if Bn s1.v.q s2.v.q<0 then s2.v else s1.v)=G at *;have okm:(if hz then dz else L).Ok:=by cases hz;exact okl;exact dz_ok
 have QE:=hid (fun M (hM:(if hz then dz else L)=M) w1 v1 v2 (h1:DyR w1 v1 M.raw) (h2:DyR w1 v2 G.raw)=>show Calls Tryz.prog 59 #[v1,v2,.int .i64 (n:Int)] w1 (RetIE (Bj (D0 (Bv (if hz then dz else L) n false) (Bv G n true))) w1) by
  rw [hM];exact Pr h1 h2 (hM▸okm) okg p1 p2)
 have T1:=hid t1;have T2:=hid t2;have T3:=hid t3;clear t1 t2 t3 os1 os2 p1 p2 okl okg okm;obtain ⟨-,a0,a1,a2,-⟩:=HA.out.facts;have lt0:w.heap.size+1<w1.heap.size:=HR.out.facts.1;go_wp2_with fail;refine (S1.out _ K.out).mono ?_;rintro _ w3 ⟨q1,u1,rfl,hd⟩;obtain ⟨PX,pX,qX,rfl,z1⟩:=Br hd;simp only [Outc.raw];obtain ⟨VX,hV,kV,hb,lV⟩:=Mk w3 (.bool s1.v.neg) (.slice PX pX qX) (.int .i64 s1.v.e);have HV:=hid hV;have kk:=q1.trans kV;have ltX:w.heap.size+1<w3.heap.size:=by have h1:=HR.out.facts.1;have h2:=q1.size;omega
 skip
 replace K:=hid (K.out.trans kk);replace HA:=hid (HA.out.kept kk);replace HR:=hid (HR.out.kept kk);have HX:=hid hb;have ZX:=hid (z1.kept kV);clear hV kV hb lV kk q1 hd z1 a0 a1 a2;go_upto_region 4 with fail;rw [←HV.out];clear HV;generalize w3.heap.size=bX at *;by_cases h1:s1.k=0
 ·rw [h1];obtain ⟨-,a0,a1,a2,a3,a4,a5⟩:=HA.out.facts;go_wp2_with fail;refine (S2.out _ K.out).mono ?_;rintro _ w4 ⟨q1,u1,rfl,hd⟩;obtain ⟨PY,pY,qY,rfl,z1⟩:=Br        hd;simp only [Outc.raw];obtain ⟨VX,hV,kV,hb,lV⟩:=Mk    w4 (.bool s2.v.neg) (.slice PY pY qY) (.int .i64 s2.v.e);have HV:=hid hV;have kk:=q1.trans kV;have ltY:bX<w4.heap.size:=by have h1:=HX.out.facts.1;have h2:=q1.size;omega
  replace HX:=hid (HX.out.kept kk);replace ZX:=hid (ZX.out.kept kk);replace K:=hid (K.out.trans kk);replace HA:=hid (HA.out.kept kk);replace HR:=hid (HR.out.kept kk);have HY:=hid hb;have ZY:=hid (z1.kept kV);clear hV kV hb lV kk q1 hd z1 a0 a1 a2 a3 a4 a5;go_upto_region 7 with fail;rw [←HV.out];clear HV;generalize w4.heap.size=bY at *;by_cases h2:s2.k=0
  ·rw [h2];have r0:=T3.out h1 h2;rw [←r0] at QE;clear h1 h2 r0 T1 T2 T3 S1 S2;obtain ⟨-,x0,x1,x2,-⟩:=HX.out.facts;obtain ⟨-,y0,y1,y2,-⟩:=HY.out.facts;go_wp2_with fail;refine (CL.out _ _ _ ZX.out ZY.out).mono ?_;rintro _ w5 ⟨q1,u1,rfl,hd⟩;obtain ⟨PZ,pZ,qZ,rfl,z1⟩:=Br        hd;simp only [];obtain ⟨VX,hV,kV,hb,lV⟩:=Mk    w5 (.bool L.neg) (.slice PZ pZ qZ) (.int .i64 L.e);have HV:=hid hV;have kk:=q1.trans kV;have ltZ:bY<w5.heap.size:=by have h1:=HY.out.facts.1;have h2:=q1.size;omega
   replace HX:=hid (HX.out.kept kk);replace ZX:=hid (ZX.out.kept kk);replace HY:=hid (HY.out.kept kk);replace ZY:=hid (ZY.out.kept kk);replace K:=hid (K.out.trans kk);replace HA:=hid (HA.out.kept kk);replace HR:=hid (HR.out.kept kk);have HZ:=hid hb;have ZZ:=hid (z1.kept kV);clear hV kV hb lV kk q1 hd z1 x0 x1 x2 y0 y1 y2;go_upto_region 10 with fail;rw [←HV.out];clear HV;generalize w5.heap.size=bZ at *;obtain ⟨-,a0,a1,a2,a3,a4,a5⟩:=HA.out.facts;go_wp2_with fail;refine (H0.out _ K.out).mono ?_;rintro _ w6 ⟨rfl,q6⟩;replace K:=hid (K.out.trans q6);replace HR:=hid (HR.out.kept q6);replace HX:=hid (HX.out.kept q6)
   replace ZX:=hid (ZX.out.kept q6);replace HY:=hid (HY.out.kept q6);replace ZY:=hid (ZY.out.kept q6);replace HZ:=hid (HZ.out.kept q6);replace ZZ:=hid (ZZ.out.kept q6);clear q6 a0 a1 a2 a3 a4 a5 HA CL H0;simp only [];obtain ⟨-,z0,z1,z2,f0,f1,f2⟩:=HZ.out.facts;cases hz
   ·replace QE:=hid (QE.out L rfl);go_wp2_with fail;clear z0 z1 z2 f0 f1 f2
    refine Im 8 ([(vE (.agg #[.bool L.neg,.slice PZ pZ qZ,.int .i64 L.e])),(vE (.agg #[.bool s1.v.neg,.slice PX pX qX,.int .i64 s1.v.e])),(vE (.agg #[.bool s2.v.neg,.slice PY pY qY,.int .i64 s2.v.e])),(fun v wv=>DyR wv v G.raw),(vE (.int .i64 (n:Int))),(fun v wv=>∃ d,v=.tuple #[d,.int .i64 T.k]∧IvR wv d T.v),(fun v wv=>IvR wv v T.v),(vE (.int .i64 T.k))])
     ⟨
      (gql 9 fun _ k=>c3 HZ.out k),(gql 6 fun _ k=>c3 HX.out k),(gql 8 fun _ k=>c3 HY.out k),(fun aF wF F=>by have s51:=F.v 1 51;have s52:=F.v 2 52;exact sD (CG.out _ _ _ (ZX.out.kept F.kept) (ZY.out.kept F.kept)) fun _ _ h=>h),(gq 1),(fun aF wF F=>by have s50:=F.v 0 50;have s53:=F.p 3 53;have s54:=F.v 4 54;exact sP (QE.out _ _ _ (ZZ.out.kept F.kept) s53) fun _ _ h=>h),(fun aF wF F=>by have s55:=F.p 5 55;obtain ⟨dd,ee,hh⟩:=s55;exact sv hh),(fun aF wF F=>by have s55:=F.p 5 55;exact sw (by obtain ⟨dd,ee,hh⟩:=s55;go_simp) rfl),
      trivial⟩ ?_
    intro u w8 k8 hu;have p53:=hp hu 3;have p55:=hp hu 5;have p56:=hp hu 6;simp only [Au,An,if_true,Act.put,zlA,zlB,zlC,zlD,zlE,zlF,zlG,hv hu 0,hv hu 1,hv hu 2,hv hu 4,hv hu 7];clear hu;generalize u 3=v53,u 5=v55,u 6=v56 at *;obtain ⟨P1,p1,q1,P2,p2,q2,rfl,z1,z2⟩:=Ao p56;replace K:=hid (K.out.trans k8);replace HR:=hid (HR.out.kept k8);have Z1:=hid z1;have Z2:=hid z2;clear z1 z2 p53 p55 p56 k8 HX HY HZ ZX ZY ZZ QE CG;obtain ⟨-,r0,r1,r2,r3,r4,r5⟩:=HR.out.facts;obtain ⟨f0,f1,f2,f3,f4,f5⟩:=HR.out.free;refine ⟨?_,.inl (by kernel_rfl)⟩;go_simp;go_wp2_with fail;exact Bq (HR.out.laid _ _ _ _ _ _) rfl rfl rfl ⟨Bf K.out (by omega),_,rfl,_,_,_,_,_,_,rfl,Z1.out.ivW HR.out _ _ _ _ _ _,Z2.out.ivW HR.out _ _ _ _ _ _⟩
   ·replace QE:=hid (QE.out dz rfl);go_upto_region 12 with fail;change Code.wp _ _ _ _ (dyW w6 bZ _ _ _);replace K:=hid (Al (x:=.bool false) (y:=.slice none 0 0) (z:=.int .i64 0) K.out (show w.heap.size≤bZ by omega));replace HR:=hid (En HR.out (show ¬w.heap.size+1=bZ by omega) (.bool false) (.slice none 0 0) (.int .i64 0));replace ZX:=hid (ZX.out.dyW HZ.out (Ah _) (Af _ _ _) (Ai _) (.bool false) (.slice none 0 0) (.int .i64 0));replace ZY:=hid (ZY.out.dyW HZ.out (Ah _) (Af _ _ _) (Ai _) (.bool false) (.slice none 0 0) (.int .i64 0))
    replace HX:=hid (HX.out.laid_other (show ¬bX=bZ by omega) (.bool false) (.slice none 0 0) (.int .i64 0));replace HY:=hid (HY.out.laid_other (show ¬bY=bZ by omega) (.bool false) (.slice none 0 0) (.int .i64 0));replace HZ:=hid (HZ.out.laid (.bool false) (.slice none 0 0) (.int .i64 0));clear z0 z1 z2 f0 f1 f2 ZZ;generalize dyW w6 bZ (.bool false) (.slice none 0 0) (.int .i64 0)=V at *;have ZZ:=hid (show DyR V (.agg #[.bool false,.slice none 0 0,.int .i64 0]) dz.raw by rw [Cp];exact Eo V)
    refine Im 8 ([(vE (.agg #[.bool false,.slice none 0 0,.int .i64 0])),(vE (.agg #[.bool s1.v.neg,.slice PX pX qX,.int .i64 s1.v.e])),(vE (.agg #[.bool s2.v.neg,.slice PY pY qY,.int .i64 s2.v.e])),(fun v wv=>DyR wv v G.raw),(vE (.int .i64 (n:Int))),(fun v wv=>∃ d,v=.tuple #[d,.int .i64 T.k]∧IvR wv d T.v),(fun v wv=>IvR wv v T.v),(vE (.int .i64 T.k))])
     ⟨
      (gql 9 fun _ k=>c3 HZ.out k),(gql 6 fun _ k=>c3 HX.out k),(gql 8 fun _ k=>c3 HY.out k),(fun aF wF F=>by have s51:=F.v 1 51;have s52:=F.v 2 52;exact sD (CG.out _ _ _ (ZX.out.kept F.kept) (ZY.out.kept F.kept)) fun _ _ h=>h),(gq 1),(fun aF wF F=>by have s50:=F.v 0 50;have s53:=F.p 3 53;have s54:=F.v 4 54;exact sP (QE.out _ _ _ (ZZ.out.kept F.kept) s53) fun _ _ h=>h),(fun aF wF F=>by have s55:=F.p 5 55;obtain ⟨dd,ee,hh⟩:=s55;exact sv hh),(fun aF wF F=>by have s55:=F.p 5 55;exact sw (by obtain ⟨dd,ee,hh⟩:=s55;go_simp) rfl),
      trivial⟩ ?_
    intro u w8 k8 hu;have p53:=hp hu 3;have p55:=hp hu 5;have p56:=hp hu 6;simp only [Au,An,if_true,Act.put,zlA,zlB,zlC,zlD,zlE,zlF,zlG,hv hu 0,hv hu 1,hv hu 2,hv hu 4,hv hu 7];clear hu;generalize u 3=v53,u 5=v55,u 6=v56 at *;obtain ⟨P1,p1,q1,P2,p2,q2,rfl,z1,z2⟩:=Ao p56;replace K:=hid (K.out.trans k8);replace HR:=hid (HR.out.kept k8);have Z1:=hid z1;have Z2:=hid z2;clear z1 z2 p53 p55 p56 k8 HX HY HZ ZX ZY ZZ QE CG;obtain ⟨-,r0,r1,r2,r3,r4,r5⟩:=HR.out.facts;obtain ⟨f0,f1,f2,f3,f4,f5⟩:=HR.out.free;refine ⟨?_,.inl (by kernel_rfl)⟩;go_simp;go_wp2_with fail;exact Bq (HR.out.laid _ _ _ _ _ _) rfl rfl rfl ⟨Bf K.out (by omega),_,rfl,_,_,_,_,_,_,rfl,Z1.out.ivW HR.out _ _ _ _ _ _,Z2.out.ivW HR.out _ _ _ _ _ _⟩
  ·have e2:(s2.k==0)=false:=by simpa using h2
   have e2':(s2.k != 0)=true:=by simpa using h2
   have r0:=T2.out h1 h2;subst r0;clear h1 h2 T1 T2 T3 HA S1 S2 HX ZX HY ZY CL CG QE H0;generalize s2.k=kk at *;obtain ⟨-,r0,r1,r2,r3,r4,r5⟩:=HR.out.facts;obtain ⟨f0,f1,f2,f3,f4,f5⟩:=HR.out.free;go_wp2_with fail;exact Bq (HR.out.laid _ _ _ _ _ _) rfl rfl rfl ⟨Bf K.out (by omega),_,rfl,Ce _⟩
 ·have e2:(s1.k==0)=false:=by simpa using h1
  have e2':(s1.k != 0)=true:=by simpa using h1
  have r0:=T1.out h1;subst r0;clear h1 T1 T2 T3 HA S1 S2 HX ZX CL CG QE H0;generalize s1.k=kk at *;obtain ⟨-,r0,r1,r2,r3,r4,r5⟩:=HR.out.facts;obtain ⟨f0,f1,f2,f3,f4,f5⟩:=HR.out.free;go_wp2_with fail;exact Bq (HR.out.laid _ _ _ _ _ _) rfl rfl rfl ⟨Bf K.out (by omega),_,rfl,Ce _⟩
end Go.Proofs.YtinbgjcooolbiaaGreatDoor
