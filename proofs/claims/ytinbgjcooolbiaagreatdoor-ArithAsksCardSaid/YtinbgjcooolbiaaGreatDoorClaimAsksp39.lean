/- Words and contracts, part 39. -/
import Derived.Test.YtinbgjcooolbiaaGreatDoorClaimAsksp37
import Derived.Test.YtinbgjcooolbiaaGreatDoorClaimAsksp38
set_option maxRecDepth 100000
set_option maxHeartbeats 0
namespace Go.Proofs.YtinbgjcooolbiaaGreatDoor
open Go.Lib (hid)
open Go.RowKit
theorem O7 (w:World)(x y z x' y' z' p q r p' q' r':Value):∃ W,W=((w.alloc (.cells #[x,y,z,x',y',z'] 26)).alloc (.cells #[p,q,r,p',q',r'] 26)).alloc (.cells #[.bool false,.slice none 0 0,.int .i64 0,.bool false,.slice none 0 0,.int .i64 0] 26) ∧
 Kept w W∧BlkI W w.heap.size x y z x' y' z'∧BlkI W (w.heap.size+1) p q r p' q' r'∧BlkI W (w.heap.size+1+1) (.bool false) (.slice none 0 0) (.int .i64 0) (.bool false) (.slice none 0 0) (.int .i64 0):=by
 obtain ⟨W,hW,k,h1,h2⟩:=Oz w x y z x' y' z' p q r p' q' r';refine ⟨_,rfl,?_,?_,?_,?_⟩
 ·rw [←hW];exact k.trans (Ad _ _)
 ·rw [←hW];exact h1.kept (Ad _ _)
 ·rw [←hW];exact h2.kept (Ad _ _)
 ·have:=F5 ((w.alloc (.cells #[x,y,z,x',y',z'] 26)).alloc (.cells #[p,q,r,p',q',r'] 26));simp only [World.size_alloc] at this;exact this
theorem Pd (p:Int)(a b:RawI)(o:Outc RawI):By p [a,b] o=if Dj a&&Dj b&&(decide (1≤p)&&decide (p≤2000)) then o else ⟨rzI,1⟩:=by
 unfold By;by_cases h:Dj a=true∧Dj b=true∧1≤p∧p≤2000
 ·obtain ⟨h1,h2,h3,h4⟩:=h;rw [if_pos ⟨h3,h4,by simp [h1,h2]⟩,if_pos (by simp [h1,h2,h3,h4])]
 ·rw [if_neg,if_neg]
  ·intro hh;simp only [Bool.and_eq_true,decide_eq_true_eq] at hh;exact h ⟨hh.1.1,hh.1.2,hh.2.1,hh.2.2⟩
  ·intro hh;simp only [List.all_cons,List.all_nil,Bool.and_true,Bool.and_eq_true] at hh;exact h ⟨hh.2.2.1,hh.2.2.2,hh.1,hh.2.1⟩
theorem Se (p:Int)(a:RawI)(o:Outc RawI):By p [a] o=if Dj a&&(decide (1≤p)&&decide (p≤2000)) then o else ⟨rzI,1⟩:=by
 unfold By;by_cases h:Dj a=true∧1≤p∧p≤2000
 ·obtain ⟨h1,h3,h4⟩:=h;rw [if_pos ⟨h3,h4,by simp [h1]⟩,if_pos (by simp [h1,h3,h4])]
 ·rw [if_neg,if_neg]
  ·intro hh;simp only [Bool.and_eq_true,decide_eq_true_eq] at hh;exact h ⟨hh.1,hh.2.1,hh.2.2⟩
  ·intro hh;simp only [List.all_cons,List.all_nil,Bool.and_true] at hh;exact h ⟨hh.2.2,hh.1,hh.2.1⟩
theorem Ma {s:Outc Dy}{p:Nat}{up:Bool}(h:s.k≠0):(Ig s p up).k=s.k:=by unfold Ig Outc.bind;rw [if_neg h]
theorem Rg {s:Outc Dy}{p:Nat}{up:Bool}(h:s.k=0):Ig s p up=Bv s.v p up:=by unfold Ig Outc.bind;rw [if_pos h]
theorem En {w:World}{b b':Nat}{x y z x' y' z':Value}(h:BlkI w b x y z x' y' z')(hne:¬b=b')(p q r:Value):BlkI (dyW w b' p q r) b x y z x' y' z':=by
 unfold BlkI dyW at *;rw [Below.heap_setCell _ _ _ _ hne,Below.heap_setCell _ _ _ _ hne,Below.heap_setCell _ _ _ _ hne];exact h
theorem T7 {w:World}{v u:Value}{a b:RawI}{p:Int}(ha:IvR w v a)(hb:IvR w u b)(la:a.lens 17592186044416)(lb:b.lens 17592186044416) :
 Calls Tryz.prog 13 #[v,u,.int .i64 p] w (RetIE (By p [a,b] (Bj (Hn a.iv b.iv p.toNat))) w):=by
 rw [Pd];have MA:=hid (fun w1 (k:Kept w w1)=>Fz (ha.kept k) la);have MB:=hid (fun w1 (k:Kept w w1)=>Fz (hb.kept k) lb);have P1:=hid (fun w1=>Pp (w:=w1) (p:=p));obtain ⟨A,l,c,A',l',c',rfl,h1,h2⟩:=Ao ha;obtain ⟨B,m,d,B',m',d',rfl,g1,g2⟩:=Ao hb;have CA:=hid (fun (h:Dj a=true)=>Ca h1.small h2.small h);have CB:=hid (fun (h:Dj b=true)=>Ca g1.small g2.small h);have RA:=hid h1;have RA':=hid h2;have RB:=hid g1;have RB':=hid g2;clear ha hb h1 h2 g1 g2 la lb;obtain ⟨ma,hma⟩:∃ x,Dj a=x:=⟨_,rfl⟩;obtain ⟨mb,hmb⟩:∃ x,Dj b=x:=⟨_,rfl⟩;obtain ⟨mp,hmp⟩:∃ x,(decide (1≤p)&&decide (p≤2000))=x:=⟨_,rfl⟩
 have HP:=hid (fun (h:mp=true)=>show 1≤p∧p≤2000 by rw [←hmp] at h;simpa using h);rw [hma,hmb,hmp];rw [hma] at MA CA;rw [hmb] at MB CB;rw [hmp] at P1;clear hma hmb hmp;obtain ⟨T,hT⟩:∃ T,(if ma&&mb&&mp then Bj (Hn a.iv b.iv p.toNat) else ⟨rzI,1⟩)=T:=⟨_,rfl⟩;rw [hT];have HT:=hid hT;clear hT;have CE:=hid (fun (h:(ma&&mb&&mp)=true)=>show (∃ n:Nat,p=n∧1≤n∧n≤2000)∧a.iv.Ok∧b.iv.Ok∧a=a.iv.raw∧b=b.iv.raw∧T=Bj (Hn a.iv b.iv p.toNat) by
  have ht:=HT.out;rw [if_pos h] at ht;simp only [Bool.and_eq_true] at h;obtain ⟨⟨e1,e2⟩,e3⟩:=h;have:=HP.out e3;exact ⟨⟨p.toNat,by omega,by omega,by omega⟩,(CA.out e1).1,(CB.out e2).1,(CA.out e1).2.symm,(CB.out e2).2.symm,ht.symm⟩)
 have CN:=hid (fun (h:(ma&&mb&&mp)=false)=>show T=⟨rzI,1⟩ by rw [←HT.out,h];rfl);clear HT HP CA CB;obtain ⟨ai,hai⟩:∃ x,a.iv=x:=⟨_,rfl⟩;obtain ⟨bi,hbi⟩:∃ x,b.iv=x:=⟨_,rfl⟩;rw [hai,hbi] at CE;clear hai hbi;generalize hx1:a.lo.neg=n1 at *;generalize hx2:a.lo.e=e1 at *;generalize hx3:a.hi.neg=n2 at *;generalize hx4:a.hi.e=e2 at *;generalize hy1:b.lo.neg=n3 at *;generalize hy2:b.lo.e=e3 at *;generalize hy3:b.hi.neg=n4 at *;generalize hy4:b.hi.e=e4 at *;clear hx1 hx2 hx3 hx4 hy1 hy2 hy3 hy4;obtain ⟨W,hW,kW,BA,BB,BR⟩:=O7 w (.bool n1) (.slice A l c) (.int .i64 e1) (.bool n2) (.slice A' l' c') (.int .i64 e2) (.bool n3) (.slice B m d) (.int .i64 e3) (.bool n4) (.slice B' m' d') (.int .i64 e4)
 have HW:=hid hW;have K:=hid kW;have HA:=hid BA;have HB:=hid BB;have HR:=hid BR;clear hW kW BA BB BR;go_enter Tryz.func13,Tryz.ntmps13;go_upto_region 1 with fail;rw [←HW.out]
 refine rS 13 ([(vE (.agg #[.bool n1,.slice A l c,.int .i64 e1,.bool n2,.slice A' l' c',.int .i64 e2])),(vE (.bool ma)),(vE (.bool (!ma))),(vE (.bool (!ma))),(fun v wv=>(ma=true→(fun v _=>v=(.agg #[.bool n3,.slice B m d,.int .i64 e3,.bool n4,.slice B' m' d',.int .i64 e4])) v wv)∧(ma=false→v=undef)),(fun v wv=>(ma=true→(fun v _=>v=(.bool mb)) v wv)∧(ma=false→v=undef)),(fun v wv=>(ma=true→(fun v _=>v=(.bool (!mb))) v wv)∧(ma=false→v=undef)),(vE (.bool (!(ma&&mb)))),(vE (.bool (!(ma&&mb)))),(fun v wv=>((ma&&mb)=true→(fun v _=>v=(.int .i64 p)) v wv)∧((ma&&mb)=false→v=undef)),(fun v wv=>((ma&&mb)=true→(fun v _=>v=(.bool mp)) v wv)∧((ma&&mb)=false→v=undef)),(fun v wv=>((ma&&mb)=true→(fun v _=>v=(.bool (!mp))) v wv)∧((ma&&mb)=false→v=undef)),(vE (.bool (!(ma&&mb&&mp))))])
  ⟨
   (gql 3 fun _ k=>c6 HA.out k),(fun aF wF F=>by have s11:=F.v 0 11;exact sK (MA.out _ (K.out.trans F.kept)) fun _ _ h=>h),(gv 1 12),(gv 2 13),
   (fun aF wF F=>by
  have sg:=F.v 3 14;have s4:=F.q 4 (.pointer (some ⟨w.heap.size+1,0,none⟩));obtain ⟨c0,c1,c2,c3,c4,c5⟩:=c6 HB.out F.kept;rcases Bu ma with hC | hC
  ·refine sIm hC (vE (.agg #[.bool n3,.slice B m d,.int .i64 e3,.bool n4,.slice B' m' d',.int .i64 e4])) ?_;exact sVc rfl rfl sg (by first | rfl | simp [hC])
  ·exact sOc rfl rfl sg (by first | rfl | simp [hC]) (nW hC)),
   (fun aF wF F=>by
  have sg:=F.v 3 14;have s15:(ma=true→aF.tmps.getD 15 undef=(.agg #[.bool n3,.slice B m d,.int .i64 e3,.bool n4,.slice B' m' d',.int .i64 e4]))∧(ma=false→aF.tmps.getD 15 undef=undef):=F.done 4 15 (by kernel_rfl) rfl;rcases Bu ma with hC | hC
  ·refine sIm hC (vE (.bool mb)) ?_;replace s15:=s15.1 hC;exact Am ((Aj rfl rfl sg).trans (by first | rfl | simp [hC])) (by go_simp) (MB.out _ (K.out.trans F.kept)) (fun _ _ h=>RetK.good h) (fun _ _ h=>h)
  ·exact sOc rfl rfl sg (by first | rfl | simp [hC]) (nW hC)),
   (fun aF wF F=>by
  have sg:=F.v 3 14;have s16:(ma=true→aF.tmps.getD 16 undef=(.bool mb))∧(ma=false→aF.tmps.getD 16 undef=undef):=F.done 5 16 (by kernel_rfl) rfl;rcases Bu ma with hC | hC
  ·refine sIm hC (vE (.bool (!mb))) ?_;replace s16:=s16.1 hC;exact sVc rfl rfl sg (by first | rfl | simp [hC])
  ·exact sOc rfl rfl sg (by first | rfl | simp [hC]) (nW hC)),
   (fun aF wF F=>by
  have s14:=F.v 3 14;have s17:(ma=true→aF.tmps.getD 17 undef=(.bool (!mb)))∧(ma=false→aF.tmps.getD 17 undef=undef):=F.done 6 17 (by kernel_rfl) rfl;rcases Bu ma with hE | hE
  ·replace s17:=s17.1 hE;exact sw (by first | (go_simp;done) | (go_simp;simp_all;done) | (simp_all;done)) rfl
  ·exact sw (by first | (go_simp;done) | (go_simp;simp_all;done) | (simp_all;done)) rfl),(gv 7 18),
   (fun aF wF F=>by
  have sg:=F.v 8 19;have s2:=F.q 2 (.int .i64 p);rcases Bu (ma&&mb) with hC | hC
  ·refine sIm hC (vE (.int .i64 p)) ?_;exact sVc rfl rfl sg (by first | rfl | simp [hC])
  ·exact sOc rfl rfl sg (by first | rfl | simp [hC]) (nW hC)),
   (fun aF wF F=>by
  have sg:=F.v 8 19;have s20:((ma&&mb)=true→aF.tmps.getD 20 undef=(.int .i64 p))∧((ma&&mb)=false→aF.tmps.getD 20 undef=undef):=F.done 9 20 (by kernel_rfl) rfl;rcases Bu (ma&&mb) with hC | hC
  ·refine sIm hC (vE (.bool mp)) ?_;replace s20:=s20.1 hC;exact Am ((Aj rfl rfl sg).trans (by first | rfl | simp [hC])) (by go_simp) (P1.out _) (fun _ _ h=>RetK.good h) (fun _ _ h=>h)
  ·exact sOc rfl rfl sg (by first | rfl | simp [hC]) (nW hC)),
   (fun aF wF F=>by
  have sg:=F.v 8 19;have s21:((ma&&mb)=true→aF.tmps.getD 21 undef=(.bool mp))∧((ma&&mb)=false→aF.tmps.getD 21 undef=undef):=F.done 10 21 (by kernel_rfl) rfl;rcases Bu (ma&&mb) with hC | hC
  ·refine sIm hC (vE (.bool (!mp))) ?_;replace s21:=s21.1 hC;exact sVc rfl rfl sg (by first | rfl | simp [hC])
  ·exact sOc rfl rfl sg (by first | rfl | simp [hC]) (nW hC)),
   (fun aF wF F=>by
  have s19:=F.v 8 19;have s22:((ma&&mb)=true→aF.tmps.getD 22 undef=(.bool (!mp)))∧((ma&&mb)=false→aF.tmps.getD 22 undef=undef):=F.done 11 22 (by kernel_rfl) rfl;rcases Bu (ma&&mb) with hE | hE
  ·replace s22:=s22.1 hE;exact sw (by first | (go_simp;done) | (go_simp;simp_all;done) | (simp_all;done)) rfl
  ·exact sw (by first | (go_simp;done) | (go_simp;simp_all;done) | (simp_all;done)) rfl),
   trivial⟩ ?_
 intro u w1 k1 hu;have p15:=hp hu 4;have p16:=hp hu 5;have p17:=hp hu 6;have p20:=hp hu 9;have p21:=hp hu 10;have p22:=hp hu 11;simp only [Au,An,if_true,Act.put,zlA,zlB,zlC,zlD,zlE,zlF,zlG,hv hu 0,hv hu 1,hv hu 2,hv hu 3,hv hu 7,hv hu 8,hv hu 12];clear hu;generalize u 4=v15,u 5=v16,u 6=v17,u 9=v20,u 10=v21,u 11=v22 at *;clear p15 p16 p17 p20 p21 p22 MA MB P1;replace K:=hid (K.out.trans k1);replace HA:=hid (HA.out.kept k1);replace HB:=hid (HB.out.kept k1);replace HR:=hid (HR.out.kept k1);clear k1;rcases (Bu (ma&&mb&&mp)).symm with hg | hg
 ·have r0:=CN.out hg;subst r0;rw [hg];clear hg CN CE HA HB RA RA' RB RB';obtain ⟨-,r0,r1,r2,r3,r4,r5⟩:=HR.out.facts;obtain ⟨f0,f1,f2,f3,f4,f5⟩:=HR.out.free;go_wp2_with fail;exact Bq (HR.out.laid _ _ _ _ _ _) rfl rfl rfl ⟨Bf K.out (by omega),_,rfl,Ce _⟩
 obtain ⟨⟨n,rfl,p1,p2⟩,oa,ob,ra,rb,rT⟩:=CE.out hg;rw [hg];subst ra;subst rb;clear hg CE CN;have os1:=(Gx oa.lo ob.lo).1;have os2:=(Gx oa.hi ob.hi).1;have S1:=hid (fun w1 (k:Kept w w1)=>Xp (RA.out.kept k) (RB.out.kept k) oa.lo ob.lo);have S2:=hid (fun w1 (k:Kept w w1)=>Xp (RA'.out.kept k) (RB'.out.kept k) oa.hi ob.hi);have hT:T=Bj (D0 (Ig (Dl ai.lo bi.lo) n false) (Ig (Dl ai.hi bi.hi) n true)):=rT;clear rT RA RB RA' RB' oa ob;generalize Dl ai.lo bi.lo=s1 at *;generalize Dl ai.hi bi.hi=s2 at *;have R1:=hid (fun w1 v1 (h:DyR w1 v1 s1.v.raw)=>Kl (up:=false) h os1 p1 p2)
 have R2:=hid (fun w1 v1 (h:DyR w1 v1 s2.v.raw)=>Kl (up:=true) h os2 p1 p2);have HT:=hid hT;clear hT os1 os2 p1 p2;obtain ⟨-,a0,a1,a2,-⟩:=HA.out.facts;obtain ⟨-,b0,b1,b2,-⟩:=HB.out.facts;have lt0:w.heap.size+1+1<w1.heap.size:=HR.out.facts.1;go_wp2_with fail;refine (S1.out _ K.out).mono ?_;rintro _ w3 ⟨q1,u1,rfl,hd⟩;obtain ⟨PX,pX,qX,rfl,z1⟩:=Br hd;simp only [Outc.raw];obtain ⟨VX,hV,kV,hb,lV⟩:=Mk w3 (.bool s1.v.neg) (.slice PX pX qX) (.int .i64 s1.v.e);have HV:=hid hV;have kk:=q1.trans kV;have ltX:w.heap.size+1+1<w3.heap.size:=by have h1:=HR.out.facts.1;have h2:=q1.size;omega
 skip
 replace K:=hid (K.out.trans kk);replace HA:=hid (HA.out.kept kk);replace HB:=hid (HB.out.kept kk);replace HR:=hid (HR.out.kept kk);have HX:=hid hb;have ZX:=hid (z1.kept kV);clear hV kV hb lV kk q1 hd z1;go_upto_region 4 with fail;rw [←HV.out];clear HV;generalize w3.heap.size=bX at *;by_cases h1:s1.k=0
 ·rw [h1];have r1:=@Rg       s1 n false h1;rw [r1] at HT;clear h1 r1 a0 a1 a2 b0 b1 b2 S1;generalize Bv   s1.v n false=o1 at *;obtain ⟨-,x0,x1,x2,g0,g1,g2⟩:=HX.out.facts;go_wp2_with fail;refine (R1.out _ _ ZX.out).mono ?_;rintro _ w4 ⟨q1,u1,rfl,hd⟩;obtain ⟨PX',pX',qX',rfl,z1⟩:=Br        hd;simp only [Outc.raw];replace K:=hid (K.out.trans q1);replace HA:=hid (HA.out.kept q1);replace HB:=hid (HB.out.kept q1);replace HR:=hid (HR.out.kept q1)
  skip
  replace HX:=hid (HX.out.kept q1);have ZX':=hid z1;clear q1 hd z1 x0 x1 x2 g0 g1 g2 ZX;obtain ⟨-,x0,x1,x2,g0,g1,g2⟩:=HX.out.facts;go_upto_region 6 with fail;change Code.wp _ _ _ _ (dyW w4 bX _ _ _);replace K:=hid (Al (x:=.bool o1.v.neg) (y:=.slice PX' pX' qX') (z:=.int .i64 o1.v.e) K.out (show w.heap.size≤bX by omega));replace HA:=hid (En HA.out (show ¬w.heap.size=bX by omega) (.bool o1.v.neg) (.slice PX' pX' qX') (.int .i64 o1.v.e));replace HB:=hid (En HB.out (show ¬w.heap.size+1=bX by omega) (.bool o1.v.neg) (.slice PX' pX' qX') (.int .i64 o1.v.e));replace HR:=hid (En HR.out (show ¬w.heap.size+1+1=bX by omega) (.bool o1.v.neg) (.slice PX' pX' qX') (.int .i64 o1.v.e))
  skip
  replace ZX':=hid (ZX'.out.dyW HX.out (Ah _) (Af _ _ _) (Ai _) (.bool o1.v.neg) (.slice PX' pX' qX') (.int .i64 o1.v.e));replace HX:=hid (HX.out.laid (.bool o1.v.neg) (.slice PX' pX' qX') (.int .i64 o1.v.e));clear x0 x1 x2 g0 g1 g2;generalize dyW w4 bX (.bool o1.v.neg) (.slice PX' pX' qX') (.int .i64 o1.v.e)=VX at *;by_cases h2:o1.k=0
  ·rw [h2];obtain ⟨-,a0,a1,a2,a3,a4,a5⟩:=HA.out.facts;obtain ⟨-,b0,b1,b2,b3,b4,b5⟩:=HB.out.facts;go_wp2_with fail;refine (S2.out _ K.out).mono ?_;rintro _ w5 ⟨q1,u1,rfl,hd⟩;obtain ⟨PY,pY,qY,rfl,z1⟩:=Br hd;simp only [Outc.raw];obtain ⟨VX,hV,kV,hb,lV⟩:=Mk w5 (.bool s2.v.neg) (.slice PY pY qY) (.int .i64 s2.v.e);have HV:=hid hV;have kk:=q1.trans kV;have ltY:bX<w5.heap.size:=by have h1:=HX.out.facts.1;have h2:=q1.size;omega
   replace HX:=hid (HX.out.kept kk);replace ZX':=hid (ZX'.out.kept kk);replace K:=hid (K.out.trans kk);replace HA:=hid (HA.out.kept kk);replace HB:=hid (HB.out.kept kk);replace HR:=hid (HR.out.kept kk);have HY:=hid hb;have ZY:=hid (z1.kept kV);clear hV kV hb lV kk q1 hd z1;go_upto_region 9 with fail;rw [←HV.out];clear HV;generalize w5.heap.size=bY at *;by_cases h3:s2.k=0
   ·rw [h3];have r2:=@Rg s2 n true h3;rw [r2] at HT;clear h3 r2 a0 a1 a2 a3 a4 a5 b0 b1 b2 b3 b4 b5 S2 R1;generalize Bv s2.v n true=o2 at *;obtain ⟨-,x0,x1,x2,g0,g1,g2⟩:=HY.out.facts;go_wp2_with fail;refine (R2.out _ _ ZY.out).mono ?_;rintro _ w6 ⟨q1,u1,rfl,hd⟩;obtain ⟨PY',pY',qY',rfl,z1⟩:=Br hd;simp only [Outc.raw];replace K:=hid (K.out.trans q1);replace HA:=hid (HA.out.kept q1);replace HB:=hid (HB.out.kept q1);replace HR:=hid (HR.out.kept q1);replace HX:=hid (HX.out.kept q1);replace ZX':=hid (ZX'.out.kept q1);replace HY:=hid (HY.out.kept q1);have ZY':=hid z1;clear q1 hd z1 x0 x1 x2 g0 g1 g2 ZY
    obtain ⟨-,x0,x1,x2,g0,g1,g2⟩:=HY.out.facts;go_upto_region 11 with fail;change Code.wp _ _ _ _ (dyW w6 bY _ _ _);replace K:=hid (Al (x:=.bool o2.v.neg) (y:=.slice PY' pY' qY') (z:=.int .i64 o2.v.e) K.out (show w.heap.size≤bY by omega));replace HA:=hid (En HA.out (show ¬w.heap.size=bY by omega) (.bool o2.v.neg) (.slice PY' pY' qY') (.int .i64 o2.v.e));replace HB:=hid (En HB.out (show ¬w.heap.size+1=bY by omega) (.bool o2.v.neg) (.slice PY' pY' qY') (.int .i64 o2.v.e));replace HR:=hid (En HR.out (show ¬w.heap.size+1+1=bY by omega) (.bool o2.v.neg) (.slice PY' pY' qY') (.int .i64 o2.v.e))
    replace ZX':=hid (ZX'.out.dyW HY.out (Ah _) (Af _ _ _) (Ai _) (.bool o2.v.neg) (.slice PY' pY' qY') (.int .i64 o2.v.e));replace HX:=hid (HX.out.laid_other (show ¬bX=bY by omega) (.bool o2.v.neg) (.slice PY' pY' qY') (.int .i64 o2.v.e));replace ZY':=hid (ZY'.out.dyW HY.out (Ah _) (Af _ _ _) (Ai _) (.bool o2.v.neg) (.slice PY' pY' qY') (.int .i64 o2.v.e));replace HY:=hid (HY.out.laid (.bool o2.v.neg) (.slice PY' pY' qY') (.int .i64 o2.v.e));clear x0 x1 x2 g0 g1 g2;generalize dyW w6 bY (.bool o2.v.neg) (.slice PY' pY' qY') (.int .i64 o2.v.e)=VY at *
    by_cases h4:o2.k=0
    ·have r0:=HT.out;rw [Mq h2 h4] at r0;subst r0;rw [h4];clear h2 h4 HT HA HB R2;obtain ⟨-,a0,a1,a2,-⟩:=HX.out.facts;obtain ⟨-,b0,b1,b2,-⟩:=HY.out.facts;obtain ⟨-,r0,r1,r2,r3,r4,r5⟩:=HR.out.facts;obtain ⟨f0,f1,f2,f3,f4,f5⟩:=HR.out.free;go_wp2_with fail;exact Bq (HR.out.laid _ _ _ _ _ _) rfl rfl rfl ⟨Bf K.out (by omega),_,rfl,_,_,_,_,_,_,rfl,ZX'.out.ivW HR.out _ _ _ _ _ _,ZY'.out.ivW HR.out _ _ _ _ _ _⟩
    ·have e2:(o2.k==0)=false:=by simpa using h4
     have e2':(o2.k != 0)=true:=by simpa using h4
     have r0:=HT.out;rw [Kx h2 h4] at r0;subst r0;clear h2 h4 HT HA HB R2 HX ZX' HY ZY';generalize o2.k=kk at *;obtain ⟨-,r0,r1,r2,r3,r4,r5⟩:=HR.out.facts;obtain ⟨f0,f1,f2,f3,f4,f5⟩:=HR.out.free;go_wp2_with fail;exact Bq (HR.out.laid _ _ _ _ _ _) rfl rfl rfl ⟨Bf K.out (by omega),_,rfl,Ce _⟩
   ·have e2:(s2.k==0)=false:=by simpa using h3
    have e2':(s2.k != 0)=true:=by simpa using h3
    have r0:=HT.out;rw [Kx h2 (by rw [Ma h3];exact h3),Ma h3] at r0;subst r0;clear h2 h3 HT HA HB S2 R1 R2 HX ZX' HY ZY a0 a1 a2 a3 a4 a5 b0 b1 b2 b3 b4 b5;generalize s2.k=kk at *;obtain ⟨-,r0,r1,r2,r3,r4,r5⟩:=HR.out.facts;obtain ⟨f0,f1,f2,f3,f4,f5⟩:=HR.out.free;go_wp2_with fail;exact Bq (HR.out.laid _ _ _ _ _ _) rfl rfl rfl ⟨Bf K.out (by omega),_,rfl,Ce _⟩
  ·have e2:(o1.k==0)=false:=by simpa using h2
   have e2':(o1.k != 0)=true:=by simpa using h2
   have r0:=HT.out;rw [Kw h2] at r0;subst r0;clear h2 HT HA HB S2 R1 R2 HX ZX';generalize o1.k=kk at *;obtain ⟨-,r0,r1,r2,r3,r4,r5⟩:=HR.out.facts;obtain ⟨f0,f1,f2,f3,f4,f5⟩:=HR.out.free;go_wp2_with fail;exact Bq (HR.out.laid _ _ _ _ _ _) rfl rfl rfl ⟨Bf K.out (by omega),_,rfl,Ce _⟩
 ·have e2:(s1.k==0)=false:=by simpa using h1
  have e2':(s1.k != 0)=true:=by simpa using h1
  have r0:=HT.out;rw [Kw (by rw [Ma h1];exact h1),Ma h1] at r0;subst r0;clear h1 HT HA HB S1 S2 R1 R2 HX ZX a0 a1 a2 b0 b1 b2;generalize s1.k=kk at *;obtain ⟨-,r0,r1,r2,r3,r4,r5⟩:=HR.out.facts;obtain ⟨f0,f1,f2,f3,f4,f5⟩:=HR.out.free;go_wp2_with fail;exact Bq (HR.out.laid _ _ _ _ _ _) rfl rfl rfl ⟨Bf K.out (by omega),_,rfl,Ce _⟩
def Lu (a:Iv):Iv:=⟨Cv a.hi,Cv a.lo⟩
theorem Nl {a:Iv}(h:a.Ok):(Lu a).Ok:=⟨Ff h.hi,Ff h.lo,by
 show (Cv a.hi).q≤(Cv a.lo).q
 rw [Sr,Sr];have:=h.le;grind⟩
theorem Aai {w:World}{v u:Value}{a b:RawI}{p:Int}(ha:IvR w v a)(hb:IvR w u b)(la:a.lens 17592186044416)(lb:b.lens 17592186044416) :
 Calls Tryz.prog 15 #[v,u,.int .i64 p] w (RetIE (By p [a,b] (Bj (Lf a.iv b.iv p.toNat))) w):=by
 rw [Pd];have MB:=hid (fun w1 (k:Kept w w1)=>Fz (hb.kept k) lb);have CA:=hid (fun w1 (k:Kept w w1) u1 (tb:Iv) (ht:tb.Ok) (hu:IvR w1 u1 tb.raw)=>show Calls Tryz.prog 13 #[v,u1,.int .i64 p] w1 (RetIE (if Dj a&&(decide (1≤p)&&decide (p≤2000)) then Bj (Hn a.iv tb p.toNat) else ⟨rzI,1⟩) w1) by
  have h:=T7 (p:=p) (ha.kept k) hu la (Ez ht);rwa [Pd,Eg ht,Bool.and_true,Iv.raw_iv] at h)
 obtain ⟨B,m,d,B',m',d',rfl,g1,g2⟩:=Ao hb;have CB:=hid (fun (h:Dj b=true)=>Ca g1.small g2.small h);have RB:=hid hb;obtain ⟨A,l,c,A',l',c',rfl,-,-⟩:=Ao ha;clear ha hb g1 g2 la lb;obtain ⟨mb,hmb⟩:∃ x,Dj b=x:=⟨_,rfl⟩;rw [hmb] at MB CB ⊢;cases mb
 ·rw [Bool.and_false,Bool.false_and,if_neg (by decide)];clear CA CB RB hmb;generalize a.lo.neg=n1 at *;generalize a.lo.e=e1 at *;generalize a.hi.neg=n2 at *;generalize a.hi.e=e2 at *;generalize b.lo.neg=n3 at *;generalize b.lo.e=e3 at *;generalize b.hi.neg=n4 at *;generalize b.hi.e=e4 at *;obtain ⟨W,hW,kW,BA,BB,BR⟩:=O7 w (.bool n1) (.slice A l c) (.int .i64 e1) (.bool n2) (.slice A' l' c') (.int .i64 e2) (.bool n3) (.slice B m d) (.int .i64 e3) (.bool n4) (.slice B' m' d') (.int .i64 e4);have HW:=hid hW;have K:=hid kW;have HR:=hid BR;obtain ⟨-,b0,b1,b2,b3,b4,b5⟩:=BB.facts;clear hW kW BA BB BR
  go_enter Tryz.func15,Tryz.ntmps15;go_wp2_with fail;rw [←HW.out];go_wp2_with fail;refine (MB.out _ K.out).mono ?_;rintro _ w1 ⟨rfl,q1⟩;replace K:=hid (K.out.trans q1);replace HR:=hid (HR.out.kept q1);clear b0 b1 b2 b3 b4 b5 q1;simp only [];obtain ⟨-,r0,r1,r2,r3,r4,r5⟩:=HR.out.facts;obtain ⟨f0,f1,f2,f3,f4,f5⟩:=HR.out.free;go_wp2_with fail;exact Bq (HR.out.laid _ _ _ _ _ _) rfl rfl rfl ⟨Bf K.out (by omega),_,rfl,Ce _⟩
 ·obtain ⟨ob,rb⟩:=CB.out rfl;rw [Bool.and_true];have hT:∃ T,T=(if Dj a&&(decide (1≤p)&&decide (p≤2000)) then Bj (Lf a.iv b.iv p.toNat) else ⟨rzI,1⟩):=⟨_,rfl⟩;obtain ⟨T,hT⟩:=hT;rw [←hT];have CT:=hid (fun w1 (k:Kept w w1)=>Uf (a:=b.iv) (by rw [rb];exact RB.out.kept k) ob);have CD:=hid (fun w1 (k:Kept w w1) u1 (hu:IvR w1 u1 (Lu b.iv).raw)=>show Calls _ _ _ w1 (RetIE T w1) by rw [hT];exact CA.out w1 k u1 (Lu b.iv) (Nl ob) hu);have hti:(⟨Cv b.iv.hi,Cv b.iv.lo⟩:Iv)=Lu b.iv:=rfl;rw [hti] at CT;clear hT CA CB RB ob rb hti hmb;generalize Lu b.iv=tb at *;generalize a.lo.neg=n1 at *
  generalize a.lo.e=e1 at *;generalize a.hi.neg=n2 at *;generalize a.hi.e=e2 at *;generalize b.lo.neg=n3 at *;generalize b.lo.e=e3 at *;generalize b.hi.neg=n4 at *;generalize b.hi.e=e4 at *;obtain ⟨W,hW,kW,BA,BB,BR⟩:=O7 w (.bool n1) (.slice A l c) (.int .i64 e1) (.bool n2) (.slice A' l' c') (.int .i64 e2) (.bool n3) (.slice B m d) (.int .i64 e3) (.bool n4) (.slice B' m' d') (.int .i64 e4);have HW:=hid hW;have K:=hid kW;have HR:=hid BR;have HA:=hid BA;have HB:=hid BB;obtain ⟨-,b0,b1,b2,b3,b4,b5⟩:=BB.facts;clear hW kW BA BB BR;go_enter Tryz.func15,Tryz.ntmps15;go_wp2_with fail;rw [←HW.out];go_wp2_with fail
  refine (MB.out _ K.out).mono ?_;rintro _ w1 ⟨rfl,q1⟩;replace K:=hid (K.out.trans q1);replace HR:=hid (HR.out.kept q1);replace HA:=hid (HA.out.kept q1);replace HB:=hid (HB.out.kept q1);clear b0 b1 b2 b3 b4 b5 q1;simp only [];go_wp2_with fail
  refine Im 7 ([(vE (.agg #[.bool n1,.slice A l c,.int .i64 e1,.bool n2,.slice A' l' c',.int .i64 e2])),(vE (.agg #[.bool n3,.slice B m d,.int .i64 e3,.bool n4,.slice B' m' d',.int .i64 e4])),(fun v wv=>IvR wv v tb.raw),(vE (.int .i64 p)),(fun v wv=>∃ d,v=.tuple #[d,.int .i64 T.k]∧IvR wv d T.v),(fun v wv=>IvR wv v T.v),(vE (.int .i64 T.k))])
   ⟨
    (gql 3 fun _ k=>c6 HA.out k),(gql 4 fun _ k=>c6 HB.out k),(fun aF wF F=>by have s13:=F.v 1 13;exact sI (CT.out _ (K.out.trans F.kept)) fun _ _ h=>h),(gq 2),(fun aF wF F=>by have s12:=F.v 0 12;have s14:=F.p 2 14;have s15:=F.v 3 15;exact sP (CD.out _ (K.out.trans F.kept) _ s14) fun _ _ h=>h),(fun aF wF F=>by have s16:=F.p 4 16;obtain ⟨dd,ee,hh⟩:=s16;exact sv hh),(fun aF wF F=>by have s16:=F.p 4 16;exact sw (by obtain ⟨dd,ee,hh⟩:=s16;go_simp) rfl),
    trivial⟩ ?_
  intro u w1 k1 hu;have p14:=hp hu 2;have p16:=hp hu 4;have p17:=hp hu 5;simp only [Au,An,if_true,Act.put,zlA,zlB,zlC,zlD,zlE,zlF,zlG,hv hu 0,hv hu 1,hv hu 3,hv hu 6];clear hu;generalize u 2=v14,u 4=v16,u 5=v17 at *;obtain ⟨PX,pX,qX,PY,pY,qY,rfl,z1,z2⟩:=Ao p17;replace K:=hid (K.out.trans k1);replace HR:=hid (HR.out.kept k1);have Z1:=hid z1;have Z2:=hid z2;clear z1 z2 p14 p16 p17 k1 HA HB CT CD MB;obtain ⟨-,r0,r1,r2,r3,r4,r5⟩:=HR.out.facts;obtain ⟨f0,f1,f2,f3,f4,f5⟩:=HR.out.free;refine ⟨?_,.inl (by kernel_rfl)⟩;go_simp;go_wp2_with fail;exact Bq (HR.out.laid _ _ _ _ _ _) rfl rfl rfl ⟨Bf K.out (by omega),_,rfl,_,_,_,_,_,_,rfl,Z1.out.ivW HR.out _ _ _ _ _ _,Z2.out.ivW HR.out _ _ _ _ _ _⟩
theorem Aaf {w:World}{v:Value}{a:RawI}{p:Int}(ha:IvR w v a)(la:a.lens 17592186044416) :
 Calls Tryz.prog 21 #[v,.int .i64 p] w (RetIE (By p [a] (Bj (K6 a.iv p.toNat))) w):=by
 rw [Se];have MA:=hid (fun w1 (k:Kept w w1)=>Fz (ha.kept k) la);obtain ⟨A,l,c,A',l',c',rfl,h1,h2⟩:=Ao ha;have CA:=hid (fun (h:Dj a=true)=>Ca h1.small h2.small h);have RA:=hid ha;clear ha h1 h2 la;obtain ⟨ma,hma⟩:∃ x,Dj a=x:=⟨_,rfl⟩;rw [hma] at MA CA ⊢;cases ma
 ·rw [Bool.false_and,if_neg (by decide)];clear CA RA hma;generalize a.lo.neg=n1 at *;generalize a.lo.e=e1 at *;generalize a.hi.neg=n2 at *;generalize a.hi.e=e2 at *;obtain ⟨W,hW,kW,BA,BR⟩:=P9 w (.bool n1) (.slice A l c) (.int .i64 e1) (.bool n2) (.slice A' l' c') (.int .i64 e2);have HW:=hid hW;have K:=hid kW;have HR:=hid BR;obtain ⟨-,b0,b1,b2,b3,b4,b5⟩:=BA.facts;clear hW kW BA BR;go_enter Tryz.func21,Tryz.ntmps21;go_wp2_with fail;rw [←HW.out];go_wp2_with fail;refine (MA.out _ K.out).mono ?_;rintro _ w1 ⟨rfl,q1⟩;replace K:=hid (K.out.trans q1);replace HR:=hid (HR.out.kept q1);clear b0 b1 b2 b3 b4 b5 q1
  simp only [];obtain ⟨-,r0,r1,r2,r3,r4,r5⟩:=HR.out.facts;obtain ⟨f0,f1,f2,f3,f4,f5⟩:=HR.out.free;go_wp2_with fail;exact Bq (HR.out.laid _ _ _ _ _ _) rfl rfl rfl ⟨Bf K.out (by omega),_,rfl,Ce _⟩
 ·obtain ⟨oa,ra⟩:=CA.out rfl;rw [Bool.true_and];have hT:∃ T,T=(if (decide (1≤p)&&decide (p≤2000)) then Bj (K6 a.iv p.toNat) else ⟨rzI,1⟩):=⟨_,rfl⟩;obtain ⟨T,hT⟩:=hT;rw [←hT];have CT:=hid (fun w1 (k:Kept w w1)=>Uf (a:=a.iv) (by rw [ra];exact RA.out.kept k) oa);have CD:=hid (fun w1 u1 (hu:IvR w1 u1 (Lu a.iv).raw)=>show Calls Tryz.prog 63 #[u1,.int .i64 p] w1 (RetIE T w1) by
   rw [hT];have h:=U1 (p:=p) hu (Nl oa);rwa [Se,Eg (Nl oa),Bool.true_and] at h)
  have hti:(⟨Cv a.iv.hi,Cv a.iv.lo⟩:Iv)=Lu a.iv:=rfl;rw [hti] at CT;clear hT CA RA oa ra hti hma;generalize Lu a.iv=tb at *;generalize a.lo.neg=n1 at *;generalize a.lo.e=e1 at *;generalize a.hi.neg=n2 at *;generalize a.hi.e=e2 at *;obtain ⟨W,hW,kW,BA,BR⟩:=P9 w (.bool n1) (.slice A l c) (.int .i64 e1) (.bool n2) (.slice A' l' c') (.int .i64 e2);have HW:=hid hW;have K:=hid kW;have HR:=hid BR;have HA:=hid BA;obtain ⟨-,b0,b1,b2,b3,b4,b5⟩:=BA.facts;clear hW kW BA BR;go_enter Tryz.func21,Tryz.ntmps21;go_wp2_with fail;rw [←HW.out];go_wp2_with fail;refine (MA.out _ K.out).mono ?_;rintro _ w1 ⟨rfl,q1⟩
  replace K:=hid (K.out.trans q1);replace HR:=hid (HR.out.kept q1);replace HA:=hid (HA.out.kept q1);clear b0 b1 b2 b3 b4 b5 q1;obtain ⟨-,b0,b1,b2,b3,b4,b5⟩:=HA.out.facts;simp only [];go_wp2_with fail;refine (CT.out _ K.out).mono ?_;rintro _ w2 ⟨q2,u2,rfl,hd⟩;replace K:=hid (K.out.trans q2);replace HR:=hid (HR.out.kept q2);obtain ⟨PX,pX,qX,PY,pY,qY,rfl,-,-⟩:=Ao hd;have HD:=hid hd;clear hd q2 b0 b1 b2 b3 b4 b5 HA CT MA;simp only [];go_wp2_with fail;refine (CD.out _ _ HD.out).mono ?_;clear CD HD;rintro _ w3 ⟨q3,u3,rfl,hd⟩;obtain ⟨PX,pX,qX,PY,pY,qY,rfl,z1,z2⟩:=Ao hd;replace K:=hid (K.out.trans q3)
  replace HR:=hid (HR.out.kept q3);have Z1:=hid z1;have Z2:=hid z2;clear q3 hd z1 z2;simp only [];obtain ⟨-,r0,r1,r2,r3,r4,r5⟩:=HR.out.facts;obtain ⟨f0,f1,f2,f3,f4,f5⟩:=HR.out.free;go_wp2_with fail;exact Bq (HR.out.laid _ _ _ _ _ _) rfl rfl rfl ⟨Bf K.out (by omega),_,rfl,_,_,_,_,_,_,rfl,Z1.out.ivW HR.out _ _ _ _ _ _,Z2.out.ivW HR.out _ _ _ _ _ _⟩
end Go.Proofs.YtinbgjcooolbiaaGreatDoor
