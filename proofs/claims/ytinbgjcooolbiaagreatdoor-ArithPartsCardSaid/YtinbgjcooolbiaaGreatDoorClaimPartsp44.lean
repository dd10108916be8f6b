/- Words and contracts, part 44. -/
import Derived.Test.YtinbgjcooolbiaaGreatDoorClaimPartsp43
set_option maxRecDepth 100000
set_option maxHeartbeats 0
namespace Go.Proofs.YtinbgjcooolbiaaGreatDoor
open Go.Lib (hid)
open Go.RowKit
theorem Xt {d:Dy}(h:d.Ok)(hn:d.neg=true):sg d<0:=by
 have h0:d.m≠0:=fun h0=>by have:=(h.zero h0).1;rw [hn] at this;exact absurd this (by decide)
 unfold sg;rw [if_neg h0,hn,if_pos rfl]
 decide
theorem X5 {d:Dy}(hn:d.neg=false):¬sg d<0:=by
 unfold sg;rw [hn];split
 ·decide
 ·decide
theorem Vh {a:Iv}{p:Nat}(h:a.Ok):Bv (Ee a p)=Bv (Gk (if a.lo.neg then bad 4 else Df a.lo p false) (if a.hi.neg then bad 4 else Df a.hi p true)):=by
 unfold Ee;by_cases hn:a.lo.neg=true
 ·rw [if_pos (Xt h.lo hn),if_pos hn];rw [Nu (show (bad 4).k≠0 by decide),Bv,Fx];rfl
 ·have hn':a.lo.neg=false:=by cases hh:a.lo.neg;rfl;exact absurd hh hn
  have hh:¬a.hi.neg=true:=by
   intro hh;have h1:sg a.hi<0:=Xt h.hi hh;have h2:¬sg a.lo<0:=X5 hn';rw [Vc,Gp] at h1 h2;have:=h.le;grind
  rw [if_neg (X5 hn'),if_neg hn,if_neg hh]
theorem Yi {w:World}{v:Value}{a:RawI}{p:Int}(ha:IvR w v a)(la:a.lens 17592186044416)(hp:p≤1000∨2000<p) :
 Calls Tryz.prog 9 #[v,.int .i64 p] w (RetIE (Cs p [a] (Bv (Ee a.iv p.toNat))) w):=by
 rw [Aby];have HPP:=hid hp;clear hp;have MA:=hid (fun w1 (k:Kept w w1)=>Lu (ha.kept k) la);have P1:=hid (fun w1=>Yb (w:=w1) (p:=p));obtain ⟨A,l,c,A',l',c',rfl,h1,h2⟩:=Be ha;have CA:=hid (fun (h:Ex a=true)=>D7 h1.small h2.small h);have RA:=hid h1;have RA':=hid h2;clear ha h1 h2 la;obtain ⟨ma,hma⟩:∃ x,Ex a=x:=⟨_,rfl⟩;obtain ⟨mp,hmp⟩:∃ x,(decide (1≤p)&&decide (p≤2000))=x:=⟨_,rfl⟩;have HP:=hid (fun (h:mp=true)=>show 1≤p∧p≤2000 by rw [←hmp] at h;simpa using h);rw [hma,hmp];rw [hma] at MA CA;rw [hmp] at P1;clear hma hmp;obtain ⟨T,hT⟩:∃ T,(if ma&&mp then Bv (Ee a.iv p.toNat) else ⟨rzI,1⟩)=T:=⟨_,rfl⟩
 rw [hT];have HT:=hid hT;clear hT;have CE:=hid (fun (h:(ma&&mp)=true)=>show (∃ n:Nat,p=n∧1≤n∧n≤1000)∧a.iv.Ok∧a=a.iv.raw∧T=Bv (Ee a.iv p.toNat) by
  have ht:=HT.out;rw [if_pos h] at ht;simp only [Bool.and_eq_true] at h;have:=HP.out h.2;have:=HPP.out;exact ⟨⟨p.toNat,by omega,by omega,by omega⟩,(CA.out h.1).1,(CA.out h.1).2.symm,ht.symm⟩)
 have CN:=hid (fun (h:(ma&&mp)=false)=>show T=⟨rzI,1⟩ by rw [←HT.out,h];rfl);clear HT HP CA HPP;obtain ⟨ai,hai⟩:∃ x,a.iv=x:=⟨_,rfl⟩;rw [hai] at CE;clear hai;generalize hx1:a.lo.neg=n1 at *;generalize hx2:a.lo.e=e1 at *;generalize hx3:a.hi.neg=n2 at *;generalize hx4:a.hi.e=e2 at *;clear hx1 hx2 hx3 hx4;obtain ⟨W,hW,kW,BA,BR⟩:=Ada w (.bool n1) (.slice A l c) (.int .i64 e1) (.bool n2) (.slice A' l' c') (.int .i64 e2);have HW:=hid hW;have K:=hid kW;have HA:=hid BA;have HR:=hid BR;clear hW kW BA BR;go_enter Tryz.func9,Tryz.ntmps9;go_upto_region 1 with fail;rw [←HW.out]
 refine rS 8 ([(vE (.agg #[.bool n1,.slice A l c,.int .i64 e1,.bool n2,.slice A' l' c',.int .i64 e2])),(vE (.bool ma)),(vE (.bool (!ma))),(vE (.bool (!ma))),(fun v wv=>(ma=true→(fun v _=>v=(.int .i64 p)) v wv)∧(ma=false→v=undef)),(fun v wv=>(ma=true→(fun v _=>v=(.bool mp)) v wv)∧(ma=false→v=undef)),(fun v wv=>(ma=true→(fun v _=>v=(.bool (!mp))) v wv)∧(ma=false→v=undef)),(vE (.bool (!(ma&&mp))))])
  ⟨
   (gql 2 fun _ k=>c6 HA.out k),(fun aF wF F=>by have s9:=F.v 0 9;exact sK (MA.out _ (K.out.trans F.kept)) fun _ _ h=>h),(gv 1 10),(gv 2 11),
   (fun aF wF F=>by
  have sg:=F.v 3 12;have s1:=F.q 1 (.int .i64 p);rcases Ca ma with hC | hC
  ·refine sIm hC (vE (.int .i64 p)) ?_;exact sVc rfl rfl sg (by first | rfl | simp [hC])
  ·exact sOc rfl rfl sg (by first | rfl | simp [hC]) (nW hC)),
   (fun aF wF F=>by
  have sg:=F.v 3 12;have s13:(ma=true→aF.tmps.getD 13 undef=(.int .i64 p))∧(ma=false→aF.tmps.getD 13 undef=undef):=F.done 4 13 (by kernel_rfl) rfl;rcases Ca ma with hC | hC
  ·refine sIm hC (vE (.bool mp)) ?_;replace s13:=s13.1 hC;exact Ao ((Ai rfl rfl sg).trans (by first | rfl | simp [hC])) (by go_simp) (P1.out _) (fun _ _ h=>RetK.good h) (fun _ _ h=>h)
  ·exact sOc rfl rfl sg (by first | rfl | simp [hC]) (nW hC)),
   (fun aF wF F=>by
  have sg:=F.v 3 12;have s14:(ma=true→aF.tmps.getD 14 undef=(.bool mp))∧(ma=false→aF.tmps.getD 14 undef=undef):=F.done 5 14 (by kernel_rfl) rfl;rcases Ca ma with hC | hC
  ·refine sIm hC (vE (.bool (!mp))) ?_;replace s14:=s14.1 hC;exact sVc rfl rfl sg (by first | rfl | simp [hC])
  ·exact sOc rfl rfl sg (by first | rfl | simp [hC]) (nW hC)),
   (fun aF wF F=>by
  have s12:=F.v 3 12;have s15:(ma=true→aF.tmps.getD 15 undef=(.bool (!mp)))∧(ma=false→aF.tmps.getD 15 undef=undef):=F.done 6 15 (by kernel_rfl) rfl;rcases Ca ma with hE | hE
  ·replace s15:=s15.1 hE;exact sw (by first | (go_simp;done) | (go_simp;simp_all;done) | (simp_all;done)) rfl
  ·exact sw (by first | (go_simp;done) | (go_simp;simp_all;done) | (simp_all;done)) rfl),
   trivial⟩ ?_
 intro u w1 k1 hu;have p13:=hp hu 4;have p14:=hp hu 5;have p15:=hp hu 6;simp only [Av,Am,if_true,Act.put,zlA,zlB,zlC,zlD,zlE,zlF,zlG,hv hu 0,hv hu 1,hv hu 2,hv hu 3,hv hu 7];clear hu;generalize u 4=v13,u 5=v14,u 6=v15 at *;clear p13 p14 p15 MA P1;replace K:=hid (K.out.trans k1);replace HA:=hid (HA.out.kept k1);replace HR:=hid (HR.out.kept k1);clear k1;rcases (Ca (ma&&mp)).symm with hg | hg
 ·have r0:=CN.out hg;subst r0;rw [hg];clear hg CN CE HA RA RA';obtain ⟨-,r0,r1,r2,r3,r4,r5⟩:=HR.out.facts;obtain ⟨f0,f1,f2,f3,f4,f5⟩:=HR.out.free;go_wp2_with fail;exact Ei (HR.out.laid _ _ _ _ _ _) rfl rfl rfl ⟨Cq K.out (by omega),_,rfl,D0 _⟩
 obtain ⟨⟨n,rfl,p1,p2⟩,oa,ra,rT⟩:=CE.out hg;rw [hg];subst ra;clear hg CE CN;have S1:=hid (fun w1 (k:Kept w w1)=>T6 (up:=false) (RA.out.kept k) oa.lo p1 p2);have S2:=hid (fun w1 (k:Kept w w1)=>T6 (up:=true) (RA'.out.kept k) oa.hi p1 p2);have hT:T=Bv (Ee ai n):=rT;rw [Vh oa] at hT;clear rT RA RA' oa p1 p2;generalize (if ai.lo.neg then bad 4 else Df ai.lo n false)=o1 at *;generalize (if ai.hi.neg then bad 4 else Df ai.hi n true)=o2 at *;have HT:=hid hT;clear hT;obtain ⟨-,a0,a1,a2,-⟩:=HA.out.facts;have lt0:w.heap.size+1<w1.heap.size:=HR.out.facts.1;go_wp2_with fail;refine (S1.out _ K.out).mono ?_
 rintro _ w3 ⟨q1,u1,rfl,hd⟩;obtain ⟨PX,pX,qX,rfl,z1⟩:=Cr hd;simp only [Outc.raw];obtain ⟨VX,hV,kV,hb,lV⟩:=Aa6 w3 (.bool o1.v.neg) (.slice PX pX qX) (.int .i64 o1.v.e);have HV:=hid hV;have kk:=q1.trans kV;have ltX:w.heap.size+1<w3.heap.size:=by have h1:=HR.out.facts.1;have h2:=q1.size;omega
 skip
 replace K:=hid (K.out.trans kk);replace HA:=hid (HA.out.kept kk);replace HR:=hid (HR.out.kept kk);have HX:=hid hb;have ZX:=hid (z1.kept kV);clear hV kV hb lV kk q1 hd z1 a0 a1 a2;go_upto_region 4 with fail;rw [←HV.out];clear HV;generalize w3.heap.size=bX at *;by_cases h1:o1.k=0
 ·rw [h1];obtain ⟨-,a0,a1,a2,a3,a4,a5⟩:=HA.out.facts;go_wp2_with fail;refine (S2.out _ K.out).mono ?_;rintro _ w4 ⟨q1,u1,rfl,hd⟩;obtain ⟨PY,pY,qY,rfl,z1⟩:=Cr hd;simp only [Outc.raw];obtain ⟨VX,hV,kV,hb,lV⟩:=Aa6 w4 (.bool o2.v.neg) (.slice PY pY qY) (.int .i64 o2.v.e);have HV:=hid hV;have kk:=q1.trans kV;have ltY:bX<w4.heap.size:=by have h1:=HX.out.facts.1;have h2:=q1.size;omega
  replace HX:=hid (HX.out.kept kk);replace ZX:=hid (ZX.out.kept kk);replace K:=hid (K.out.trans kk);replace HA:=hid (HA.out.kept kk);replace HR:=hid (HR.out.kept kk);have HY:=hid hb;have ZY:=hid (z1.kept kV);clear hV kV hb lV kk q1 hd z1 a0 a1 a2 a3 a4 a5;go_upto_region 7 with fail;rw [←HV.out];clear HV;generalize w4.heap.size=bY at *;by_cases h2:o2.k=0
  ·have r0:=HT.out;rw [Sc h1 h2] at r0;subst r0;rw [h2];clear h1 h2 HT HA S1 S2;obtain ⟨-,c0,c1,c2,-⟩:=HX.out.facts;obtain ⟨-,d0,d1,d2,-⟩:=HY.out.facts;obtain ⟨-,r0,r1,r2,r3,r4,r5⟩:=HR.out.facts;obtain ⟨f0,f1,f2,f3,f4,f5⟩:=HR.out.free;go_wp2_with fail;exact Ei (HR.out.laid _ _ _ _ _ _) rfl rfl rfl ⟨Cq K.out (by omega),_,rfl,_,_,_,_,_,_,rfl,ZX.out.ivW HR.out _ _ _ _ _ _,ZY.out.ivW HR.out _ _ _ _ _ _⟩
  ·have e2:(o2.k==0)=false:=by simpa using h2
   have e2':(o2.k != 0)=true:=by simpa using h2
   have r0:=HT.out;rw [Uk h1 h2] at r0;subst r0;clear h1 h2 HT HA S1 S2 HX ZX HY ZY;generalize o2.k=kk at *;obtain ⟨-,r0,r1,r2,r3,r4,r5⟩:=HR.out.facts;obtain ⟨f0,f1,f2,f3,f4,f5⟩:=HR.out.free;go_wp2_with fail;exact Ei (HR.out.laid _ _ _ _ _ _) rfl rfl rfl ⟨Cq K.out (by omega),_,rfl,D0 _⟩
 ·have e2:(o1.k==0)=false:=by simpa using h1
  have e2':(o1.k != 0)=true:=by simpa using h1
  have r0:=HT.out;rw [Nu h1] at r0;subst r0;clear h1 HT HA S1 S2 HX ZX;generalize o1.k=kk at *;obtain ⟨-,r0,r1,r2,r3,r4,r5⟩:=HR.out.facts;obtain ⟨f0,f1,f2,f3,f4,f5⟩:=HR.out.free;go_wp2_with fail;exact Ei (HR.out.laid _ _ _ _ _ _) rfl rfl rfl ⟨Cq K.out (by omega),_,rfl,D0 _⟩
theorem Tc (w:World)(x y z x' y' z':Value):∃ V,V=w.alloc (.cells #[x,y,z,x',y',z'] 26)∧Kept w V∧BlkI V w.heap.size x y z x' y' z'∧w.heap.size<V.heap.size :=
 ⟨_,rfl,Ad _ _,Ez _ _ _ _ _ _ _,by simp⟩
theorem Nv {p:Int}{l:List RawI}{o:Outc Iv}(h:1≤p→p≤2000→l.all Ex=true→OkI o):(Cs p l (Bv o)).v.lens 17592186044416:=by
 unfold Cs;by_cases hc:1≤p∧p≤2000∧l.all Ex=true
 ·rw [if_pos hc];exact F3 (h hc.1 hc.2.1 hc.2.2).1
 ·rw [if_neg hc];exact ⟨Nat.zero_le _,Nat.zero_le _⟩
theorem Ua {w:World}{v u:Value}{a:RawI}{k:Int}(ha:IvR w v a)(hb:IvR w u a)(hl:a.lens 17592186044416) :
 Calls Tryz.prog 10 #[v,.int .i64 k,u,.int .i64 k] w (RetK (.bool true) w):=by
 have C1:=hid (fun w1 (k:Kept w w1)=>Ye (ha.kept k) (hb.kept k) hl);obtain ⟨A,l,c,A',l',c',rfl,-,-⟩:=Be ha;obtain ⟨B,m,d,B',m',d',rfl,-,-⟩:=Be hb;clear ha hb hl;generalize a.lo.neg=n1 at *;generalize a.lo.e=e1 at *;generalize a.hi.neg=n2 at *;generalize a.hi.e=e2 at *;obtain ⟨W,hW,kW,BA,BB⟩:=Om w (.bool n1) (.slice A l c) (.int .i64 e1) (.bool n2) (.slice A' l' c') (.int .i64 e2) (.bool n1) (.slice B m d) (.int .i64 e1) (.bool n2) (.slice B' m' d') (.int .i64 e2);have HW:=hid hW;have K:=hid kW;obtain ⟨-,a0,a1,a2,a3,a4,a5⟩:=BA.facts;obtain ⟨-,b0,b1,b2,b3,b4,b5⟩:=BB.facts
 clear hW kW BA BB;have hk:(k==k)=true:=by simp
 go_enter Tryz.func10,Tryz.ntmps10;go_wp2_with fail;rw [←HW.out];go_wp2_with fail;refine (C1.out _ K.out).mono ?_;rintro _ w1 ⟨rfl,q1⟩;simp only [];go_wp2_with fail;go_ret;exact ⟨rfl,K.out.trans q1⟩
theorem Aah {w:World}{va vb:Value}{a b:RawI}{p:Int}(ha:IvR w va a)(hb:IvR w vb b)
 (la:a.lens 17592186044416) (lb:b.lens 17592186044416) (hT:Tab w) :
 Calls Tryz.prog 3 #[va,vb,.int .i64 p] w (RetK (.bool true) w):=by
 have T:=hid hT;have CA:=hid (fun (h:Ex a=true)=>let ⟨_,_,_,_,_,_,_,h1,h2⟩:=Be ha;D7 h1.small h2.small h);have CB:=hid (fun (h:Ex b=true)=>let ⟨_,_,_,_,_,_,_,h1,h2⟩:=Be hb;D7 h1.small h2.small h);obtain ⟨o1,ho1⟩:∃ o,Cs p [a,b] (Bv (Fa a.iv b.iv p.toNat))=o:=⟨_,rfl⟩;have N1:=hid (show o1.v.lens 17592186044416 by rw [←ho1];exact Nv (fun h1 h2 hl=>by have h3:=hl;simp only [List.all_cons,List.all_nil,Bool.and_true,Bool.and_eq_true] at h3;have ob:=(CB.out h3.2).1;exact Zs ob (by omega)));have C1:=hid (fun w1 (k:Kept w w1)=>show Calls Tryz.prog 6 #[va,vb,.int .i64 p] w1 (RetIE o1 w1) by rw [←ho1];exact Aa1 (ha.kept k) (hb.kept k) la lb (T.out.kept k))
 have D1:=hid (fun (hp:p≤1000∨2000<p) w1 (k:Kept w w1)=>show Calls Tryz.prog 7 #[va,vb,.int .i64 p] w1 (RetIE o1 w1) by rw [←ho1];exact Aai (ha.kept k) (hb.kept k) la lb hp);obtain ⟨o2,ho2⟩:∃ o,Cs p [a] (Bv (Ee a.iv p.toNat))=o:=⟨_,rfl⟩;have N2:=hid (show o2.v.lens 17592186044416 by rw [←ho2];exact Nv (fun h1 h2 hl=>by have h3:=hl;simp only [List.all_cons,List.all_nil,Bool.and_true] at h3;have oa:=(CA.out h3).1;exact Yv oa (by omega)));have C2:=hid (fun w1 (k:Kept w w1)=>show Calls Tryz.prog 8 #[va,.int .i64 p] w1 (RetIE o2 w1) by rw [←ho2];exact Vv (ha.kept k) la (T.out.kept k))
 have D2:=hid (fun (hp:p≤1000∨2000<p) w1 (k:Kept w w1)=>show Calls Tryz.prog 9 #[va,.int .i64 p] w1 (RetIE o2 w1) by rw [←ho2];exact Yi (ha.kept k) la hp);clear ho1 ho2 CA CB hT;obtain ⟨Aa,ia,ja,Ba,ma,na,rfl,-,-⟩:=Be ha;obtain ⟨Ab,ib,jb,Bb,mb,nb,rfl,-,-⟩:=Be hb;obtain ⟨fa,hfa⟩:∃ x,decide (6<ia)=!x:=⟨!decide (6<ia),by simp⟩;obtain ⟨ea,hea⟩:∃ x,decide (6<ma)=!x:=⟨!decide (6<ma),by simp⟩;obtain ⟨fb,hfb⟩:∃ x,decide (6<ib)=!x:=⟨!decide (6<ib),by simp⟩;obtain ⟨eb,heb⟩:∃ x,decide (6<mb)=!x:=⟨!decide (6<mb),by simp⟩;obtain ⟨r0,hr0⟩:∃ x,decide (150<p)=x:=⟨_,rfl⟩;obtain ⟨r1,hr1⟩:∃ x,decide (p≤2000)=x:=⟨_,rfl⟩
 have FA:=hid hfa;have EA:=hid hea;have FB:=hid hfb;have EB:=hid heb;have R0:=hid hr0;have R1:=hid hr1;clear hfa hea hfb heb hr0 hr1 ha hb la lb;generalize a.lo.neg=xa at *;generalize a.lo.e=ya at *;generalize a.hi.neg=za at *;generalize a.hi.e=ta at *;generalize b.lo.neg=xb at *;generalize b.lo.e=yb at *;generalize b.hi.neg=zb at *;generalize b.hi.e=tb at *;obtain ⟨W,hW,kW,BA,BB⟩:=Om w (.bool xa) (.slice Aa ia ja) (.int .i64 ya) (.bool za) (.slice Ba ma na) (.int .i64 ta) (.bool xb) (.slice Ab ib jb) (.int .i64 yb) (.bool zb) (.slice Bb mb nb) (.int .i64 tb);have HW:=hid hW;have K:=hid kW
 have HA:=hid BA;have HB:=hid BB;clear hW kW BA BB;go_enter Tryz.func3,Tryz.ntmps3;go_upto_region 1 with fail;rw [←HW.out]
 go_cut [48] (fun s48 wx=>s48=.bool (!(fa&&ea&&fb&&eb&&!(r0&&r1)))∧Kept W wx)
 case first =>
  clear C1 C2 D1 D2 N1 N2;obtain ⟨-,c0,c1,c2,c3,c4,c5⟩:=HA.out.facts;obtain ⟨-,d0,d1,d2,d3,d4,d5⟩:=HB.out.facts;have g1:=FA.out;have g2:=EA.out;have g3:=FB.out;have g4:=EB.out;have g5:=R0.out;have g6:=R1.out;have h1:decide ((6:Int)<(ia:Int))=!fa:=by rw [←g1,decide_eq_decide];omega
  have h2:decide ((6:Int)<(ma:Int))=!ea:=by rw [←g2,decide_eq_decide];omega
  have h3:decide ((6:Int)<(ib:Int))=!fb:=by rw [←g3,decide_eq_decide];omega
  have h4:decide ((6:Int)<(mb:Int))=!eb:=by rw [←g4,decide_eq_decide];omega
  cases fa
  ·go_wp2_with fail
   go_meet
   exact ⟨rfl,Below.refl _ _⟩
  cases ea
  ·go_wp2_with fail
   go_meet
   exact ⟨rfl,Below.refl _ _⟩
  cases fb
  ·go_wp2_with fail
   go_meet
   exact ⟨rfl,Below.refl _ _⟩
  cases eb
  ·go_wp2_with fail
   go_meet
   exact ⟨rfl,Below.refl _ _⟩
  cases r0
  ·go_wp2_with fail
   go_meet
   exact ⟨rfl,Below.refl _ _⟩
  cases r1
  ·go_wp2_with fail
   go_meet
   exact ⟨rfl,Below.refl _ _⟩
  ·go_wp2_with fail
   go_meet
   exact ⟨rfl,Below.refl _ _⟩
 obtain ⟨rfl,k1⟩:=hcut;replace K:=hid (K.out.trans k1);replace HA:=hid (HA.out.kept k1);replace HB:=hid (HB.out.kept k1);clear k1;rcases (Ca (fa&&ea&&fb&&eb&&!(r0&&r1))).symm with hg | hg
 ·rw [hg];go_wp2_with fail;refine (Y4 (T.out.kept K.out)).mono ?_;rintro e w2 ⟨rfl,q⟩;simp only [];go_wp2_with fail;go_ret;exact ⟨rfl,K.out.trans q⟩
 rw [hg];have hp:p≤1000∨2000<p:=by
  simp only [Bool.and_eq_true,Bool.not_eq_true',Bool.and_eq_false_iff] at hg;have g5:=R0.out;have g6:=R1.out;rcases hg.2 with h | h
  ·rw [h] at g5;have:=of_decide_eq_false g5;omega
  ·rw [h] at g6;have:=of_decide_eq_false g6;omega
 replace D1:=hid (D1.out hp);replace D2:=hid (D2.out hp);clear hg hp FA EA FB EB R0 R1;obtain ⟨-,c0,c1,c2,c3,c4,c5⟩:=HA.out.facts;obtain ⟨-,d0,d1,d2,d3,d4,d5⟩:=HB.out.facts;go_wp2_with fail;refine (C1.out _ K.out).mono ?_;rintro e w1 ⟨q,u,rfl,hd⟩;obtain ⟨Pm1a,pm1a,qm1a,Rm1a,rm1a,sm1a,rfl,z1,z2⟩:=Be hd;simp only [];obtain ⟨V,hV,kV,hb,lV⟩:=Tc w1 (.bool o1.v.lo.neg) (.slice Pm1a pm1a qm1a) (.int .i64 o1.v.lo.e) (.bool o1.v.hi.neg) (.slice Rm1a rm1a sm1a) (.int .i64 o1.v.hi.e);have HV:=hid hV;have kk:=q.trans kV;replace K:=hid (K.out.trans kk);replace HA:=hid (HA.out.kept kk);replace HB:=hid (HB.out.kept kk)
 have Hm1a:=hid hb;have Zm1a:=hid (And.intro (z1.kept kV) (z2.kept kV));clear hV kV hb lV kk q hd z1 z2 c0 c1 c2 c3 c4 c5 d0 d1 d2 d3 d4 d5 C1;go_upto_region 4 with fail;rw [←HV.out];clear HV;generalize w1.heap.size=bm1a at *;obtain ⟨-,c0,c1,c2,c3,c4,c5⟩:=HA.out.facts;obtain ⟨-,d0,d1,d2,d3,d4,d5⟩:=HB.out.facts;go_wp2_with fail;refine (D1.out _ K.out).mono ?_;rintro e w1 ⟨q,u,rfl,hd⟩;obtain ⟨Pm1b,pm1b,qm1b,Rm1b,rm1b,sm1b,rfl,z1,z2⟩:=Be hd;simp only [];obtain ⟨V,hV,kV,hb,lV⟩:=Tc w1 (.bool o1.v.lo.neg) (.slice Pm1b pm1b qm1b) (.int .i64 o1.v.lo.e) (.bool o1.v.hi.neg) (.slice Rm1b rm1b sm1b) (.int .i64 o1.v.hi.e)
 have HV:=hid hV;have kk:=q.trans kV;replace K:=hid (K.out.trans kk);replace HA:=hid (HA.out.kept kk);replace HB:=hid (HB.out.kept kk);replace Hm1a:=hid (Hm1a.out.kept kk);replace Zm1a:=hid (And.intro (Zm1a.out.1.kept kk) (Zm1a.out.2.kept kk));have Hm1b:=hid hb;have Zm1b:=hid (And.intro (z1.kept kV) (z2.kept kV));clear hV kV hb lV kk q hd z1 z2 c0 c1 c2 c3 c4 c5 d0 d1 d2 d3 d4 d5 D1;go_upto_region 5 with fail;rw [←HV.out];clear HV;generalize w1.heap.size=bm1b at *;obtain ⟨-,c0,c1,c2,c3,c4,c5⟩:=HA.out.facts;go_wp2_with fail;refine (C2.out _ K.out).mono ?_;rintro e w1 ⟨q,u,rfl,hd⟩;obtain ⟨Pm2a,pm2a,qm2a,Rm2a,rm2a,sm2a,rfl,z1,z2⟩:=Be hd
 simp only [];obtain ⟨V,hV,kV,hb,lV⟩:=Tc w1 (.bool o2.v.lo.neg) (.slice Pm2a pm2a qm2a) (.int .i64 o2.v.lo.e) (.bool o2.v.hi.neg) (.slice Rm2a rm2a sm2a) (.int .i64 o2.v.hi.e);have HV:=hid hV;have kk:=q.trans kV;replace K:=hid (K.out.trans kk);replace HA:=hid (HA.out.kept kk);replace HB:=hid (HB.out.kept kk);replace Hm1a:=hid (Hm1a.out.kept kk);replace Zm1a:=hid (And.intro (Zm1a.out.1.kept kk) (Zm1a.out.2.kept kk));replace Hm1b:=hid (Hm1b.out.kept kk);replace Zm1b:=hid (And.intro (Zm1b.out.1.kept kk) (Zm1b.out.2.kept kk));have Hm2a:=hid hb;have Zm2a:=hid (And.intro (z1.kept kV) (z2.kept kV))
 clear hV kV hb lV kk q hd z1 z2 c0 c1 c2 c3 c4 c5 C2;go_upto_region 6 with fail;rw [←HV.out];clear HV;generalize w1.heap.size=bm2a at *;obtain ⟨-,c0,c1,c2,c3,c4,c5⟩:=HA.out.facts;go_wp2_with fail;refine (D2.out _ K.out).mono ?_;rintro e w1 ⟨q,u,rfl,hd⟩;obtain ⟨Pm2b,pm2b,qm2b,Rm2b,rm2b,sm2b,rfl,z1,z2⟩:=Be hd;simp only [];obtain ⟨V,hV,kV,hb,lV⟩:=Tc w1 (.bool o2.v.lo.neg) (.slice Pm2b pm2b qm2b) (.int .i64 o2.v.lo.e) (.bool o2.v.hi.neg) (.slice Rm2b rm2b sm2b) (.int .i64 o2.v.hi.e);have HV:=hid hV;have kk:=q.trans kV;replace K:=hid (K.out.trans kk);replace HA:=hid (HA.out.kept kk);replace HB:=hid (HB.out.kept kk);replace Hm1a:=hid (Hm1a.out.kept kk);replace Zm1a:=hid (And.intro (Zm1a.out.1.kept kk) (Zm1a.out.2.kept kk));replace Hm1b:=hid (Hm1b.out.kept kk);replace Zm1b:=hid (And.intro (Zm1b.out.1.kept kk) (Zm1b.out.2.kept kk));replace Hm2a:=hid (Hm2a.out.kept kk);replace Zm2a:=hid (And.intro (Zm2a.out.1.kept kk) (Zm2a.out.2.kept kk))
 have Hm2b:=hid hb;have Zm2b:=hid (And.intro (z1.kept kV) (z2.kept kV));clear hV kV hb lV kk q hd z1 z2 c0 c1 c2 c3 c4 c5 D2;go_upto_region 7 with fail;rw [←HV.out];clear HV;generalize w1.heap.size=bm2b at *
 refine rS 16 ([(vE (.bool true)),(vE (.bool true)),(vE (.agg #[.bool o1.v.lo.neg,.slice Pm1a pm1a qm1a,.int .i64 o1.v.lo.e,.bool o1.v.hi.neg,.slice Rm1a rm1a sm1a,.int .i64 o1.v.hi.e])),(vE (.int .i64 o1.k)),(vE (.agg #[.bool o1.v.lo.neg,.slice Pm1b pm1b qm1b,.int .i64 o1.v.lo.e,.bool o1.v.hi.neg,.slice Rm1b rm1b sm1b,.int .i64 o1.v.hi.e])),(vE (.int .i64 o1.k)),(vE (.bool true)),(vE (.bool true)),(vE (.bool true)),(vE (.agg #[.bool o2.v.lo.neg,.slice Pm2a pm2a qm2a,.int .i64 o2.v.lo.e,.bool o2.v.hi.neg,.slice Rm2a rm2a sm2a,.int .i64 o2.v.hi.e])),(vE (.int .i64 o2.k)),(vE (.agg #[.bool o2.v.lo.neg,.slice Pm2b pm2b qm2b,.int .i64 o2.v.lo.e,.bool o2.v.hi.neg,.slice Rm2b rm2b sm2b,.int .i64 o2.v.hi.e])),(vE (.int .i64 o2.k)),(vE (.bool true)),(vE (.bool true)),(vE (.bool true))])
  ⟨
   (fun aF wF F=>by exact sK (Y4 (T.out.kept (K.out.trans F.kept))) fun _ _ h=>h),(gv 0 76),(fun aF wF F=>by have s7:=F.q 7 (.pointer (some ⟨bm1a,0,none⟩));obtain ⟨c0,c1,c2,c3,c4,c5⟩:=c6 Hm1a.out F.kept;have sg:=F.v 1 77;exact Au ((Ai rfl rfl sg).trans rfl) (by go_simp) rfl),(fun aF wF F=>by have s8:=F.q 8 (.int .i64 o1.k);have sg:=F.v 1 77;exact Au ((Ai rfl rfl sg).trans rfl) (by go_simp) rfl),(fun aF wF F=>by have s9:=F.q 9 (.pointer (some ⟨bm1b,0,none⟩));obtain ⟨c0,c1,c2,c3,c4,c5⟩:=c6 Hm1b.out F.kept;have sg:=F.v 1 77;exact Au ((Ai rfl rfl sg).trans rfl) (by go_simp) rfl),(fun aF wF F=>by have s10:=F.q 10 (.int .i64 o1.k);have sg:=F.v 1 77;exact Au ((Ai rfl rfl sg).trans rfl) (by go_simp) rfl),(fun aF wF F=>by have s78:=F.v 2 78;have s79:=F.v 3 79;have s80:=F.v 4 80;have s81:=F.v 5 81;have sg:=F.v 1 77;exact Ao ((Ai rfl rfl sg).trans rfl) (by go_simp) (Ua (k:=o1.k) (a:=o1.v) ⟨_,_,_,_,_,_,rfl,Zm1a.out.1.kept F.kept,Zm1a.out.2.kept F.kept⟩ ⟨_,_,_,_,_,_,rfl,Zm1b.out.1.kept F.kept,Zm1b.out.2.kept F.kept⟩ N1.out) (fun _ _ h=>RetK.good h) (fun _ _ h=>h)),(gvv 1 77 6 82),(gv 7 83),(fun aF wF F=>by have s11:=F.q 11 (.pointer (some ⟨bm2a,0,none⟩));obtain ⟨c0,c1,c2,c3,c4,c5⟩:=c6 Hm2a.out F.kept;have sg:=F.v 8 84;exact Au ((Ai rfl rfl sg).trans rfl) (by go_simp) rfl),(fun aF wF F=>by have s12:=F.q 12 (.int .i64 o2.k);have sg:=F.v 8 84;exact Au ((Ai rfl rfl sg).trans rfl) (by go_simp) rfl),(fun aF wF F=>by have s13:=F.q 13 (.pointer (some ⟨bm2b,0,none⟩));obtain ⟨c0,c1,c2,c3,c4,c5⟩:=c6 Hm2b.out F.kept;have sg:=F.v 8 84;exact Au ((Ai rfl rfl sg).trans rfl) (by go_simp) rfl),(fun aF wF F=>by have s14:=F.q 14 (.int .i64 o2.k);have sg:=F.v 8 84;exact Au ((Ai rfl rfl sg).trans rfl) (by go_simp) rfl),(fun aF wF F=>by have s85:=F.v 9 85;have s86:=F.v 10 86;have s87:=F.v 11 87;have s88:=F.v 12 88;have sg:=F.v 8 84;exact Ao ((Ai rfl rfl sg).trans rfl) (by go_simp) (Ua (k:=o2.k) (a:=o2.v) ⟨_,_,_,_,_,_,rfl,Zm2a.out.1.kept F.kept,Zm2a.out.2.kept F.kept⟩ ⟨_,_,_,_,_,_,rfl,Zm2b.out.1.kept F.kept,Zm2b.out.2.kept F.kept⟩ N2.out) (fun _ _ h=>RetK.good h) (fun _ _ h=>h)),(gvv 8 84 13 89),(gv 14 90),
   trivial⟩ ?_
 intro u w1 k1 hu;simp only [Av,Am,if_true,Act.put,zlA,zlB,zlC,zlD,zlE,zlF,zlG,hv hu 0,hv hu 1,hv hu 2,hv hu 3,hv hu 4,hv hu 5,hv hu 6,hv hu 7,hv hu 8,hv hu 9,hv hu 10,hv hu 11,hv hu 12,hv hu 13,hv hu 14,hv hu 15];clear hu;go_wp2_with fail;go_ret;exact ⟨rfl,K.out.trans k1⟩
end Go.Proofs.YtinbgjcooolbiaaGreatDoor
