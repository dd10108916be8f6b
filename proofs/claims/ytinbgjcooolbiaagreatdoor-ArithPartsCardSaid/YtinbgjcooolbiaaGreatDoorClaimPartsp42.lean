/- Words and contracts, part 42. -/
import Derived.Test.YtinbgjcooolbiaaGreatDoorClaimPartsp38
import Derived.Test.YtinbgjcooolbiaaGreatDoorClaimPartsp40
import Derived.Test.YtinbgjcooolbiaaGreatDoorClaimPartsp41
set_option maxRecDepth 100000
set_option maxHeartbeats 0
namespace Go.Proofs.YtinbgjcooolbiaaGreatDoor
open Go.Lib (hid)
open Go.RowKit
theorem Aa6 (w:World)(x y z:Value):∃ V,V=w.alloc (.cells #[x,y,z] 24)∧Kept w V∧Blk V w.heap.size x y z∧w.heap.size<V.heap.size :=
 ⟨_,rfl,Ad _ _,blk_new _ _ _ _,by simp⟩
theorem Ada (w:World)(x y z x' y' z':Value):∃ W,W=(w.alloc (.cells #[x,y,z,x',y',z'] 26)).alloc (.cells #[.bool false,.slice none 0 0,.int .i64 0,.bool false,.slice none 0 0,.int .i64 0] 26) ∧
 Kept w W∧BlkI W w.heap.size x y z x' y' z'∧BlkI W (w.heap.size+1) (.bool false) (.slice none 0 0) (.int .i64 0) (.bool false) (.slice none 0 0) (.int .i64 0):=by
 refine ⟨_,rfl,(Ad _ _).trans (Ad _ _),(Ez _ _ _ _ _ _ _).kept (Ad _ _),?_⟩;have:=G0 (w.alloc (.cells #[x,y,z,x',y',z'] 26));simp only [World.size_alloc] at this;exact this
theorem Nu {o1 o2:Outc Dy}(h:o1.k≠0):Bv (Gk o1 o2)=⟨rzI,o1.k⟩:=by
 unfold Gk Outc.bind Bv;rw [if_neg h,Fx]
theorem Uk {o1 o2:Outc Dy}(h:o1.k=0)(h2:o2.k≠0):Bv (Gk o1 o2)=⟨rzI,o2.k⟩:=by
 unfold Gk Outc.bind Bv;rw [if_pos h];dsimp only;rw [if_neg h2,Fx]
theorem Sc {o1 o2:Outc Dy}(h:o1.k=0)(h2:o2.k=0):Bv (Gk o1 o2)=⟨⟨o1.v.raw,o2.v.raw⟩,0⟩:=by
 unfold Gk Outc.bind Bv;rw [if_pos h];dsimp only;rw [if_pos h2];rfl
theorem Abt (w:World)(x y z x' y' z' p q r p' q' r':Value):∃ W,W=((w.alloc (.cells #[x,y,z,x',y',z'] 26)).alloc (.cells #[p,q,r,p',q',r'] 26)).alloc (.cells #[.bool false,.slice none 0 0,.int .i64 0,.bool false,.slice none 0 0,.int .i64 0] 26) ∧
 Kept w W∧BlkI W w.heap.size x y z x' y' z'∧BlkI W (w.heap.size+1) p q r p' q' r'∧BlkI W (w.heap.size+1+1) (.bool false) (.slice none 0 0) (.int .i64 0) (.bool false) (.slice none 0 0) (.int .i64 0):=by
 obtain ⟨W,hW,k,h1,h2⟩:=Om w x y z x' y' z' p q r p' q' r';refine ⟨_,rfl,?_,?_,?_,?_⟩
 ·rw [←hW];exact k.trans (Ad _ _)
 ·rw [←hW];exact h1.kept (Ad _ _)
 ·rw [←hW];exact h2.kept (Ad _ _)
 ·have:=G0 ((w.alloc (.cells #[x,y,z,x',y',z'] 26)).alloc (.cells #[p,q,r,p',q',r'] 26));simp only [World.size_alloc] at this;exact this
theorem Abz (p:Int)(a b:RawI)(o:Outc RawI):Cs p [a,b] o=if Ex a&&Ex b&&(decide (1≤p)&&decide (p≤2000)) then o else ⟨rzI,1⟩:=by
 unfold Cs;by_cases h:Ex a=true∧Ex b=true∧1≤p∧p≤2000
 ·obtain ⟨h1,h2,h3,h4⟩:=h;rw [if_pos ⟨h3,h4,by simp [h1,h2]⟩,if_pos (by simp [h1,h2,h3,h4])]
 ·rw [if_neg,if_neg]
  ·intro hh;simp only [Bool.and_eq_true,decide_eq_true_eq] at hh;exact h ⟨hh.1.1,hh.1.2,hh.2.1,hh.2.2⟩
  ·intro hh;simp only [List.all_cons,List.all_nil,Bool.and_true,Bool.and_eq_true] at hh;exact h ⟨hh.2.2.1,hh.2.2.2,hh.1,hh.2.1⟩
theorem Aby (p:Int)(a:RawI)(o:Outc RawI):Cs p [a] o=if Ex a&&(decide (1≤p)&&decide (p≤2000)) then o else ⟨rzI,1⟩:=by
 unfold Cs;by_cases h:Ex a=true∧1≤p∧p≤2000
 ·obtain ⟨h1,h3,h4⟩:=h;rw [if_pos ⟨h3,h4,by simp [h1]⟩,if_pos (by simp [h1,h3,h4])]
 ·rw [if_neg,if_neg]
  ·intro hh;simp only [Bool.and_eq_true,decide_eq_true_eq] at hh;exact h ⟨hh.1,hh.2.1,hh.2.2⟩
  ·intro hh;simp only [List.all_cons,List.all_nil,Bool.and_true] at hh;exact h ⟨hh.2.2,hh.1,hh.2.1⟩
theorem Py {w:World}{b b':Nat}{x y z x' y' z':Value}(h:BlkI w b x y z x' y' z')(hne:¬b=b')(p q r:Value):BlkI (dyW w b' p q r) b x y z x' y' z':=by
 unfold BlkI dyW at *;rw [Below.heap_setCell _ _ _ _ hne,Below.heap_setCell _ _ _ _ hne,Below.heap_setCell _ _ _ _ hne];exact h
theorem Qm (a:Iv):((!decide (Bq dz.q a.lo.q<0))&&(!decide (Bq a.hi.q dz.q<0)))=Br a:=by
 unfold Br;rw [Wt];have e1:(!decide (Bq 0 a.lo.q<0))=decide (Bq a.lo.q 0≤0):=by
  rw [←decide_not,decide_eq_decide,Gp,Fk,Rat.not_lt]
 have e2:(!decide (Bq a.hi.q 0<0))=decide (Bq 0 a.hi.q≤0):=by
  rw [←decide_not,decide_eq_decide,Gp,Fk,Rat.not_lt]
 rw [e1,e2]
theorem Ac9 (w:World)(x y z x' y' z' p q r:Value):∃ W,W=(w.alloc (.cells #[x,y,z,x',y',z'] 26)).alloc (.cells #[p,q,r] 24)∧Kept w W∧BlkI W w.heap.size x y z x' y' z'∧Blk W (w.heap.size+1) p q r:=by
 refine ⟨_,rfl,(Ad _ _).trans (Ad _ _),(Ez _ _ _ _ _ _ _).kept (Ad _ _),?_⟩;have:=blk_new (w.alloc (.cells #[x,y,z,x',y',z'] 26)) p q r;simpa using this
theorem Aaj {w:World}{v:Value}{a:Iv}(ha:IvR w v a.raw)(hok:a.Ok) :
 Calls Tryz.prog 38 #[v,.agg #[.bool false,.slice none 0 0,.int .i64 0]] w (RetK (.bool (Br a)) w):=by
 rw [←Qm];have hm:Ex a.raw=true:=Fq hok;have M1:=hid (fun w1 (k:Kept w w1)=>show Calls Tryz.prog 36 #[v] w1 (RetK (.bool true) w1) by have h:=Lu (ha.kept k) (F3 hok);rwa [hm] at h);have hz:∀ w1,DyR w1 (.agg #[.bool false,.slice none 0 0,.int .i64 0]) dz.raw:=fun w1=>by rw [Cj];exact E4 w1
 have M2:=hid (fun w1=>show Calls Tryz.prog 79 #[.agg #[.bool false,.slice none 0 0,.int .i64 0]] w1 (RetK (.bool true) w1) by have h:=Hz (hz w1) (by have:=Di dz_ok;omega);rwa [dz_ok.may] at h);obtain ⟨A,l,c,B,m,d,rfl,h1,h2⟩:=Be ha;have L1:=hid (fun w1 (k:Kept w w1)=>Ls (hz w1) (h1.kept k) dz_ok hok.lo);have L2:=hid (fun w1 (k:Kept w w1)=>Ls (h2.kept k) (hz w1) hok.hi dz_ok);clear h1 h2 ha hok hm hz;generalize decide (Bq dz.q a.lo.q<0)=r1 at *;generalize decide (Bq a.hi.q dz.q<0)=r2 at *;simp only [Iv.raw,Dy.raw] at *;generalize a.lo.neg=n1 at *;generalize a.lo.e=e1 at *
 generalize a.hi.neg=n2 at *;generalize a.hi.e=e2 at *;obtain ⟨W,hW,kW,BA,BD⟩:=Ac9 w (.bool n1) (.slice A l c) (.int .i64 e1) (.bool n2) (.slice B m d) (.int .i64 e2) (.bool false) (.slice none 0 0) (.int .i64 0);have HW:=hid hW;have K:=hid kW;have HA:=hid BA;have HB:=hid BD;clear hW kW BA BD;go_enter Tryz.func38,Tryz.ntmps38;go_upto_region 1 with fail;rw [←HW.out]
 refine rS 21 ([(vE (.agg #[.bool n1,.slice A l c,.int .i64 e1,.bool n2,.slice B m d,.int .i64 e2])),(vE (.bool true)),(vE (.bool true)),(vE (.agg #[.bool false,.slice none 0 0,.int .i64 0])),(vE (.bool true)),(vE (.bool true)),(vE (.bool true)),(vE (.agg #[.bool false,.slice none 0 0,.int .i64 0])),(vP w.heap.size 0),(vE (.agg #[.bool n1,.slice A l c,.int .i64 e1])),(vE (.bool r1)),(vE (.bool (!r1))),(vE (.bool (!r1))),(vE (.bool (!r1))),(fun v wv=>((!r1)=true→(fun v _=>v=(.pointer (some ⟨w.heap.size,3,none⟩))) v wv)∧((!r1)=false→v=undef)),(fun v wv=>((!r1)=true→(fun v _=>v=(.agg #[.bool n2,.slice B m d,.int .i64 e2])) v wv)∧((!r1)=false→v=undef)),(fun v wv=>((!r1)=true→(fun v _=>v=(.agg #[.bool false,.slice none 0 0,.int .i64 0])) v wv)∧((!r1)=false→v=undef)),(fun v wv=>((!r1)=true→(fun v _=>v=(.bool r2)) v wv)∧((!r1)=false→v=undef)),(fun v wv=>((!r1)=true→(fun v _=>v=(.bool (!r2))) v wv)∧((!r1)=false→v=undef)),(vE (.bool (!r1&&!r2))),(vE (.bool (!r1&&!r2)))])
  ⟨
   (gql 2 fun _ k=>c6 HA.out k),(fun aF wF F=>by have s5:=F.v 0 5;exact sK (M1.out _ (K.out.trans F.kept)) fun _ _ h=>h),(gv 1 6),(fun aF wF F=>by have s3:=F.q 3 (.pointer (some ⟨w.heap.size+1,0,none⟩));obtain ⟨c0,c1,c2⟩:=c3 HB.out F.kept;have sg:=F.v 2 7;exact Au ((Ai rfl rfl sg).trans rfl) (by go_simp) rfl),(fun aF wF F=>by have s8:=F.v 3 8;have sg:=F.v 2 7;exact Ao ((Ai rfl rfl sg).trans rfl) (by go_simp) (M2.out _) (fun _ _ h=>RetK.good h) (fun _ _ h=>h)),(gvv 2 7 4 9),(gv 5 10),(fun aF wF F=>by have s3:=F.q 3 (.pointer (some ⟨w.heap.size+1,0,none⟩));obtain ⟨c0,c1,c2⟩:=c3 HB.out F.kept;have sg:=F.v 6 11;exact Au ((Ai rfl rfl sg).trans rfl) (by go_simp) rfl),(fun aF wF F=>by have s2:=F.q 2 (.pointer (some ⟨w.heap.size,0,none⟩));have sg:=F.v 6 11;exact Au ((Ai rfl rfl sg).trans rfl) (by go_simp) rfl),(fun aF wF F=>by have s13:=F.v 8 13;have c0:=Af HA.out F.kept 0 _ rfl;have c1:=Af HA.out F.kept 1 _ rfl;have c2:=Af HA.out F.kept 2 _ rfl;have sg:=F.v 6 11;exact Au ((Ai rfl rfl sg).trans rfl) (by go_simp) rfl),(fun aF wF F=>by have s12:=F.v 7 12;have s14:=F.v 9 14;have sg:=F.v 6 11;exact Ao ((Ai rfl rfl sg).trans rfl) (by go_simp) (L1.out _ (K.out.trans F.kept)) (fun _ _ h=>RetK.good h) (fun _ _ h=>h)),(fun aF wF F=>by have s15:=F.v 10 15;have sg:=F.v 6 11;exact Au ((Ai rfl rfl sg).trans rfl) (by go_simp) rfl),(gvv 6 11 11 16),(gv 12 17),
   (fun aF wF F=>by
  have sg:=F.v 13 18;have s2:=F.q 2 (.pointer (some ⟨w.heap.size,0,none⟩));rcases Ca (!r1) with hC | hC
  ·refine sIm hC (vE (.pointer (some ⟨w.heap.size,3,none⟩))) ?_;exact sVc rfl rfl sg (by first | rfl | simp [hC])
  ·exact sOc rfl rfl sg (by first | rfl | simp [hC]) (nW hC)),
   (fun aF wF F=>by
  have sg:=F.v 13 18;have s19:((!r1)=true→aF.tmps.getD 19 undef=(.pointer (some ⟨w.heap.size,3,none⟩)))∧((!r1)=false→aF.tmps.getD 19 undef=undef):=F.done 14 19 (by kernel_rfl) rfl;have c0:=Af HA.out F.kept 3 _ rfl;have c1:=Af HA.out F.kept 4 _ rfl;have c2:=Af HA.out F.kept 5 _ rfl;rcases Ca (!r1) with hC | hC
  ·refine sIm hC (vE (.agg #[.bool n2,.slice B m d,.int .i64 e2])) ?_;replace s19:=s19.1 hC;exact sVc rfl rfl sg (by first | rfl | simp [hC])
  ·exact sOc rfl rfl sg (by first | rfl | simp [hC]) (nW hC)),
   (fun aF wF F=>by
  have sg:=F.v 13 18;have s3:=F.q 3 (.pointer (some ⟨w.heap.size+1,0,none⟩));obtain ⟨c0,c1,c2⟩:=c3 HB.out F.kept;rcases Ca (!r1) with hC | hC
  ·refine sIm hC (vE (.agg #[.bool false,.slice none 0 0,.int .i64 0])) ?_;exact sVc rfl rfl sg (by first | rfl | simp [hC])
  ·exact sOc rfl rfl sg (by first | rfl | simp [hC]) (nW hC)),
   (fun aF wF F=>by
  have sg:=F.v 13 18;have s20:((!r1)=true→aF.tmps.getD 20 undef=(.agg #[.bool n2,.slice B m d,.int .i64 e2]))∧((!r1)=false→aF.tmps.getD 20 undef=undef):=F.done 15 20 (by kernel_rfl) rfl;have s21:((!r1)=true→aF.tmps.getD 21 undef=(.agg #[.bool false,.slice none 0 0,.int .i64 0]))∧((!r1)=false→aF.tmps.getD 21 undef=undef):=F.done 16 21 (by kernel_rfl) rfl;rcases Ca (!r1) with hC | hC
  ·refine sIm hC (vE (.bool r2)) ?_;replace s20:=s20.1 hC;replace s21:=s21.1 hC;exact Ao ((Ai rfl rfl sg).trans (by first | rfl | simp [hC])) (by go_simp) (L2.out _ (K.out.trans F.kept)) (fun _ _ h=>RetK.good h) (fun _ _ h=>h)
  ·exact sOc rfl rfl sg (by first | rfl | simp [hC]) (nW hC)),
   (fun aF wF F=>by
  have sg:=F.v 13 18;have s22:((!r1)=true→aF.tmps.getD 22 undef=(.bool r2))∧((!r1)=false→aF.tmps.getD 22 undef=undef):=F.done 17 22 (by kernel_rfl) rfl;rcases Ca (!r1) with hC | hC
  ·refine sIm hC (vE (.bool (!r2))) ?_;replace s22:=s22.1 hC;exact sVc rfl rfl sg (by first | rfl | simp [hC])
  ·exact sOc rfl rfl sg (by first | rfl | simp [hC]) (nW hC)),
   (fun aF wF F=>by
  have s18:=F.v 13 18;have s23:((!r1)=true→aF.tmps.getD 23 undef=(.bool (!r2)))∧((!r1)=false→aF.tmps.getD 23 undef=undef):=F.done 18 23 (by kernel_rfl) rfl;rcases Ca (!r1) with hE | hE
  ·replace s23:=s23.1 hE;exact sw (by first | (go_simp;done) | (go_simp;simp_all;done) | (simp_all;done)) rfl
  ·exact sw (by first | (go_simp;done) | (go_simp;simp_all;done) | (simp_all;done)) rfl),(gv 19 24),
   trivial⟩ ?_
 intro u w1 k1 hu;have p19:=hp hu 14;have p20:=hp hu 15;have p21:=hp hu 16;have p22:=hp hu 17;have p23:=hp hu 18;simp only [Av,Am,if_true,Act.put,zlA,zlB,zlC,zlD,zlE,zlF,zlG,hv hu 0,hv hu 1,hv hu 2,hv hu 3,hv hu 4,hv hu 5,hv hu 6,hv hu 7,hv hu 8,hv hu 9,hv hu 10,hv hu 11,hv hu 12,hv hu 13,hv hu 19,hv hu 20];clear hu;generalize u 14=v19,u 15=v20,u 16=v21,u 17=v22,u 18=v23 at *;clear p19 p20 p21 p22 p23;go_wp2_with fail;go_ret;exact ⟨rfl,K.out.trans k1⟩
theorem dup {A B G:Prop}(a:G→A)(b:G→B)(g:G):A∧B:=⟨a g,b g⟩
theorem Ol {w:World}{b c:Nat}{x y z:Value}(h:Blk w b x y z)(hne:b≠c)(p q r p' q' r':Value):Blk (ivW w c p q r p' q' r') b x y z:=(G7 _ _ _ _ _ _ _ _ _ hne).trans h
theorem L5 {w:World}{b c:Nat}{x y z x' y' z':Value}(h:BlkI w b x y z x' y' z')(hne:b≠c)(p q r p' q' r':Value):BlkI (ivW w c p q r p' q' r') b x y z x' y' z':=(G7 _ _ _ _ _ _ _ _ _ hne).trans h
theorem Y4 {w:World}(hT:Tab w):Calls Tryz.prog 5 #[] w (RetK (.bool true) w):=by
 have T:=hid hT;clear hT;go_enter Tryz.func5,Tryz.ntmps5;go_wp2_with fail;refine (Adu T.out).mono ?_;rintro e w1 ⟨q,u,rfl,hd⟩;obtain ⟨A1,l1,c1,rfl,hd⟩:=Ws hd;simp only [];obtain ⟨V1,hV1,kV1,hb1,lV1⟩:=P0 w1 (.bool true) (.slice A1 l1 c1) (.int .i64 0);have HV:=hid hV1;have K:=hid (q.trans kV1);have B1:=hid hb1;have D1:=hid (hd.kept kV1);have lA:=Nat.le_refl w1.heap.size;clear hV1 hb1 hd q kV1;go_wp2_with fail;rw [←HV.out];clear HV;refine (Adv (T.out.kept K.out)).mono ?_;rintro e w2 ⟨q,u,rfl,hd⟩;obtain ⟨A2,l2,c2,rfl,hd⟩:=Ws hd;simp only [];obtain ⟨V2,hV2,kV2,hb2,lV2⟩:=P0 w2 (.bool false) (.slice A2 l2 c2) (.int .i64 1)
 have HV:=hid hV2;replace K:=hid (K.out.trans (q.trans kV2));replace B1:=hid (B1.out.kept (q.trans kV2));replace D1:=hid (D1.out.kept (q.trans kV2));have B2:=hid hb2;have D2:=hid (hd.kept kV2);clear hV2 hb2 hd q kV2;obtain ⟨-,a0,a1,a2,-⟩:=B1.out.facts;obtain ⟨-,b0,b1,b2,-⟩:=B2.out.facts;generalize w1.heap.size=n1 at *;go_upto_region 3 with fail;rw [←HV.out];clear HV;generalize w2.heap.size=n2 at *;go_wp2_with fail;refine (Adw ⟨_,_,_,_,_,_,rfl,D1.out,D2.out⟩ (T.out.kept K.out)).mono ?_;rintro e w3 ⟨q,u,rfl,hd⟩;obtain ⟨A3,l3,c3,A4,l4,c4,rfl,h3,h4⟩:=O6 hd;simp only [];obtain ⟨V3,hV3,kV3,hb3,lV3⟩:=Ac6 w3 (.bool false) (.slice A3 l3 c3) (.int .i64 0) (.bool false) (.slice A4 l4 c4) (.int .i64 2)
 have HV:=hid hV3;replace K:=hid (K.out.trans (q.trans kV3));replace B1:=hid (B1.out.kept (q.trans kV3));replace D1:=hid (D1.out.kept (q.trans kV3));replace B2:=hid (B2.out.kept (q.trans kV3));replace D2:=hid (D2.out.kept (q.trans kV3));have B3:=hid hb3;have D3:=hid (h3.kept kV3);clear hV3 hb3 h3 h4 hd q kV3 a0 a1 a2 b0 b1 b2;go_upto_region 4 with fail;rw [←HV.out];clear HV;generalize w3.heap.size=n3 at *
 refine F4 (e:=7) (m:=9) (V:=VL [(vE (.agg #[.bool true,.slice A1 l1 c1,.int .i64 0])),(fun v wv=>IvR wv v (⟨⟨true,[1],0⟩,⟨true,[1],0⟩⟩:RawI)),(vE (.agg #[.bool false,.slice A2 l2 c2,.int .i64 1])),(fun v wv=>IvR wv v (⟨⟨false,[1],1⟩,⟨false,[1],1⟩⟩:RawI)),(fun v wv=>∃ d,v=.tuple #[d,.int .i64 (⟨⟨⟨false,[1],0⟩,⟨false,[1],0⟩⟩,0⟩:Outc RawI).k]∧IvR wv d (⟨⟨⟨false,[1],0⟩,⟨false,[1],0⟩⟩,0⟩:Outc RawI).v),(fun v wv=>∃ d,v=.tuple #[d,.int .i64 (⟨⟨⟨false,[1],0⟩,⟨false,[1],0⟩⟩,0⟩:Outc RawI).k]∧IvR wv d (⟨⟨⟨false,[1],0⟩,⟨false,[1],0⟩⟩,0⟩:Outc RawI).v),(fun v wv=>IvR wv v (⟨⟨⟨false,[1],0⟩,⟨false,[1],0⟩⟩,0⟩:Outc RawI).v),(vE (.int .i64 (⟨⟨⟨false,[1],0⟩,⟨false,[1],0⟩⟩,0⟩:Outc RawI).k)),(fun v wv=>∃ b,v=.pointer (some ⟨b,0,none⟩)∧V3.heap.size≤b∧BlkI wv b (.bool false) (.slice none 0 0) (.int .i64 0) (.bool false) (.slice none 0 0) (.int .i64 0))])
  (by kernel_rfl) rfl rfl rfl rfl rfl rfl rfl (by decide) (by kernel_rfl) (by kernel_rfl) (by kernel_rfl) (by kernel_rfl) (by kernel_rfl) (by kernel_rfl) (E7 _ ⟨mE,fun v w w' k h=>by first | exact h | exact h.kept k | exact ⟨h.1,h.2.kept k⟩,mE,fun v w w' k h=>by first | exact h | exact h.kept k | exact ⟨h.1,h.2.kept k⟩,fun v w w' k h=>by obtain ⟨d,h1,h2⟩:=h;exact ⟨d,h1,h2.kept k⟩,fun v w w' k h=>by obtain ⟨d,h1,h2⟩:=h;exact ⟨d,h1,h2.kept k⟩,fun v w w' k h=>by first | exact h | exact h.kept k | exact ⟨h.1,h.2.kept k⟩,mE,fun v w w' k h=>by obtain ⟨b,h1,h2,h3⟩:=h;exact ⟨b,h1,h2,h3.kept k⟩,trivial⟩) (Ep ⟨
    (fun aF wF F=>by have s1:=F.q 1 (.pointer (some ⟨n1,0,none⟩));obtain ⟨c0,c1,c2⟩:=Go.Proofs.YtinbgjcooolbiaaGreatDoor.c3 B1.out F.kept;exact sv rfl),(fun aF wF F=>by have s29:=F.v 0 29;exact sI (Tm (D1.out.kept F.kept)) fun _ _ h=>h),(fun aF wF F=>by have s3:=F.q 3 (.pointer (some ⟨n2,0,none⟩));obtain ⟨c0,c1,c2⟩:=Go.Proofs.YtinbgjcooolbiaaGreatDoor.c3 B2.out F.kept;exact sv rfl),(fun aF wF F=>by have s31:=F.v 2 31;exact sI (Tm (D2.out.kept F.kept)) fun _ _ h=>h),(fun aF wF F=>by have s30:=F.p 1 30;have s32:=F.p 3 32;exact sP (Adr s30 s32 (T.out.kept (K.out.trans F.kept))) fun _ _ h=>h),(fun aF wF F=>by have s33:=F.p 4 33;exact sx s33),(fun aF wF F=>by have s28:=F.p 5 28;obtain ⟨dd,ee,hh⟩:=s28;exact sv hh),(fun aF wF F=>by have s28:=F.p 5 28;exact sw (by obtain ⟨dd,ee,hh⟩:=s28;go_simp) rfl),(fun aF wF F=>by exact sN ⟨_,rfl,F.kept.size,G0 _⟩),
    trivial⟩) ?_
 intro u w1 k1 hu;have e29:u 0=(.agg #[.bool true,.slice A1 l1 c1,.int .i64 0]):=hu 0 (by decide) (by decide);have p30:=hu 1 (by decide) (by decide);obtain ⟨v30,e30⟩:∃ v,u 1=v:=⟨_,rfl⟩;rw [e30] at p30
 try simp only [VL,List.getD_cons_zero,List.getD_cons_succ] at p30
 have e31:u 2=(.agg #[.bool false,.slice A2 l2 c2,.int .i64 1]):=hu 2 (by decide) (by decide);have p32:=hu 3 (by decide) (by decide);obtain ⟨v32,e32⟩:∃ v,u 3=v:=⟨_,rfl⟩;rw [e32] at p32
 try simp only [VL,List.getD_cons_zero,List.getD_cons_succ] at p32
 have p33:=hu 4 (by decide) (by decide);obtain ⟨v33,e33⟩:∃ v,u 4=v:=⟨_,rfl⟩;rw [e33] at p33
 try simp only [VL,List.getD_cons_zero,List.getD_cons_succ] at p33
 have p28:=hu 5 (by decide) (by decide);obtain ⟨v28,e28⟩:∃ v,u 5=v:=⟨_,rfl⟩;rw [e28] at p28
 try simp only [VL,List.getD_cons_zero,List.getD_cons_succ] at p28
 have p34:=hu 6 (by decide) (by decide);obtain ⟨v34,e34⟩:∃ v,u 6=v:=⟨_,rfl⟩;rw [e34] at p34
 try simp only [VL,List.getD_cons_zero,List.getD_cons_succ] at p34
 have p7:=hu 8 (by decide) (by decide);obtain ⟨v7,e7⟩:∃ v,u 8=v:=⟨_,rfl⟩;rw [e7] at p7
 try simp only [VL,List.getD_cons_zero,List.getD_cons_succ] at p7
 clear hu;obtain ⟨b7,rfl,hb7,hB7⟩:=p7;obtain ⟨A5,l5,c5,A6,l6,c6,rfl,h5,h6⟩:=O6 p34;obtain ⟨-,r0,r1,r2,r3,r4,r5⟩:=hB7.facts;obtain ⟨f0,f1,f2,f3,f4,f5⟩:=hB7.free;clear p30 p32 p34;obtain ⟨d28,rfl,-⟩:=p28;apply dup
 ·intro G he;simp only [VL,vE,List.getD_cons_zero,List.getD_cons_succ] at he;simp only [if_true,Av,Am,Act.put,List.setIfInBounds_toArray,List.set_cons_zero,List.set_cons_succ,List.getElem?_toArray,List.getElem?_cons_zero,List.getElem?_cons_succ,Option.bind_some,e29,e30,e31,e32,e33,e28,e34,e7,he];go_simp;exact G
 ·intro G;simp only [Av,Am,Act.put,List.setIfInBounds_toArray,List.set_cons_zero,List.set_cons_succ,List.getElem?_toArray,List.getElem?_cons_zero,List.getElem?_cons_succ,Option.bind_some,e29,e30,e31,e32,e33,e28,e34,e7];go_simp;exact G
 clear e29 e30 e31 e32 e33 e28 e34 e7;go_upto_region 5 with fail;change Code.wp _ _ _ _ (ivW w1 b7 _ _ _ _ _ _);have l1:=B1.out.facts.1;have l2:=B2.out.facts.1;have KX:=hid (Cq (x:=.bool false) (y:=.slice A5 l5 c5) (z:=.int .i64 0) (x':=.bool false) (y':=.slice A6 l6 c6) (z':=.int .i64 0) (K.out.trans k1) (show w.heap.size≤b7 by have:=K.out.size;omega));have X1:=hid (Ol (B1.out.kept k1) (show n1≠b7 by omega) (.bool false) (.slice A5 l5 c5) (.int .i64 0) (.bool false) (.slice A6 l6 c6) (.int .i64 0));have X2:=hid (Ol (B2.out.kept k1) (show n2≠b7 by omega) (.bool false) (.slice A5 l5 c5) (.int .i64 0) (.bool false) (.slice A6 l6 c6) (.int .i64 0))
 have l3:=B3.out.facts.1;have X3:=hid (L5 (B3.out.kept k1) (show n3≠b7 by omega) (.bool false) (.slice A5 l5 c5) (.int .i64 0) (.bool false) (.slice A6 l6 c6) (.int .i64 0));have E1:=hid ((D1.out.kept k1).ivW hB7 (.bool false) (.slice A5 l5 c5) (.int .i64 0) (.bool false) (.slice A6 l6 c6) (.int .i64 0));have E2:=hid ((D2.out.kept k1).ivW hB7 (.bool false) (.slice A5 l5 c5) (.int .i64 0) (.bool false) (.slice A6 l6 c6) (.int .i64 0));have E3:=hid ((D3.out.kept k1).ivW hB7 (.bool false) (.slice A5 l5 c5) (.int .i64 0) (.bool false) (.slice A6 l6 c6) (.int .i64 0));have E5:=hid (h5.ivW hB7 (.bool false) (.slice A5 l5 c5) (.int .i64 0) (.bool false) (.slice A6 l6 c6) (.int .i64 0))
 have E6:=hid (h6.ivW hB7 (.bool false) (.slice A5 l5 c5) (.int .i64 0) (.bool false) (.slice A6 l6 c6) (.int .i64 0));have X7:=hid (hB7.laid (.bool false) (.slice A5 l5 c5) (.int .i64 0) (.bool false) (.slice A6 l6 c6) (.int .i64 0));clear h5 h6 hB7 hb7 k1 r0 r1 r2 r3 r4 r5 f0 f1 f2 f3 f4 f5 K B1 B2 B3 D1 D2 D3 l1 l2 l3;generalize ivW w1 b7 (.bool false) (.slice A5 l5 c5) (.int .i64 0) (.bool false) (.slice A6 l6 c6) (.int .i64 0)=X at *
 refine F4 (e:=8) (m:=10) (V:=VL [(vE (.agg #[.bool false,.slice A2 l2 c2,.int .i64 1])),(fun v wv=>IvR wv v (⟨⟨false,[1],1⟩,⟨false,[1],1⟩⟩:RawI)),(vE (.agg #[.bool true,.slice A1 l1 c1,.int .i64 0])),(vE (.agg #[.bool false,.slice A2 l2 c2,.int .i64 1])),(fun v wv=>IvR wv v ⟨⟨true,[1],0⟩,⟨false,[1],1⟩⟩),(fun v wv=>∃ d,v=.tuple #[d,.int .i64 (⟨⟨⟨false,[],0⟩,⟨false,[],0⟩⟩,4⟩:Outc RawI).k]∧IvR wv d (⟨⟨⟨false,[],0⟩,⟨false,[],0⟩⟩,4⟩:Outc RawI).v),(fun v wv=>∃ d,v=.tuple #[d,.int .i64 (⟨⟨⟨false,[],0⟩,⟨false,[],0⟩⟩,4⟩:Outc RawI).k]∧IvR wv d (⟨⟨⟨false,[],0⟩,⟨false,[],0⟩⟩,4⟩:Outc RawI).v),(fun v wv=>IvR wv v (⟨⟨⟨false,[],0⟩,⟨false,[],0⟩⟩,4⟩:Outc RawI).v),(vE (.int .i64 (⟨⟨⟨false,[],0⟩,⟨false,[],0⟩⟩,4⟩:Outc RawI).k)),(fun v wv=>∃ b,v=.pointer (some ⟨b,0,none⟩)∧X.heap.size≤b∧BlkI wv b (.bool false) (.slice none 0 0) (.int .i64 0) (.bool false) (.slice none 0 0) (.int .i64 0))])
  (by kernel_rfl) rfl rfl rfl rfl rfl rfl rfl (by decide) (by kernel_rfl) (by kernel_rfl) (by kernel_rfl) (by kernel_rfl) (by kernel_rfl) (by kernel_rfl) (E7 _ ⟨mE,fun v w w' k h=>by first | exact h | exact h.kept k | exact ⟨h.1,h.2.kept k⟩,mE,mE,fun v w w' k h=>by first | exact h | exact h.kept k | exact ⟨h.1,h.2.kept k⟩,fun v w w' k h=>by obtain ⟨d,h1,h2⟩:=h;exact ⟨d,h1,h2.kept k⟩,fun v w w' k h=>by obtain ⟨d,h1,h2⟩:=h;exact ⟨d,h1,h2.kept k⟩,fun v w w' k h=>by first | exact h | exact h.kept k | exact ⟨h.1,h.2.kept k⟩,mE,fun v w w' k h=>by obtain ⟨b,h1,h2,h3⟩:=h;exact ⟨b,h1,h2,h3.kept k⟩,trivial⟩) (Ep ⟨
    (fun aF wF F=>by have s3:=F.q 3 (.pointer (some ⟨n2,0,none⟩));obtain ⟨c0,c1,c2⟩:=Go.Proofs.YtinbgjcooolbiaaGreatDoor.c3 X2.out F.kept;exact sv rfl),(fun aF wF F=>by have s37:=F.v 0 37;exact sI (Tm (E2.out.kept F.kept)) fun _ _ h=>h),(fun aF wF F=>by have s1:=F.q 1 (.pointer (some ⟨n1,0,none⟩));obtain ⟨c0,c1,c2⟩:=Go.Proofs.YtinbgjcooolbiaaGreatDoor.c3 X1.out F.kept;exact sv rfl),(fun aF wF F=>by have s3:=F.q 3 (.pointer (some ⟨n2,0,none⟩));obtain ⟨c0,c1,c2⟩:=Go.Proofs.YtinbgjcooolbiaaGreatDoor.c3 X2.out F.kept;exact sv rfl),(fun aF wF F=>by have s39:=F.v 2 39;have s40:=F.v 3 40;simp only [Array.getD_eq_getD_getElem?] at s39;simp only [Array.getD_eq_getD_getElem?] at s40;exact sv ⟨_,_,_,_,_,_,rfl,E1.out.kept F.kept,E2.out.kept F.kept⟩),(fun aF wF F=>by have s38:=F.p 1 38;have s41:=F.p 4 41;exact sP (Adt s38 s41 (T.out.kept (KX.out.trans F.kept))) fun _ _ h=>h),(fun aF wF F=>by have s42:=F.p 5 42;exact sx s42),(fun aF wF F=>by have s36:=F.p 6 36;obtain ⟨dd,ee,hh⟩:=s36;exact sv hh),(fun aF wF F=>by have s36:=F.p 6 36;exact sw (by obtain ⟨dd,ee,hh⟩:=s36;go_simp) rfl),(fun aF wF F=>by exact sN ⟨_,rfl,F.kept.size,G0 _⟩),
    trivial⟩) ?_
 intro u w1 k1 hu;have e37:u 0=(.agg #[.bool false,.slice A2 l2 c2,.int .i64 1]):=hu 0 (by decide) (by decide);have p38:=hu 1 (by decide) (by decide);obtain ⟨v38,e38⟩:∃ v,u 1=v:=⟨_,rfl⟩;rw [e38] at p38
 try simp only [VL,List.getD_cons_zero,List.getD_cons_succ] at p38
 have e39:u 2=(.agg #[.bool true,.slice A1 l1 c1,.int .i64 0]):=hu 2 (by decide) (by decide);have e40:u 3=(.agg #[.bool false,.slice A2 l2 c2,.int .i64 1]):=hu 3 (by decide) (by decide);have p41:=hu 4 (by decide) (by decide);obtain ⟨v41,e41⟩:∃ v,u 4=v:=⟨_,rfl⟩;rw [e41] at p41
 try simp only [VL,List.getD_cons_zero,List.getD_cons_succ] at p41
 have p42:=hu 5 (by decide) (by decide);obtain ⟨v42,e42⟩:∃ v,u 5=v:=⟨_,rfl⟩;rw [e42] at p42
 try simp only [VL,List.getD_cons_zero,List.getD_cons_succ] at p42
 have p36:=hu 6 (by decide) (by decide);obtain ⟨v36,e36⟩:∃ v,u 6=v:=⟨_,rfl⟩;rw [e36] at p36
 try simp only [VL,List.getD_cons_zero,List.getD_cons_succ] at p36
 have p43:=hu 7 (by decide) (by decide);obtain ⟨v43,e43⟩:∃ v,u 7=v:=⟨_,rfl⟩;rw [e43] at p43
 try simp only [VL,List.getD_cons_zero,List.getD_cons_succ] at p43
 have p9:=hu 9 (by decide) (by decide);obtain ⟨v9,e9⟩:∃ v,u 9=v:=⟨_,rfl⟩;rw [e9] at p9
 try simp only [VL,List.getD_cons_zero,List.getD_cons_succ] at p9
 clear hu;obtain ⟨b9,rfl,hb9,hB9⟩:=p9;obtain ⟨Ap,lp,cp,Aq,lq,cq,rfl,h7,h8⟩:=O6 p43;obtain ⟨-,r0,r1,r2,r3,r4,r5⟩:=hB9.facts;obtain ⟨f0,f1,f2,f3,f4,f5⟩:=hB9.free;clear p38 p41 p43;obtain ⟨d36,rfl,-⟩:=p36;apply dup
 ·intro G he;simp only [VL,vE,List.getD_cons_zero,List.getD_cons_succ] at he;simp only [if_true,Av,Am,Act.put,List.setIfInBounds_toArray,List.set_cons_zero,List.set_cons_succ,List.getElem?_toArray,List.getElem?_cons_zero,List.getElem?_cons_succ,Option.bind_some,e37,e38,e39,e40,e41,e42,e36,e43,e9,he];go_simp;exact G
 ·intro G;simp only [Av,Am,Act.put,List.setIfInBounds_toArray,List.set_cons_zero,List.set_cons_succ,List.getElem?_toArray,List.getElem?_cons_zero,List.getElem?_cons_succ,Option.bind_some,e37,e38,e39,e40,e41,e42,e36,e43,e9];go_simp;exact G
 clear e37 e38 e39 e40 e41 e42 e36 e43 e9;go_upto_region 6 with fail;change Code.wp _ _ _ _ (ivW w1 b9 _ _ _ _ _ _);have l1:=X1.out.facts.1;have l3:=X3.out.facts.1;have l7:=X7.out.facts.1;have K:=hid (Cq (x:=.bool false) (y:=.slice Ap lp cp) (z:=.int .i64 0) (x':=.bool false) (y':=.slice Aq lq cq) (z':=.int .i64 0) (KX.out.trans k1) (show w.heap.size≤b9 by have:=KX.out.size;omega));have B1:=hid (Ol (X1.out.kept k1) (show n1≠b9 by omega) (.bool false) (.slice Ap lp cp) (.int .i64 0) (.bool false) (.slice Aq lq cq) (.int .i64 0));have B3:=hid (L5 (X3.out.kept k1) (show n3≠b9 by omega) (.bool false) (.slice Ap lp cp) (.int .i64 0) (.bool false) (.slice Aq lq cq) (.int .i64 0))
 have B7:=hid (L5 (X7.out.kept k1) (show b7≠b9 by omega) (.bool false) (.slice Ap lp cp) (.int .i64 0) (.bool false) (.slice Aq lq cq) (.int .i64 0));have D1:=hid ((E1.out.kept k1).ivW hB9 (.bool false) (.slice Ap lp cp) (.int .i64 0) (.bool false) (.slice Aq lq cq) (.int .i64 0));have D3:=hid ((E3.out.kept k1).ivW hB9 (.bool false) (.slice Ap lp cp) (.int .i64 0) (.bool false) (.slice Aq lq cq) (.int .i64 0));have D5:=hid ((E5.out.kept k1).ivW hB9 (.bool false) (.slice Ap lp cp) (.int .i64 0) (.bool false) (.slice Aq lq cq) (.int .i64 0));have D6:=hid ((E6.out.kept k1).ivW hB9 (.bool false) (.slice Ap lp cp) (.int .i64 0) (.bool false) (.slice Aq lq cq) (.int .i64 0))
 clear h7 h8 hB9 hb9 k1 r0 r1 r2 r3 r4 r5 f0 f1 f2 f3 f4 f5 KX X1 X2 X3 X7 E1 E2 E3 E5 E6 l1 l3;generalize ivW w1 b9 (.bool false) (.slice Ap lp cp) (.int .i64 0) (.bool false) (.slice Aq lq cq) (.int .i64 0)=Y at *;obtain ⟨-,a0,a1,a2,-⟩:=B1.out.facts;go_wp2_with fail;refine (Tm D1.out).mono ?_;rintro e w5 ⟨q,u,rfl,hd⟩;simp only [];go_wp2_with fail;refine (Acq hd (T.out.kept (K.out.trans q))).mono ?_;rintro e w6 ⟨q6,u6,rfl,hd6⟩;obtain ⟨A9,l9,c9,Aa,la,ca,rfl,-,-⟩:=O6 hd6;obtain ⟨V,hV,kV,-,-⟩:=Ac6 w6 (.bool false) (.slice A9 l9 c9) (.int .i64 0) (.bool false) (.slice Aa la ca) (.int .i64 0)
 have HV:=hid hV;have kk:=q.trans (q6.trans kV);replace K:=hid (K.out.trans kk);replace B3:=hid (B3.out.kept kk);replace B7:=hid (B7.out.kept kk);replace D3:=hid (D3.out.kept kk);replace D5:=hid (D5.out.kept kk);replace D6:=hid (D6.out.kept kk);clear kk q q6 hd hd6 a0 a1 a2 B1 D1 hV kV;simp only [];go_upto_region 7 with fail;rw [←HV.out];clear HV
 refine rS 44 ([(vE (.int .i64 0)),(vE (.int .i64 0)),(vE (.int .i64 0)),(vE (.int .i64 0)),(vE (.int .i64 0)),(vE (.int .i64 0)),(vE (.int .i64 0)),(vE (.bool true)),(vE (.bool true)),(vP n3 0),(vE (.agg #[.bool false,.slice A3 l3 c3,.int .i64 0])),(vE (.int .i64 0)),(vE (.bool true)),(vE (.bool true)),(vE (.bool true)),(vP n3 3),(vP n3 5),(vE (.int .i64 2)),(vE (.bool true)),(vE (.bool true)),(vE (.bool true)),(vP b7 0),(vE (.agg #[.bool false,.slice A5 l5 c5,.int .i64 0])),(vP b7 3),(vE (.agg #[.bool false,.slice A6 l6 c6,.int .i64 0])),(vE (.int .i64 0)),(vE (.bool true)),(vE (.bool true)),(vE (.bool true)),(vP b7 0),(vE (.agg #[.bool false,.slice A5 l5 c5,.int .i64 0])),(fun v wv=>∃ b,v=.slice (some ⟨b,0,none⟩) 1 1∧Lim wv (.slice (some ⟨b,0,none⟩) 1 1) [1]),(fun v wv=>DyR wv v ⟨false,[1],0⟩),(vE (.bool true)),(vE (.bool true)),(vE (.bool true)),(vE (.int .i64 4)),(vE (.bool true)),(vE (.bool true)),(vE (.bool true)),(vE (.int .i64 4)),(vE (.bool true)),(vE (.bool true)),(vE (.bool true))])
  (hM:=⟨⟨mE,mE,mE,mE,mE,mE,mE,mE,mE,mE,mE,mE,mE,mE,mE,mE,mE,mE,mE,mE,mE,mE,mE,mE,mE,mE,mE,mE,mE,mE,mE,fun v w w' k h=>by obtain ⟨b,h1,h2⟩:=h;exact ⟨b,h1,h2.kept k⟩,mD,mE,mE,mE,mE,mE,mE,mE,mE,mE,mE,mE,trivial⟩⟩) ⟨
    (gq 2),(gq 4),(fun aF wF F=>by have s51:=F.v 0 51;have s52:=F.v 1 52;exact sw (by (go_simp;rfl)) rfl),(gq 6),(fun aF wF F=>by have s53:=F.v 2 53;have s54:=F.v 3 54;exact sw (by (go_simp;rfl)) rfl),(gq 8),(fun aF wF F=>by have s55:=F.v 4 55;have s56:=F.v 5 56;exact sw (by (go_simp;rfl)) rfl),(gv 6 57),(gv 7 58),(fun aF wF F=>by have s5:=F.q 5 (.pointer (some ⟨n3,0,none⟩));have sg:=F.v 8 59;exact Au ((Ai rfl rfl sg).trans rfl) (by go_simp) rfl),(fun aF wF F=>by have s60:=F.v 9 60;have c0:=Af B3.out F.kept 0 _ rfl;have c1:=Af B3.out F.kept 1 _ rfl;have c2:=Af B3.out F.kept 2 _ rfl;have sg:=F.v 8 59;exact Au ((Ai rfl rfl sg).trans rfl) (by go_simp) rfl),(fun aF wF F=>by have s61:=F.v 10 61;have sg:=F.v 8 59;exact Ao ((Ai rfl rfl sg).trans rfl) (by go_simp) (Acp (D3.out.kept F.kept)) (fun _ _ h=>RetK.good h) (fun _ _ h=>h)),(fun aF wF F=>by have s62:=F.v 11 62;have sg:=F.v 8 59;exact Au ((Ai rfl rfl sg).trans rfl) (by go_simp) rfl),(gvv 8 59 12 63),(gv 13 64),(fun aF wF F=>by have s5:=F.q 5 (.pointer (some ⟨n3,0,none⟩));have sg:=F.v 14 65;exact Au ((Ai rfl rfl sg).trans rfl) (by go_simp) rfl),(fun aF wF F=>by have s66:=F.v 15 66;have sg:=F.v 14 65;exact Au ((Ai rfl rfl sg).trans rfl) (by go_simp) rfl),(fun aF wF F=>by have s67:=F.v 16 67;have c0:=Af B3.out F.kept 5 _ rfl;have sg:=F.v 14 65;exact Au ((Ai rfl rfl sg).trans rfl) (by go_simp) rfl),(fun aF wF F=>by have s68:=F.v 17 68;have sg:=F.v 14 65;exact Au ((Ai rfl rfl sg).trans rfl) (by go_simp) rfl),(gvv 14 65 18 69),(gv 19 70),(fun aF wF F=>by have s7:=F.q 7 (.pointer (some ⟨b7,0,none⟩));have sg:=F.v 20 71;exact Au ((Ai rfl rfl sg).trans rfl) (by go_simp) rfl),(fun aF wF F=>by have s72:=F.v 21 72;have c0:=Af B7.out F.kept 0 _ rfl;have c1:=Af B7.out F.kept 1 _ rfl;have c2:=Af B7.out F.kept 2 _ rfl;have sg:=F.v 20 71;exact Au ((Ai rfl rfl sg).trans rfl) (by go_simp) rfl),(fun aF wF F=>by have s7:=F.q 7 (.pointer (some ⟨b7,0,none⟩));have sg:=F.v 20 71;exact Au ((Ai rfl rfl sg).trans rfl) (by go_simp) rfl),(fun aF wF F=>by have s74:=F.v 23 74;have c0:=Af B7.out F.kept 3 _ rfl;have c1:=Af B7.out F.kept 4 _ rfl;have c2:=Af B7.out F.kept 5 _ rfl;have sg:=F.v 20 71;exact Au ((Ai rfl rfl sg).trans rfl) (by go_simp) rfl),(fun aF wF F=>by have s73:=F.v 22 73;have s75:=F.v 24 75;have sg:=F.v 20 71;exact Ao ((Ai rfl rfl sg).trans rfl) (by go_simp) (Ads (D5.out.kept F.kept) (D6.out.kept F.kept)) (fun _ _ h=>RetK.good h) (fun _ _ h=>h)),(fun aF wF F=>by have s76:=F.v 25 76;have sg:=F.v 20 71;exact Au ((Ai rfl rfl sg).trans rfl) (by go_simp) rfl),(gvv 20 71 26 77),(gv 27 78),(fun aF wF F=>by have s7:=F.q 7 (.pointer (some ⟨b7,0,none⟩));have sg:=F.v 28 79;exact Au ((Ai rfl rfl sg).trans rfl) (by go_simp) rfl),(fun aF wF F=>by have s80:=F.v 29 80;have c0:=Af B7.out F.kept 0 _ rfl;have c1:=Af B7.out F.kept 1 _ rfl;have c2:=Af B7.out F.kept 2 _ rfl;have sg:=F.v 28 79;exact Au ((Ai rfl rfl sg).trans rfl) (by go_simp) rfl),(fun aF wF F=>by have sg:=F.v 28 79;exact M4 ((Ai rfl rfl sg).trans rfl) (by first | (go_simp;done) | (go_simp;rfl)) (Ad _ _) ⟨_,rfl,Xd (T:=40) (heap_alloc_new _ _)⟩),(fun aF wF F=>by have s82:=F.p 31 82;have sg:=F.v 28 79;obtain ⟨b,ee,hh⟩:=s82;simp only [Array.getD_eq_getD_getElem?] at ee;exact Au ((Ai rfl rfl sg).trans rfl) (by go_simp) ⟨_,rfl,hh,by decide,by decide⟩),(fun aF wF F=>by have s81:=F.v 30 81;have s83:=F.p 32 83;have sg:=F.v 28 79;exact Ao ((Ai rfl rfl sg).trans rfl) (by go_simp) (Aco (D5.out.kept F.kept) s83) (fun _ _ h=>RetK.good h) (fun _ _ h=>h)),(gvv 28 79 33 84),(gv 34 85),(fun aF wF F=>by have s10:=F.q 10 (.int .i64 4);have sg:=F.v 35 86;exact Au ((Ai rfl rfl sg).trans rfl) (by go_simp) rfl),(fun aF wF F=>by have s87:=F.v 36 87;have sg:=F.v 35 86;exact Au ((Ai rfl rfl sg).trans rfl) (by go_simp) rfl),(gvv 35 86 37 88),(gv 38 89),(fun aF wF F=>by have s12:=F.q 12 (.int .i64 4);have sg:=F.v 39 90;exact Au ((Ai rfl rfl sg).trans rfl) (by go_simp) rfl),(fun aF wF F=>by have s91:=F.v 40 91;have sg:=F.v 39 90;exact Au ((Ai rfl rfl sg).trans rfl) (by go_simp) rfl),(gvv 39 90 41 92),(gv 42 93),
    trivial⟩ ?_
 intro u w1 k1 hu;have p82:=hp hu 31;have p83:=hp hu 32;simp only [Av,Am,if_true,Act.put,zlA,zlB,zlC,zlD,zlE,zlF,zlG,hv hu 0,hv hu 1,hv hu 2,hv hu 3,hv hu 4,hv hu 5,hv hu 6,hv hu 7,hv hu 8,hv hu 9,hv hu 10,hv hu 11,hv hu 12,hv hu 13,hv hu 14,hv hu 15,hv hu 16,hv hu 17,hv hu 18,hv hu 19,hv hu 20,hv hu 21,hv hu 22,hv hu 23,hv hu 24,hv hu 25,hv hu 26,hv hu 27,hv hu 28,hv hu 29,hv hu 30,hv hu 33,hv hu 34,hv hu 35,hv hu 36,hv hu 37,hv hu 38,hv hu 39,hv hu 40,hv hu 41,hv hu 42,hv hu 43];clear hu;generalize u 31=v82,u 32=v83 at *;go_wp2_with fail;go_ret;exact ⟨rfl,K.out.trans k1⟩
def xs4 (a:Iv) (k:Nat):Dy:=if k<2 then a.lo else a.hi
def ys4 (b:Iv) (k:Nat):Dy:=if k%2=0 then b.lo else b.hi
def loS (z:Nat→Outc Dy):Nat→Dy
 | 0=>dz
 | k+1=>if Bq (z k).v.q (if k=0 then (z k).v else loS z k).q<0 then (z k).v else (if k=0 then (z k).v else loS z k)
def hiS (z:Nat→Outc Dy):Nat→Dy
 | 0=>dz
 | k+1=>if Bq (if k=0 then (z k).v else hiS z k).q (z k).v.q<0 then (z k).v else (if k=0 then (z k).v else hiS z k)
theorem Acu {a:Iv}(h:a.Ok)(k:Nat):(xs4 a k).Ok:=by unfold xs4;split;exact h.lo;exact h.hi
theorem Acw {a:Iv}(h:a.Ok)(k:Nat):(ys4 a k).Ok:=by unfold ys4;split;exact h.lo;exact h.hi
theorem Xe {z:Nat→Outc Dy}(h:∀ k,(z k).v.Ok):∀ k,(loS z k).Ok
 | 0=>dz_ok
 | k + 1 => by
   have ih:=Xe h k;have hy:(if k=0 then (z k).v else loS z k).Ok:=by
    by_cases h0:k=0
    ·rw [if_pos h0];exact h k
    ·rw [if_neg h0];exact ih
   unfold loS;generalize (if k=0 then (z k).v else loS z k)=y at *;split
   ·exact h k
   ·exact hy
theorem W7 {z:Nat→Outc Dy}(h:∀ k,(z k).v.Ok):∀ k,(hiS z k).Ok
 | 0=>dz_ok
 | k + 1 => by
   have ih:=W7 h k;have hy:(if k=0 then (z k).v else hiS z k).Ok:=by
    by_cases h0:k=0
    ·rw [if_pos h0];exact h k
    ·rw [if_neg h0];exact ih
   unfold hiS;generalize (if k=0 then (z k).v else hiS z k)=y at *;split
   ·exact h k
   ·exact hy
theorem We (x y:Rat):(0<Bq x y)=(Bq y x<0):=by rw [Lm,Gp]
theorem Z7 (z:Nat→Outc Dy):loS z 4=By (z 0).v [(z 0).v,(z 1).v,(z 2).v,(z 3).v]:=by
 have e1:¬(1:Nat)=0:=by decide
 have e2:¬(2:Nat)=0:=by decide
 have e3:¬(3:Nat)=0:=by decide
 simp only [loS,By,ite_self,if_neg e1,if_neg e2,if_neg e3,if_true]
theorem Zy (z:Nat→Outc Dy):hiS z 4=Ay (z 0).v [(z 0).v,(z 1).v,(z 2).v,(z 3).v]:=by
 have e1:¬(1:Nat)=0:=by decide
 have e2:¬(2:Nat)=0:=by decide
 have e3:¬(3:Nat)=0:=by decide
 simp only [hiS,Ay,ite_self,if_neg e1,if_neg e2,if_neg e3,if_true,We]
theorem Jx {α β:Type}{o:Outc α}{z:β}{f:α→Outc β}(h:o.k≠0):o.bind z f=⟨z,o.k⟩:=by unfold Outc.bind;rw [if_neg h]
theorem Qe {w:World}{s0 s1 s2 s3:Value}{d0 d1 d2 d3:Dy}{n:Nat}(hn:w.heap.size=n)(h0:DyR w (.agg #[.bool d0.neg,s0,.int .i64 d0.e]) d0.raw)(h1:DyR w (.agg #[.bool d1.neg,s1,.int .i64 d1.e]) d1.raw)
 (h2:DyR w (.agg #[.bool d2.neg,s2,.int .i64 d2.e]) d2.raw) (h3:DyR w (.agg #[.bool d3.neg,s3,.int .i64 d3.e]) d3.raw) :
 DyS (w.alloc (.cells #[.bool d0.neg,s0,.int .i64 d0.e,.bool d1.neg,s1,.int .i64 d1.e,.bool d2.neg,s2,.int .i64 d2.e,.bool d3.neg,s3,.int .i64 d3.e] 24)) (.slice (some ⟨n,0,none⟩) 4 4) [d0,d1,d2,d3]:=by
 subst hn;refine ⟨_,4,rfl,Nat.le_refl _,fun _=>⟨_,_,rfl,fun i x hi=>?_⟩⟩;have hb:=heap_alloc_new w (.cells #[.bool d0.neg,s0,.int .i64 d0.e,.bool d1.neg,s1,.int .i64 d1.e,.bool d2.neg,s2,.int .i64 d2.e,.bool d3.neg,s3,.int .i64 d3.e] 24);have hlt:i<4:=by
  have:=(List.getElem?_eq_some_iff.1 hi).1;simpa using this
 rcases i with _ | _ | _ | _ | i
 ·simp at hi;subst hi;exact ⟨s0,Ae hb 0 _ rfl,Ae hb 1 _ rfl,Ae hb 2 _ rfl,h0.kept (Ad _ _)⟩
 ·simp at hi;subst hi;exact ⟨s1,Ae hb 3 _ rfl,Ae hb 4 _ rfl,Ae hb 5 _ rfl,h1.kept (Ad _ _)⟩
 ·simp at hi;subst hi;exact ⟨s2,Ae hb 6 _ rfl,Ae hb 7 _ rfl,Ae hb 8 _ rfl,h2.kept (Ad _ _)⟩
 ·simp at hi;subst hi;exact ⟨s3,Ae hb 9 _ rfl,Ae hb 10 _ rfl,Ae hb 11 _ rfl,h3.kept (Ad _ _)⟩
 ·omega
theorem DyS.four {w:World}{v:Value}{d0 d1 d2 d3:Dy}(h:DyS w v [d0,d1,d2,d3])(f:Nat→Dy)(h0:f 0=d0)(h1:f 1=d1)(h2:f 2=d2)(h3:f 3=d3) :
 ∃ b o c,v=.slice (some ⟨b,o,none⟩) 4 c∧∀ k,k<4→DyAt w b (o+k*3) (f k):=by
 obtain ⟨A,c,rfl,-,hA⟩:=h;obtain ⟨b,o,rfl,hd⟩:=hA (by simp);refine ⟨b,o,c,rfl,fun k hk=>hd k (f k) ?_⟩;rcases k with _ | _ | _ | _ | k
 ·rw [h0];rfl
 ·rw [h1];rfl
 ·rw [h2];rfl
 ·rw [h3];rfl
 ·omega
end Go.Proofs.YtinbgjcooolbiaaGreatDoor
