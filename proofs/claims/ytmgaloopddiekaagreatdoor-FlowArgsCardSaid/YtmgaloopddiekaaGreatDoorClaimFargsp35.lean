/- Words and contracts, part 35. -/
import Derived.Test.YtmgaloopddiekaaGreatDoorClaimFargsp31
set_option maxRecDepth 100000
set_option maxHeartbeats 0
namespace Go.Proofs.YtmgaloopddiekaaGreatDoor
open Go.Lib (hid)
open Go.RowKit
theorem Afz (l:Ln)(i x u p:Int):Gq l i x u p=if l.op=1 then Ck l.k&&decide (l.a=0)&&decide (l.b=0) else
 if Kp l.k rzI=false then false else
 if l.op=2 then decide (l.a=0)&&decide (l.b=0) else
 if l.op=3 then decide (0≤l.a)&&decide (l.a<x)&&decide (l.b=0) else
 if l.op=4 then decide (0≤l.a)&&decide (l.a<u)&&decide (l.b=0) else
 if l.op=5 then decide (0≤l.a)&&decide (l.a<p)&&decide (l.b=0) else
 if decide (6≤l.op)&&decide (l.op≤9) then decide (0≤l.a)&&decide (l.a<i)&&decide (0≤l.b)&&decide (l.b<i) else
 if decide (10≤l.op)&&decide (l.op≤13) then decide (0≤l.a)&&decide (l.a<i)&&decide (l.b=0) else false:=by
 unfold Gq Cd;have h1:((decide (6≤l.op)&&decide (l.op≤9))=true)↔(l.op=6∨l.op=7∨l.op=8∨l.op=9):=by simp;omega
 have h2:((decide (10≤l.op)&&decide (l.op≤13))=true)↔(l.op=10∨l.op=11∨l.op=12∨l.op=13):=by simp;omega
 simp only [h1,h2,Bool.and_assoc]
theorem Kj (ls:List Ln)(outs:List Int)(x u p:Int):Hk ls outs x u p=(decide (ls.length≤200)&&decide (outs.length≤200)&&M0 x u p 0 ls&&outs.all fun n=>Cd n ls.length):=rfl
theorem Acw {ls:List Ln}{outs:List Int}{x u p:Int}{k:Nat}{l:Ln}(h:ls[k]?=some l)(hf:Gq l (k:Int) x u p=false):Hk ls outs x u p=false:=by
 have:M0 x u p 0 ls=false:=by
  rw [←Bool.not_eq_true,H7];intro hh;have:=hh k l h;rw [Nat.zero_add,hf] at this;exact absurd this (by decide)
 rw [Kj,this,Bool.and_false,Bool.false_and]
theorem Acx {ls:List Ln}{outs:List Int}{x u p z:Int}{k:Nat}(h:outs[k]?=some z)(hf:Cd z ls.length=false):Hk ls outs x u p=false:=by
 have:(outs.all fun n=>Cd n ls.length)=false:=by
  rw [←Bool.not_eq_true,List.all_eq_true];intro hh;have:=hh z (List.mem_of_getElem? h);rw [hf] at this;exact absurd this (by decide)
 rw [Kj,this,Bool.and_false]
theorem Acy {ls:List Ln}{outs:List Int}{x u p:Int}(h1:ls.length≤200)(h2:outs.length≤200)(h3:∀ (j:Nat) l,ls[j]?=some l→Gq l (j:Int) x u p=true)(h4:∀ (j:Nat) z,outs[j]?=some z→Cd z ls.length=true) :
 Hk ls outs x u p=true:=by
 rw [Kj,decide_eq_true h1,decide_eq_true h2,(H7 x u p ls 0).2 (fun j l hj=>by rw [Nat.zero_add];exact h3 j l hj)];simp only [Bool.true_and,List.all_eq_true];intro z hz;obtain ⟨i,hi,rfl⟩:=List.getElem_of_mem hz;exact h4 i _ (List.getElem?_eq_getElem hi)
theorem Ads {w:World}{v:Value}{ls:List Ln}{outs:List Int}{x u p:Int}(hv:TpR w v ls outs)(hok:Ke ls)(hn9:ls.length≤1000000000)(hno9:outs.length≤1000000000) :
 Calls Tryz.prog 8 #[v,.int .i64 x,.int .i64 u,.int .i64 p] w (RetK (.bool (Hk ls outs x u p)) w):=by
 obtain ⟨R,hR⟩:∃ R,Hk ls outs x u p=R:=⟨_,rfl⟩;rw [hR];have NL:=hid (fun (k:Nat) l (h:ls[k]?=some l) (hf:Gq l (k:Int) x u p=false)=>show R=false from hR.symm.trans (Acw h hf));have NO:=hid (fun (k:Nat) z (h:outs[k]?=some z) (hf:Cd z ls.length=false)=>show R=false from hR.symm.trans (Acx h hf));have YE:=hid (fun h1 h2 h3 h4=>show R=true from hR.symm.trans (Acy h1 h2 h3 h4));have L1:200<ls.length→R=false:=fun h=>by rw [←hR,Kj,decide_eq_false (by omega),Bool.false_and,Bool.false_and,Bool.false_and]
 have L2:200<outs.length→R=false:=fun h=>by rw [←hR,Kj,decide_eq_false (show ¬outs.length≤200 by omega),Bool.and_false,Bool.false_and,Bool.false_and]
 obtain ⟨s,o,rfl,hls,hou⟩:=hv;have HO:=hid hou;obtain ⟨A,c,rfl,hc,hA⟩:=hls;obtain ⟨B,d,rfl,hd,-⟩:=hou;have HA:=hid hA;have OK:=hid hok;obtain ⟨W,hW,kW,hb,lW⟩:=Ahk w (.slice A ls.length c) (.slice B outs.length d);have HW:=hid hW;have K:=hid kW;have HB:=hid hb;obtain ⟨c0,c1⟩:=Cj hb;clear hA hok hW kW hb hR;obtain ⟨n,hn'⟩:∃ n,n=ls.length:=⟨_,rfl⟩;obtain ⟨no,hno'⟩:∃ n,n=outs.length:=⟨_,rfl⟩;rw [←hn'] at hn9 hc HA HW HB NO YE L1 ⊢;rw [←hn'] at c0;rw [←hno'] at hno9 hd HW HB YE L2 ⊢;rw [←hno'] at c1;have HN:=hid hn';have HNO:=hid hno';clear hn' hno';by_cases g1:200<n
 ·have r0:=L1 g1;have t1:decide ((200:Int)<(n:Int))=true:=by simp;omega
  subst r0;clear L1 L2 NL NO YE HA HO OK;go_enter Tryz.func8,Tryz.ntmps8;go_upto_region 1 with fail;rw [←HW.out];go_wp2_with fail;go_ret;exact ⟨rfl,K.out⟩
 have t1:decide ((200:Int)<(n:Int))=false:=by simp;omega
 by_cases g2:200<no
 ·have r0:=L2 g2;have t2:decide ((200:Int)<(no:Int))=true:=by simp;omega
  subst r0;clear L1 L2 NL NO YE HA HO OK;go_enter Tryz.func8,Tryz.ntmps8;go_upto_region 1 with fail;rw [←HW.out];go_wp2_with fail;go_ret;exact ⟨rfl,K.out⟩
 have t2:decide ((200:Int)<(no:Int))=false:=by simp;omega
 have N2:=hid (And.intro (show n≤200 by omega) (show no≤200 by omega));clear L1 L2 g1 g2;go_enter Tryz.func8,Tryz.ntmps8;go_upto_region 1 with fail;rw [←HW.out];go_wp2_with fail;clear t1 t2 c0 c1
 go_loopw [9] (fun t wr=>∃ k:Nat,k≤n∧t=.int .i64 k∧Kept W wr∧Hid (∀ (j:Nat) l,j<k→ls[j]?=some l→Gq l (j:Int) x u p=true)) (fun t _=>(n-intOf t).toNat)
 case atStart=>exact ⟨0,Nat.zero_le _,rfl,Below.refl _ _,hid (fun j l h=>absurd h (by omega))⟩
 case round =>
  obtain ⟨k,hk,rfl,hKr,AL⟩:=hrel;have KR:=hid hKr;obtain ⟨c0,c1⟩:=Cj (Aj HB.out hKr);clear hKr;by_cases hlt:k<n
  ·obtain ⟨b,off,rfl,hd⟩:=HA.out (by omega);obtain ⟨l,hl⟩:∃ l,ls[k]?=some l:=⟨_,List.getElem?_eq_getElem (by have:=HN.out;omega)⟩;have hat:=(hd k l hl).kept (K.out.trans KR.out);obtain ⟨a0,a1,a2,y0,y1,y2,y3,y4,y5,g0,g1,g2,g3,g4,g5,hI⟩:=hat;obtain ⟨A1,l1,q1,A2,l2,q2,ei,-,-⟩:=Ar hI;injection ei with ei;injection ei with ei
   simp only [List.cons.injEq,and_true] at ei;obtain ⟨rfl,rfl,rfl,rfl,rfl,rfl⟩:=ei;have ol:=(OK.out l (List.mem_of_getElem? hl)).2.2;have HI:=hid hI;have HL:=hid hlt;have HOL:=hid ol;have NF:=hid (NL.out k l hl);have AF:=hid (fun (h:Gq l (k:Int) x u p=true) (j:Nat) l' (hj:j<k+1) (hl':ls[j]?=some l')=>show Gq l' (j:Int) x u p=true from if e:j=k then by subst e;rw [hl] at hl';cases hl';exact h else AL.out j l' (by omega) hl');rw [Afz] at NF AF;clear hd hl hI ol AL;obtain ⟨V,hV,kV,hy,lV⟩:=Ai1 wr (.int .i64 l.op) (.int .i64 l.a) (.int .i64 l.b) (.bool l.k.lo.neg) (.slice A1 l1 q1) (.int .i64 l.k.lo.e) (.bool l.k.hi.neg) (.slice A2 l2 q2) (.int .i64 l.k.hi.e)
   have HV:=hid hV;have KV:=hid kV;have HY:=hid hy;clear hV kV hy;go_upto_region 7 with fail;rw [←HV.out];have KM:=hid (fun w1 (q:Kept V w1)=>Yy (HI.out.kept (KV.out.trans q)) HOL.out);have KN:=hid (fun w1 (q:Kept V w1)=>Af8 (HI.out.kept (KV.out.trans q)) HOL.out);clear a0 a1 a2 g0 g1 g2 g3 g4 g5 c0 c1 HI HOL;obtain ⟨d0,d1,d2,d3,d4,d5,d6,d7,d8⟩:=Cf HY.out;generalize wr.heap.size=bl at *;generalize Ck l.k=mk at *;generalize Kp l.k rzI=sk at *;generalize l.k.lo.neg=m1 at *;generalize l.k.lo.e=m2 at *;generalize l.k.hi.neg=m3 at *;generalize l.k.hi.e=m4 at *;generalize l.op=op at *
   generalize l.a=a at *;generalize l.b=bb at *;have BC:=hid (fun w1=>Ahi op w1);have UC:=hid (fun w1=>Ajy op w1);obtain ⟨za,hza⟩:∃ t,decide (a=0)=t:=⟨_,rfl⟩;obtain ⟨zb,hzb⟩:∃ t,decide (bb=0)=t:=⟨_,rfl⟩;obtain ⟨pa,hpa⟩:∃ t,decide (0≤a)=t:=⟨_,rfl⟩;obtain ⟨pb,hpb⟩:∃ t,decide (0≤bb)=t:=⟨_,rfl⟩;obtain ⟨ax,hax⟩:∃ t,decide (a<x)=t:=⟨_,rfl⟩;obtain ⟨au,hau⟩:∃ t,decide (a<u)=t:=⟨_,rfl⟩;obtain ⟨ap,hap⟩:∃ t,decide (a<p)=t:=⟨_,rfl⟩;obtain ⟨ak,hak⟩:∃ t,decide (a<(k:Int))=t:=⟨_,rfl⟩;obtain ⟨bk,hbk⟩:∃ t,decide (bb<(k:Int))=t:=⟨_,rfl⟩;have ZA:=hid (show (a==0)=za by rw [←hza];rfl);have ZB:=hid (show (bb==0)=zb by rw [←hzb];rfl)
   have PA:=hid hpa;have PB:=hid hpb;have AX:=hid hax;have AU:=hid hau;have AP:=hid hap;have AK:=hid hak;have BK:=hid hbk;rw [hza,hzb,hpa,hpb,hax,hau,hap,hak,hbk] at NF AF;clear hza hzb hpa hpb hax hau hap hak hbk;by_cases c1:op=1
   ·rw [if_pos c1] at NF AF;subst c1;clear KN BC UC;have KX:=hid (Below.refl V.heap.size V:Kept V V);go_upto_region 9 with fail
    refine rS 14 ([(vP bl 3),(vE (.agg #[.bool m1,.slice A1 l1 q1,.int .i64 m2,.bool m3,.slice A2 l2 q2,.int .i64 m4])),(vE (.bool mk)),(vE (.bool mk)),(fun v wv=>(mk=true→(fun v _=>v=(.pointer (some ⟨bl,1,none⟩))) v wv)∧(mk=false→v=undef)),(fun v wv=>(mk=true→(fun v _=>v=(.int .i64 a)) v wv)∧(mk=false→v=undef)),(fun v wv=>(mk=true→(fun v _=>v=(.bool za)) v wv)∧(mk=false→v=undef)),(vE (.bool (mk&&za))),(vE (.bool (mk&&za))),(fun v wv=>((mk&&za)=true→(fun v _=>v=(.pointer (some ⟨bl,2,none⟩))) v wv)∧((mk&&za)=false→v=undef)),(fun v wv=>((mk&&za)=true→(fun v _=>v=(.int .i64 bb)) v wv)∧((mk&&za)=false→v=undef)),(fun v wv=>((mk&&za)=true→(fun v _=>v=(.bool zb)) v wv)∧((mk&&za)=false→v=undef)),(vE (.bool (mk&&za&&zb))),(vE (.bool (mk&&za&&zb)))])
     ⟨
      (gq 10),(fun aF wF F=>by have s39:=F.v 0 39;have c0:=Ai HY.out F.kept 3 _ rfl;have c1:=Ai HY.out F.kept 4 _ rfl;have c2:=Ai HY.out F.kept 5 _ rfl;have c3:=Ai HY.out F.kept 6 _ rfl;have c4:=Ai HY.out F.kept 7 _ rfl;have c5:=Ai HY.out F.kept 8 _ rfl;exact sv rfl),(fun aF wF F=>by have s40:=F.v 1 40;exact sK (KM.out _ F.kept) fun _ _ h=>h),(gv 2 41),
      (fun aF wF F=>by
     have sg:=F.v 3 42;have s10:=F.q 10 (.pointer (some ⟨bl,0,none⟩));rcases Ay mk with hC | hC
     ·refine sIm hC (vE (.pointer (some ⟨bl,1,none⟩))) ?_;exact sVc rfl rfl sg (by first | rfl | simp [hC])
     ·exact sOc rfl rfl sg (by first | rfl | simp [hC]) (nW hC)),
      (fun aF wF F=>by
     have sg:=F.v 3 42;have s43:(mk=true→aF.tmps.getD 43 undef=(.pointer (some ⟨bl,1,none⟩)))∧(mk=false→aF.tmps.getD 43 undef=undef):=F.done 4 43 (by kernel_rfl) rfl;have c0:=Ai HY.out F.kept 1 _ rfl;rcases Ay mk with hC | hC
     ·refine sIm hC (vE (.int .i64 a)) ?_;replace s43:=s43.1 hC;exact sVc rfl rfl sg (by first | rfl | simp [hC])
     ·exact sOc rfl rfl sg (by first | rfl | simp [hC]) (nW hC)),
      (fun aF wF F=>by
     have sg:=F.v 3 42;have s44:(mk=true→aF.tmps.getD 44 undef=(.int .i64 a))∧(mk=false→aF.tmps.getD 44 undef=undef):=F.done 5 44 (by kernel_rfl) rfl;rcases Ay mk with hC | hC
     ·refine sIm hC (vE (.bool za)) ?_;replace s44:=s44.1 hC;exact A0 ((Al rfl rfl sg).trans (by first | rfl | simp [hC])) (by (go_simp;exact ZA.out)) rfl
     ·exact sOc rfl rfl sg (by first | rfl | simp [hC]) (nW hC)),
      (fun aF wF F=>by
     have s42:=F.v 3 42;have s45:(mk=true→aF.tmps.getD 45 undef=(.bool za))∧(mk=false→aF.tmps.getD 45 undef=undef):=F.done 6 45 (by kernel_rfl) rfl;rcases Ay mk with hE | hE
     ·replace s45:=s45.1 hE;exact sw (by first | (go_simp;done) | (go_simp;simp_all;done) | (simp_all;done)) rfl
     ·exact sw (by first | (go_simp;done) | (go_simp;simp_all;done) | (simp_all;done)) rfl),(gv 7 46),
      (fun aF wF F=>by
     have sg:=F.v 8 47;have s10:=F.q 10 (.pointer (some ⟨bl,0,none⟩));rcases Ay (mk&&za) with hC | hC
     ·refine sIm hC (vE (.pointer (some ⟨bl,2,none⟩))) ?_;exact sVc rfl rfl sg (by first | rfl | simp [hC])
     ·exact sOc rfl rfl sg (by first | rfl | simp [hC]) (nW hC)),
      (fun aF wF F=>by
     have sg:=F.v 8 47;have s48:((mk&&za)=true→aF.tmps.getD 48 undef=(.pointer (some ⟨bl,2,none⟩)))∧((mk&&za)=false→aF.tmps.getD 48 undef=undef):=F.done 9 48 (by kernel_rfl) rfl;have c0:=Ai HY.out F.kept 2 _ rfl;rcases Ay (mk&&za) with hC | hC
     ·refine sIm hC (vE (.int .i64 bb)) ?_;replace s48:=s48.1 hC;exact sVc rfl rfl sg (by first | rfl | simp [hC])
     ·exact sOc rfl rfl sg (by first | rfl | simp [hC]) (nW hC)),
      (fun aF wF F=>by
     have sg:=F.v 8 47;have s49:((mk&&za)=true→aF.tmps.getD 49 undef=(.int .i64 bb))∧((mk&&za)=false→aF.tmps.getD 49 undef=undef):=F.done 10 49 (by kernel_rfl) rfl;rcases Ay (mk&&za) with hC | hC
     ·refine sIm hC (vE (.bool zb)) ?_;replace s49:=s49.1 hC;exact A0 ((Al rfl rfl sg).trans (by first | rfl | simp [hC])) (by (go_simp;exact ZB.out)) rfl
     ·exact sOc rfl rfl sg (by first | rfl | simp [hC]) (nW hC)),
      (fun aF wF F=>by
     have s47:=F.v 8 47;have s50:((mk&&za)=true→aF.tmps.getD 50 undef=(.bool zb))∧((mk&&za)=false→aF.tmps.getD 50 undef=undef):=F.done 11 50 (by kernel_rfl) rfl;rcases Ay (mk&&za) with hE | hE
     ·replace s50:=s50.1 hE;exact sw (by first | (go_simp;done) | (go_simp;simp_all;done) | (simp_all;done)) rfl
     ·exact sw (by first | (go_simp;done) | (go_simp;simp_all;done) | (simp_all;done)) rfl),(gv 12 51),
      trivial⟩ ?_
    intro u w1 k1 hu;have p43:=hp hu 4;have p44:=hp hu 5;have p45:=hp hu 6;have p48:=hp hu 9;have p49:=hp hu 10;have p50:=hp hu 11;simp only [Bl,Au,if_true,Act.put,zlA,zlB,zlC,zlD,zlE,zlF,zlG,hv hu 0,hv hu 1,hv hu 2,hv hu 3,hv hu 7,hv hu 8,hv hu 12,hv hu 13];clear hu;generalize u 4=v43,u 5=v44,u 6=v45,u 9=v48,u 10=v49,u 11=v50 at *;clear p43 p44 p45 p48 p49 p50 KM;replace KR:=hid (KR.out.trans (KV.out.trans (KX.out.trans k1)));clear k1 KV KX HY d0 d1 d2 d3 d4 d5 d6 d7 d8 ZA ZB PA PB AX AU AP AK BK;obtain ⟨t,ht⟩:∃ t,(mk&&za&&zb)=t:=⟨_,rfl⟩;simp only [ht] at NF AF ⊢;clear ht;cases t
    ·have r0:=NF.out rfl;subst r0;clear NF AF NL NO YE;go_wp2_with fail;go_ret;exact ⟨rfl,K.out.trans KR.out⟩
    ·have AL:=hid (AF.out rfl);clear NF AF;go_wp2_with fail;go_roundw
     case rel=>exact ⟨k+1,by have:=HL.out;omega,by have:=HL.out;go_num,KR.out,AL⟩
     case measure=>simp only [intOf];have:=HL.out;omega
   rw [if_neg c1] at NF AF;have g1:(op==1)=false:=by simpa using c1
   clear c1 KM;go_wp2_with fail;refine (KN.out _ (Below.refl _ _)).mono ?_;rintro e w2 ⟨rfl,q⟩;clear d0 d1 d2 d3 d4 d5 d6 d7 d8 KN;replace HY:=hid (Aj HY.out q);obtain ⟨d0,d1,d2,d3,d4,d5,d6,d7,d8⟩:=Cf HY.out;have KX:=hid q;clear q g1;simp only [];cases sk
   ·rw [if_pos rfl] at NF AF;have k1:=Below.refl w2.heap.size w2;clear BC UC;replace KR:=hid (KR.out.trans (KV.out.trans (KX.out.trans k1)));clear k1 KV KX HY ZA ZB PA PB AX AU AP AK BK;have r0:=NF.out rfl;subst r0;clear NF AF NL NO YE;go_wp2_with fail;go_ret;exact ⟨rfl,K.out.trans KR.out⟩
   rw [if_neg (by decide)] at NF AF;by_cases c2:op=2
   ·rw [if_pos c2] at NF AF;subst c2;clear BC UC;go_upto_region 12 with fail
    refine rS 9 ([(vP bl 1),(vE (.int .i64 a)),(vE (.bool za)),(vE (.bool za)),(fun v wv=>(za=true→(fun v _=>v=(.pointer (some ⟨bl,2,none⟩))) v wv)∧(za=false→v=undef)),(fun v wv=>(za=true→(fun v _=>v=(.int .i64 bb)) v wv)∧(za=false→v=undef)),(fun v wv=>(za=true→(fun v _=>v=(.bool zb)) v wv)∧(za=false→v=undef)),(vE (.bool (za&&zb))),(vE (.bool (za&&zb)))])
     ⟨
      (gq 10),(gvl 0 61 fun _ k=>Ai HY.out k 1 _ rfl),(fun aF wF F=>by have s62:=F.v 1 62;exact sw (by (go_simp;exact ZA.out)) rfl),(gv 2 63),
      (fun aF wF F=>by
     have sg:=F.v 3 64;have s10:=F.q 10 (.pointer (some ⟨bl,0,none⟩));rcases Ay za with hC | hC
     ·refine sIm hC (vE (.pointer (some ⟨bl,2,none⟩))) ?_;exact sVc rfl rfl sg (by first | rfl | simp [hC])
     ·exact sOc rfl rfl sg (by first | rfl | simp [hC]) (nW hC)),
      (fun aF wF F=>by
     have sg:=F.v 3 64;have s65:(za=true→aF.tmps.getD 65 undef=(.pointer (some ⟨bl,2,none⟩)))∧(za=false→aF.tmps.getD 65 undef=undef):=F.done 4 65 (by kernel_rfl) rfl;have c0:=Ai HY.out F.kept 2 _ rfl;rcases Ay za with hC | hC
     ·refine sIm hC (vE (.int .i64 bb)) ?_;replace s65:=s65.1 hC;exact sVc rfl rfl sg (by first | rfl | simp [hC])
     ·exact sOc rfl rfl sg (by first | rfl | simp [hC]) (nW hC)),
      (fun aF wF F=>by
     have sg:=F.v 3 64;have s66:(za=true→aF.tmps.getD 66 undef=(.int .i64 bb))∧(za=false→aF.tmps.getD 66 undef=undef):=F.done 5 66 (by kernel_rfl) rfl;rcases Ay za with hC | hC
     ·refine sIm hC (vE (.bool zb)) ?_;replace s66:=s66.1 hC;exact A0 ((Al rfl rfl sg).trans (by first | rfl | simp [hC])) (by (go_simp;exact ZB.out)) rfl
     ·exact sOc rfl rfl sg (by first | rfl | simp [hC]) (nW hC)),
      (fun aF wF F=>by
     have s64:=F.v 3 64;have s67:(za=true→aF.tmps.getD 67 undef=(.bool zb))∧(za=false→aF.tmps.getD 67 undef=undef):=F.done 6 67 (by kernel_rfl) rfl;rcases Ay za with hE | hE
     ·replace s67:=s67.1 hE;exact sw (by first | (go_simp;done) | (go_simp;simp_all;done) | (simp_all;done)) rfl
     ·exact sw (by first | (go_simp;done) | (go_simp;simp_all;done) | (simp_all;done)) rfl),(gv 7 68),
      trivial⟩ ?_
    intro u w1 k1 hu;have p65:=hp hu 4;have p66:=hp hu 5;have p67:=hp hu 6;simp only [Bl,Au,if_true,Act.put,zlA,zlB,zlC,zlD,zlE,zlF,zlG,hv hu 0,hv hu 1,hv hu 2,hv hu 3,hv hu 7,hv hu 8];clear hu;generalize u 4=v65,u 5=v66,u 6=v67 at *;clear p65 p66 p67;replace KR:=hid (KR.out.trans (KV.out.trans (KX.out.trans k1)));clear k1 KV KX HY d0 d1 d2 d3 d4 d5 d6 d7 d8 ZA ZB PA PB AX AU AP AK BK;obtain ⟨t,ht⟩:∃ t,(za&&zb)=t:=⟨_,rfl⟩;simp only [ht] at NF AF ⊢;clear ht;cases t
    ·have r0:=NF.out rfl;subst r0;clear NF AF NL NO YE;go_wp2_with fail;go_ret;exact ⟨rfl,K.out.trans KR.out⟩
    ·have AL:=hid (AF.out rfl);clear NF AF;go_wp2_with fail;go_roundw
     case rel=>exact ⟨k+1,by have:=HL.out;omega,by have:=HL.out;go_num,KR.out,AL⟩
     case measure=>simp only [intOf];have:=HL.out;omega
   rw [if_neg c2] at NF AF;have g2:(op==2)=false:=by simpa using c2
   clear c2;by_cases c3:op=3
   ·rw [if_pos c3] at NF AF;subst c3;clear BC UC;go_upto_region 14 with fail
    refine rS 15 ([(vP bl 1),(vE (.int .i64 a)),(vE (.bool pa)),(vE (.bool pa)),(fun v wv=>(pa=true→(fun v _=>v=(.pointer (some ⟨bl,1,none⟩))) v wv)∧(pa=false→v=undef)),(fun v wv=>(pa=true→(fun v _=>v=(.int .i64 a)) v wv)∧(pa=false→v=undef)),(fun v wv=>(pa=true→(fun v _=>v=(.int .i64 x)) v wv)∧(pa=false→v=undef)),(fun v wv=>(pa=true→(fun v _=>v=(.bool ax)) v wv)∧(pa=false→v=undef)),(vE (.bool (pa&&ax))),(vE (.bool (pa&&ax))),(fun v wv=>((pa&&ax)=true→(fun v _=>v=(.pointer (some ⟨bl,2,none⟩))) v wv)∧((pa&&ax)=false→v=undef)),(fun v wv=>((pa&&ax)=true→(fun v _=>v=(.int .i64 bb)) v wv)∧((pa&&ax)=false→v=undef)),(fun v wv=>((pa&&ax)=true→(fun v _=>v=(.bool zb)) v wv)∧((pa&&ax)=false→v=undef)),(vE (.bool (pa&&ax&&zb))),(vE (.bool (pa&&ax&&zb)))])
     ⟨
      (gq 10),(gvl 0 73 fun _ k=>Ai HY.out k 1 _ rfl),(fun aF wF F=>by have s74:=F.v 1 74;exact sw (by (go_simp;exact PA.out)) rfl),(gv 2 75),
      (fun aF wF F=>by
     have sg:=F.v 3 76;have s10:=F.q 10 (.pointer (some ⟨bl,0,none⟩));rcases Ay pa with hC | hC
     ·refine sIm hC (vE (.pointer (some ⟨bl,1,none⟩))) ?_;exact sVc rfl rfl sg (by first | rfl | simp [hC])
     ·exact sOc rfl rfl sg (by first | rfl | simp [hC]) (nW hC)),
      (fun aF wF F=>by
     have sg:=F.v 3 76;have s77:(pa=true→aF.tmps.getD 77 undef=(.pointer (some ⟨bl,1,none⟩)))∧(pa=false→aF.tmps.getD 77 undef=undef):=F.done 4 77 (by kernel_rfl) rfl;have c0:=Ai HY.out F.kept 1 _ rfl;rcases Ay pa with hC | hC
     ·refine sIm hC (vE (.int .i64 a)) ?_;replace s77:=s77.1 hC;exact sVc rfl rfl sg (by first | rfl | simp [hC])
     ·exact sOc rfl rfl sg (by first | rfl | simp [hC]) (nW hC)),
      (fun aF wF F=>by
     have sg:=F.v 3 76;have s1:=F.q 1 (.int .i64 x);rcases Ay pa with hC | hC
     ·refine sIm hC (vE (.int .i64 x)) ?_;exact sVc rfl rfl sg (by first | rfl | simp [hC])
     ·exact sOc rfl rfl sg (by first | rfl | simp [hC]) (nW hC)),
      (fun aF wF F=>by
     have sg:=F.v 3 76;have s78:(pa=true→aF.tmps.getD 78 undef=(.int .i64 a))∧(pa=false→aF.tmps.getD 78 undef=undef):=F.done 5 78 (by kernel_rfl) rfl;have s79:(pa=true→aF.tmps.getD 79 undef=(.int .i64 x))∧(pa=false→aF.tmps.getD 79 undef=undef):=F.done 6 79 (by kernel_rfl) rfl;rcases Ay pa with hC | hC
     ·refine sIm hC (vE (.bool ax)) ?_;replace s78:=s78.1 hC;replace s79:=s79.1 hC;exact A0 ((Al rfl rfl sg).trans (by first | rfl | simp [hC])) (by (go_simp;exact AX.out)) rfl
     ·exact sOc rfl rfl sg (by first | rfl | simp [hC]) (nW hC)),
      (fun aF wF F=>by
     have s76:=F.v 3 76;have s80:(pa=true→aF.tmps.getD 80 undef=(.bool ax))∧(pa=false→aF.tmps.getD 80 undef=undef):=F.done 7 80 (by kernel_rfl) rfl;rcases Ay pa with hE | hE
     ·replace s80:=s80.1 hE;exact sw (by first | (go_simp;done) | (go_simp;simp_all;done) | (simp_all;done)) rfl
     ·exact sw (by first | (go_simp;done) | (go_simp;simp_all;done) | (simp_all;done)) rfl),(gv 8 81),
      (fun aF wF F=>by
     have sg:=F.v 9 82;have s10:=F.q 10 (.pointer (some ⟨bl,0,none⟩));rcases Ay (pa&&ax) with hC | hC
     ·refine sIm hC (vE (.pointer (some ⟨bl,2,none⟩))) ?_;exact sVc rfl rfl sg (by first | rfl | simp [hC])
     ·exact sOc rfl rfl sg (by first | rfl | simp [hC]) (nW hC)),
      (fun aF wF F=>by
     have sg:=F.v 9 82;have s83:((pa&&ax)=true→aF.tmps.getD 83 undef=(.pointer (some ⟨bl,2,none⟩)))∧((pa&&ax)=false→aF.tmps.getD 83 undef=undef):=F.done 10 83 (by kernel_rfl) rfl;have c0:=Ai HY.out F.kept 2 _ rfl;rcases Ay (pa&&ax) with hC | hC
     ·refine sIm hC (vE (.int .i64 bb)) ?_;replace s83:=s83.1 hC;exact sVc rfl rfl sg (by first | rfl | simp [hC])
     ·exact sOc rfl rfl sg (by first | rfl | simp [hC]) (nW hC)),
      (fun aF wF F=>by
     have sg:=F.v 9 82;have s84:((pa&&ax)=true→aF.tmps.getD 84 undef=(.int .i64 bb))∧((pa&&ax)=false→aF.tmps.getD 84 undef=undef):=F.done 11 84 (by kernel_rfl) rfl;rcases Ay (pa&&ax) with hC | hC
     ·refine sIm hC (vE (.bool zb)) ?_;replace s84:=s84.1 hC;exact A0 ((Al rfl rfl sg).trans (by first | rfl | simp [hC])) (by (go_simp;exact ZB.out)) rfl
     ·exact sOc rfl rfl sg (by first | rfl | simp [hC]) (nW hC)),
      (fun aF wF F=>by
     have s82:=F.v 9 82;have s85:((pa&&ax)=true→aF.tmps.getD 85 undef=(.bool zb))∧((pa&&ax)=false→aF.tmps.getD 85 undef=undef):=F.done 12 85 (by kernel_rfl) rfl;rcases Ay (pa&&ax) with hE | hE
     ·replace s85:=s85.1 hE;exact sw (by first | (go_simp;done) | (go_simp;simp_all;done) | (simp_all;done)) rfl
     ·exact sw (by first | (go_simp;done) | (go_simp;simp_all;done) | (simp_all;done)) rfl),(gv 13 86),
      trivial⟩ ?_
    intro u w1 k1 hu;have p77:=hp hu 4;have p78:=hp hu 5;have p79:=hp hu 6;have p80:=hp hu 7;have p83:=hp hu 10;have p84:=hp hu 11;have p85:=hp hu 12;simp only [Bl,Au,if_true,Act.put,zlA,zlB,zlC,zlD,zlE,zlF,zlG,hv hu 0,hv hu 1,hv hu 2,hv hu 3,hv hu 8,hv hu 9,hv hu 13,hv hu 14];clear hu;generalize u 4=v77,u 5=v78,u 6=v79,u 7=v80,u 10=v83,u 11=v84,u 12=v85 at *;clear p77 p78 p79 p80 p83 p84 p85;replace KR:=hid (KR.out.trans (KV.out.trans (KX.out.trans k1)));clear k1 KV KX HY d0 d1 d2 d3 d4 d5 d6 d7 d8 ZA ZB PA PB AX AU AP AK BK;obtain ⟨t,ht⟩:∃ t,(pa&&ax&&zb)=t:=⟨_,rfl⟩;simp only [ht] at NF AF ⊢
    clear ht;cases t
    ·have r0:=NF.out rfl;subst r0;clear NF AF NL NO YE;go_wp2_with fail;go_ret;exact ⟨rfl,K.out.trans KR.out⟩
    ·have AL:=hid (AF.out rfl);clear NF AF;go_wp2_with fail;go_roundw
     case rel=>exact ⟨k+1,by have:=HL.out;omega,by have:=HL.out;go_num,KR.out,AL⟩
     case measure=>simp only [intOf];have:=HL.out;omega
   rw [if_neg c3] at NF AF;have g3:(op==3)=false:=by simpa using c3
   clear c3;by_cases c4:op=4
   ·rw [if_pos c4] at NF AF;subst c4;clear BC UC;go_upto_region 16 with fail
    refine rS 15 ([(vP bl 1),(vE (.int .i64 a)),(vE (.bool pa)),(vE (.bool pa)),(fun v wv=>(pa=true→(fun v _=>v=(.pointer (some ⟨bl,1,none⟩))) v wv)∧(pa=false→v=undef)),(fun v wv=>(pa=true→(fun v _=>v=(.int .i64 a)) v wv)∧(pa=false→v=undef)),(fun v wv=>(pa=true→(fun v _=>v=(.int .i64 u)) v wv)∧(pa=false→v=undef)),(fun v wv=>(pa=true→(fun v _=>v=(.bool au)) v wv)∧(pa=false→v=undef)),(vE (.bool (pa&&au))),(vE (.bool (pa&&au))),(fun v wv=>((pa&&au)=true→(fun v _=>v=(.pointer (some ⟨bl,2,none⟩))) v wv)∧((pa&&au)=false→v=undef)),(fun v wv=>((pa&&au)=true→(fun v _=>v=(.int .i64 bb)) v wv)∧((pa&&au)=false→v=undef)),(fun v wv=>((pa&&au)=true→(fun v _=>v=(.bool zb)) v wv)∧((pa&&au)=false→v=undef)),(vE (.bool (pa&&au&&zb))),(vE (.bool (pa&&au&&zb)))])
     ⟨
      (gq 10),(gvl 0 91 fun _ k=>Ai HY.out k 1 _ rfl),(fun aF wF F=>by have s92:=F.v 1 92;exact sw (by (go_simp;exact PA.out)) rfl),(gv 2 93),
      (fun aF wF F=>by
     have sg:=F.v 3 94;have s10:=F.q 10 (.pointer (some ⟨bl,0,none⟩));rcases Ay pa with hC | hC
     ·refine sIm hC (vE (.pointer (some ⟨bl,1,none⟩))) ?_;exact sVc rfl rfl sg (by first | rfl | simp [hC])
     ·exact sOc rfl rfl sg (by first | rfl | simp [hC]) (nW hC)),
      (fun aF wF F=>by
     have sg:=F.v 3 94;have s95:(pa=true→aF.tmps.getD 95 undef=(.pointer (some ⟨bl,1,none⟩)))∧(pa=false→aF.tmps.getD 95 undef=undef):=F.done 4 95 (by kernel_rfl) rfl;have c0:=Ai HY.out F.kept 1 _ rfl;rcases Ay pa with hC | hC
     ·refine sIm hC (vE (.int .i64 a)) ?_;replace s95:=s95.1 hC;exact sVc rfl rfl sg (by first | rfl | simp [hC])
     ·exact sOc rfl rfl sg (by first | rfl | simp [hC]) (nW hC)),
      (fun aF wF F=>by
     have sg:=F.v 3 94;have s2:=F.q 2 (.int .i64 u);rcases Ay pa with hC | hC
     ·refine sIm hC (vE (.int .i64 u)) ?_;exact sVc rfl rfl sg (by first | rfl | simp [hC])
     ·exact sOc rfl rfl sg (by first | rfl | simp [hC]) (nW hC)),
      (fun aF wF F=>by
     have sg:=F.v 3 94;have s96:(pa=true→aF.tmps.getD 96 undef=(.int .i64 a))∧(pa=false→aF.tmps.getD 96 undef=undef):=F.done 5 96 (by kernel_rfl) rfl;have s97:(pa=true→aF.tmps.getD 97 undef=(.int .i64 u))∧(pa=false→aF.tmps.getD 97 undef=undef):=F.done 6 97 (by kernel_rfl) rfl;rcases Ay pa with hC | hC
     ·refine sIm hC (vE (.bool au)) ?_;replace s96:=s96.1 hC;replace s97:=s97.1 hC;exact A0 ((Al rfl rfl sg).trans (by first | rfl | simp [hC])) (by (go_simp;exact AU.out)) rfl
     ·exact sOc rfl rfl sg (by first | rfl | simp [hC]) (nW hC)),
      (fun aF wF F=>by
     have s94:=F.v 3 94;have s98:(pa=true→aF.tmps.getD 98 undef=(.bool au))∧(pa=false→aF.tmps.getD 98 undef=undef):=F.done 7 98 (by kernel_rfl) rfl;rcases Ay pa with hE | hE
     ·replace s98:=s98.1 hE;exact sw (by first | (go_simp;done) | (go_simp;simp_all;done) | (simp_all;done)) rfl
     ·exact sw (by first | (go_simp;done) | (go_simp;simp_all;done) | (simp_all;done)) rfl),(gv 8 99),
      (fun aF wF F=>by
     have sg:=F.v 9 100;have s10:=F.q 10 (.pointer (some ⟨bl,0,none⟩));rcases Ay (pa&&au) with hC | hC
     ·refine sIm hC (vE (.pointer (some ⟨bl,2,none⟩))) ?_;exact sVc rfl rfl sg (by first | rfl | simp [hC])
     ·exact sOc rfl rfl sg (by first | rfl | simp [hC]) (nW hC)),
      (fun aF wF F=>by
     have sg:=F.v 9 100;have s101:((pa&&au)=true→aF.tmps.getD 101 undef=(.pointer (some ⟨bl,2,none⟩)))∧((pa&&au)=false→aF.tmps.getD 101 undef=undef):=F.done 10 101 (by kernel_rfl) rfl;have c0:=Ai HY.out F.kept 2 _ rfl;rcases Ay (pa&&au) with hC | hC
     ·refine sIm hC (vE (.int .i64 bb)) ?_;replace s101:=s101.1 hC;exact sVc rfl rfl sg (by first | rfl | simp [hC])
     ·exact sOc rfl rfl sg (by first | rfl | simp [hC]) (nW hC)),
      (fun aF wF F=>by
     have sg:=F.v 9 100;have s102:((pa&&au)=true→aF.tmps.getD 102 undef=(.int .i64 bb))∧((pa&&au)=false→aF.tmps.getD 102 undef=undef):=F.done 11 102 (by kernel_rfl) rfl;rcases Ay (pa&&au) with hC | hC
     ·refine sIm hC (vE (.bool zb)) ?_;replace s102:=s102.1 hC;exact A0 ((Al rfl rfl sg).trans (by first | rfl | simp [hC])) (by (go_simp;exact ZB.out)) rfl
     ·exact sOc rfl rfl sg (by first | rfl | simp [hC]) (nW hC)),
      (fun aF wF F=>by
     have s100:=F.v 9 100;have s103:((pa&&au)=true→aF.tmps.getD 103 undef=(.bool zb))∧((pa&&au)=false→aF.tmps.getD 103 undef=undef):=F.done 12 103 (by kernel_rfl) rfl;rcases Ay (pa&&au) with hE | hE
     ·replace s103:=s103.1 hE;exact sw (by first | (go_simp;done) | (go_simp;simp_all;done) | (simp_all;done)) rfl
     ·exact sw (by first | (go_simp;done) | (go_simp;simp_all;done) | (simp_all;done)) rfl),(gv 13 104),
      trivial⟩ ?_
    intro u w1 k1 hu;have p95:=hp hu 4;have p96:=hp hu 5;have p97:=hp hu 6;have p98:=hp hu 7;have p101:=hp hu 10;have p102:=hp hu 11;have p103:=hp hu 12;simp only [Bl,Au,if_true,Act.put,zlA,zlB,zlC,zlD,zlE,zlF,zlG,hv hu 0,hv hu 1,hv hu 2,hv hu 3,hv hu 8,hv hu 9,hv hu 13,hv hu 14];clear hu;generalize u 4=v95,u 5=v96,u 6=v97,u 7=v98,u 10=v101,u 11=v102,u 12=v103 at *;clear p95 p96 p97 p98 p101 p102 p103;replace KR:=hid (KR.out.trans (KV.out.trans (KX.out.trans k1)));clear k1 KV KX HY d0 d1 d2 d3 d4 d5 d6 d7 d8 ZA ZB PA PB AX AU AP AK BK;obtain ⟨t,ht⟩:∃ t,(pa&&au&&zb)=t:=⟨_,rfl⟩;simp only [ht] at NF AF ⊢
    clear ht;cases t
    ·have r0:=NF.out rfl;subst r0;clear NF AF NL NO YE;go_wp2_with fail;go_ret;exact ⟨rfl,K.out.trans KR.out⟩
    ·have AL:=hid (AF.out rfl);clear NF AF;go_wp2_with fail;go_roundw
     case rel=>exact ⟨k+1,by have:=HL.out;omega,by have:=HL.out;go_num,KR.out,AL⟩
     case measure=>simp only [intOf];have:=HL.out;omega
   rw [if_neg c4] at NF AF;have g4:(op==4)=false:=by simpa using c4
   clear c4;by_cases c5:op=5
   ·rw [if_pos c5] at NF AF;subst c5;clear BC UC;go_upto_region 18 with fail
    refine rS 15 ([(vP bl 1),(vE (.int .i64 a)),(vE (.bool pa)),(vE (.bool pa)),(fun v wv=>(pa=true→(fun v _=>v=(.pointer (some ⟨bl,1,none⟩))) v wv)∧(pa=false→v=undef)),(fun v wv=>(pa=true→(fun v _=>v=(.int .i64 a)) v wv)∧(pa=false→v=undef)),(fun v wv=>(pa=true→(fun v _=>v=(.int .i64 p)) v wv)∧(pa=false→v=undef)),(fun v wv=>(pa=true→(fun v _=>v=(.bool ap)) v wv)∧(pa=false→v=undef)),(vE (.bool (pa&&ap))),(vE (.bool (pa&&ap))),(fun v wv=>((pa&&ap)=true→(fun v _=>v=(.pointer (some ⟨bl,2,none⟩))) v wv)∧((pa&&ap)=false→v=undef)),(fun v wv=>((pa&&ap)=true→(fun v _=>v=(.int .i64 bb)) v wv)∧((pa&&ap)=false→v=undef)),(fun v wv=>((pa&&ap)=true→(fun v _=>v=(.bool zb)) v wv)∧((pa&&ap)=false→v=undef)),(vE (.bool (pa&&ap&&zb))),(vE (.bool (pa&&ap&&zb)))])
     ⟨
      (gq 10),(gvl 0 109 fun _ k=>Ai HY.out k 1 _ rfl),(fun aF wF F=>by have s110:=F.v 1 110;exact sw (by (go_simp;exact PA.out)) rfl),(gv 2 111),
      (fun aF wF F=>by
     have sg:=F.v 3 112;have s10:=F.q 10 (.pointer (some ⟨bl,0,none⟩));rcases Ay pa with hC | hC
     ·refine sIm hC (vE (.pointer (some ⟨bl,1,none⟩))) ?_;exact sVc rfl rfl sg (by first | rfl | simp [hC])
     ·exact sOc rfl rfl sg (by first | rfl | simp [hC]) (nW hC)),
      (fun aF wF F=>by
     have sg:=F.v 3 112;have s113:(pa=true→aF.tmps.getD 113 undef=(.pointer (some ⟨bl,1,none⟩)))∧(pa=false→aF.tmps.getD 113 undef=undef):=F.done 4 113 (by kernel_rfl) rfl;have c0:=Ai HY.out F.kept 1 _ rfl;rcases Ay pa with hC | hC
     ·refine sIm hC (vE (.int .i64 a)) ?_;replace s113:=s113.1 hC;exact sVc rfl rfl sg (by first | rfl | simp [hC])
     ·exact sOc rfl rfl sg (by first | rfl | simp [hC]) (nW hC)),
      (fun aF wF F=>by
     have sg:=F.v 3 112;have s3:=F.q 3 (.int .i64 p);rcases Ay pa with hC | hC
     ·refine sIm hC (vE (.int .i64 p)) ?_;exact sVc rfl rfl sg (by first | rfl | simp [hC])
     ·exact sOc rfl rfl sg (by first | rfl | simp [hC]) (nW hC)),
      (fun aF wF F=>by
     have sg:=F.v 3 112;have s114:(pa=true→aF.tmps.getD 114 undef=(.int .i64 a))∧(pa=false→aF.tmps.getD 114 undef=undef):=F.done 5 114 (by kernel_rfl) rfl;have s115:(pa=true→aF.tmps.getD 115 undef=(.int .i64 p))∧(pa=false→aF.tmps.getD 115 undef=undef):=F.done 6 115 (by kernel_rfl) rfl;rcases Ay pa with hC | hC
     ·refine sIm hC (vE (.bool ap)) ?_;replace s114:=s114.1 hC;replace s115:=s115.1 hC;exact A0 ((Al rfl rfl sg).trans (by first | rfl | simp [hC])) (by (go_simp;exact AP.out)) rfl
     ·exact sOc rfl rfl sg (by first | rfl | simp [hC]) (nW hC)),
      (fun aF wF F=>by
     have s112:=F.v 3 112;have s116:(pa=true→aF.tmps.getD 116 undef=(.bool ap))∧(pa=false→aF.tmps.getD 116 undef=undef):=F.done 7 116 (by kernel_rfl) rfl;rcases Ay pa with hE | hE
     ·replace s116:=s116.1 hE;exact sw (by first | (go_simp;done) | (go_simp;simp_all;done) | (simp_all;done)) rfl
     ·exact sw (by first | (go_simp;done) | (go_simp;simp_all;done) | (simp_all;done)) rfl),(gv 8 117),
      (fun aF wF F=>by
     have sg:=F.v 9 118;have s10:=F.q 10 (.pointer (some ⟨bl,0,none⟩));rcases Ay (pa&&ap) with hC | hC
     ·refine sIm hC (vE (.pointer (some ⟨bl,2,none⟩))) ?_;exact sVc rfl rfl sg (by first | rfl | simp [hC])
     ·exact sOc rfl rfl sg (by first | rfl | simp [hC]) (nW hC)),
      (fun aF wF F=>by
     have sg:=F.v 9 118;have s119:((pa&&ap)=true→aF.tmps.getD 119 undef=(.pointer (some ⟨bl,2,none⟩)))∧((pa&&ap)=false→aF.tmps.getD 119 undef=undef):=F.done 10 119 (by kernel_rfl) rfl;have c0:=Ai HY.out F.kept 2 _ rfl;rcases Ay (pa&&ap) with hC | hC
     ·refine sIm hC (vE (.int .i64 bb)) ?_;replace s119:=s119.1 hC;exact sVc rfl rfl sg (by first | rfl | simp [hC])
     ·exact sOc rfl rfl sg (by first | rfl | simp [hC]) (nW hC)),
      (fun aF wF F=>by
     have sg:=F.v 9 118;have s120:((pa&&ap)=true→aF.tmps.getD 120 undef=(.int .i64 bb))∧((pa&&ap)=false→aF.tmps.getD 120 undef=undef):=F.done 11 120 (by kernel_rfl) rfl;rcases Ay (pa&&ap) with hC | hC
     ·refine sIm hC (vE (.bool zb)) ?_;replace s120:=s120.1 hC;exact A0 ((Al rfl rfl sg).trans (by first | rfl | simp [hC])) (by (go_simp;exact ZB.out)) rfl
     ·exact sOc rfl rfl sg (by first | rfl | simp [hC]) (nW hC)),
      (fun aF wF F=>by
     have s118:=F.v 9 118;have s121:((pa&&ap)=true→aF.tmps.getD 121 undef=(.bool zb))∧((pa&&ap)=false→aF.tmps.getD 121 undef=undef):=F.done 12 121 (by kernel_rfl) rfl;rcases Ay (pa&&ap) with hE | hE
     ·replace s121:=s121.1 hE;exact sw (by first | (go_simp;done) | (go_simp;simp_all;done) | (simp_all;done)) rfl
     ·exact sw (by first | (go_simp;done) | (go_simp;simp_all;done) | (simp_all;done)) rfl),(gv 13 122),
      trivial⟩ ?_
    intro u w1 k1 hu;have p113:=hp hu 4;have p114:=hp hu 5;have p115:=hp hu 6;have p116:=hp hu 7;have p119:=hp hu 10;have p120:=hp hu 11;have p121:=hp hu 12;simp only [Bl,Au,if_true,Act.put,zlA,zlB,zlC,zlD,zlE,zlF,zlG,hv hu 0,hv hu 1,hv hu 2,hv hu 3,hv hu 8,hv hu 9,hv hu 13,hv hu 14];clear hu;generalize u 4=v113,u 5=v114,u 6=v115,u 7=v116,u 10=v119,u 11=v120,u 12=v121 at *;clear p113 p114 p115 p116 p119 p120 p121;replace KR:=hid (KR.out.trans (KV.out.trans (KX.out.trans k1)));clear k1 KV KX HY d0 d1 d2 d3 d4 d5 d6 d7 d8 ZA ZB PA PB AX AU AP AK BK;obtain ⟨t,ht⟩:∃ t,(pa&&ap&&zb)=t:=⟨_,rfl⟩
    simp only [ht] at NF AF ⊢;clear ht;cases t
    ·have r0:=NF.out rfl;subst r0;clear NF AF NL NO YE;go_wp2_with fail;go_ret;exact ⟨rfl,K.out.trans KR.out⟩
    ·have AL:=hid (AF.out rfl);clear NF AF;go_wp2_with fail;go_roundw
     case rel=>exact ⟨k+1,by have:=HL.out;omega,by have:=HL.out;go_num,KR.out,AL⟩
     case measure=>simp only [intOf];have:=HL.out;omega
   rw [if_neg c5] at NF AF;have g5:(op==5)=false:=by simpa using c5
   clear c5;go_wp2_with fail;refine (BC.out _).mono ?_;rintro e w3 ⟨rfl,q⟩;clear d0 d1 d2 d3 d4 d5 d6 d7 d8 BC g2 g3 g4 g5;replace HY:=hid (Aj HY.out q);obtain ⟨d0,d1,d2,d3,d4,d5,d6,d7,d8⟩:=Cf HY.out;replace KX:=hid (KX.out.trans q);clear q;simp only [];obtain ⟨tb,htb⟩:∃ t,(decide (6≤op)&&decide (op≤9))=t:=⟨_,rfl⟩;rw [htb] at NF AF ⊢;clear htb;cases tb
   ·rw [if_neg (by decide)] at NF AF;go_wp2_with fail;refine (UC.out _).mono ?_;rintro e w4 ⟨rfl,q⟩;clear d0 d1 d2 d3 d4 d5 d6 d7 d8 UC;replace HY:=hid (Aj       HY.out q);obtain ⟨d0,d1,d2,d3,d4,d5,d6,d7,d8⟩:=Cf       HY.out;replace KX:=hid (KX.out.trans q);clear q;simp only [];obtain ⟨tc,htc⟩:∃ t,(decide (10≤op)&&decide (op≤13))=t:=⟨_,rfl⟩;rw [htc] at NF AF ⊢;clear htc;cases tc
    ·rw [if_neg (by decide)] at NF AF;have k1:=Below.refl w4.heap.size w4;replace KR:=hid (KR.out.trans (KV.out.trans (KX.out.trans k1)));clear k1 KV KX HY ZA ZB PA PB AX AU AP AK BK;have r0:=NF.out rfl;subst r0;clear NF AF NL NO YE;go_wp2_with fail;go_ret;exact ⟨rfl,K.out.trans KR.out⟩
    ·rw [if_pos rfl] at NF AF;go_upto_region 22 with fail
     refine rS 15 ([(vP bl 1),(vE (.int .i64 a)),(vE (.bool pa)),(vE (.bool pa)),(fun v wv=>(pa=true→(fun v _=>v=(.pointer (some ⟨bl,1,none⟩))) v wv)∧(pa=false→v=undef)),(fun v wv=>(pa=true→(fun v _=>v=(.int .i64 a)) v wv)∧(pa=false→v=undef)),(fun v wv=>(pa=true→(fun v _=>v=(.int .i64 (k:Int))) v wv)∧(pa=false→v=undef)),(fun v wv=>(pa=true→(fun v _=>v=(.bool ak)) v wv)∧(pa=false→v=undef)),(vE (.bool (pa&&ak))),(vE (.bool (pa&&ak))),(fun v wv=>((pa&&ak)=true→(fun v _=>v=(.pointer (some ⟨bl,2,none⟩))) v wv)∧((pa&&ak)=false→v=undef)),(fun v wv=>((pa&&ak)=true→(fun v _=>v=(.int .i64 bb)) v wv)∧((pa&&ak)=false→v=undef)),(fun v wv=>((pa&&ak)=true→(fun v _=>v=(.bool zb)) v wv)∧((pa&&ak)=false→v=undef)),(vE (.bool (pa&&ak&&zb))),(vE (.bool (pa&&ak&&zb)))])
      ⟨
       (gq 10),(gvl 0 151 fun _ k=>Ai HY.out k 1 _ rfl),(fun aF wF F=>by have s152:=F.v 1 152;exact sw (by (go_simp;exact PA.out)) rfl),(gv 2 153),
       (fun aF wF F=>by
      have sg:=F.v 3 154;have s10:=F.q 10 (.pointer (some ⟨bl,0,none⟩));rcases Ay pa with hC | hC
      ·refine sIm hC (vE (.pointer (some ⟨bl,1,none⟩))) ?_;exact sVc rfl rfl sg (by first | rfl | simp [hC])
      ·exact sOc rfl rfl sg (by first | rfl | simp [hC]) (nW hC)),
       (fun aF wF F=>by
      have sg:=F.v 3 154;have s155:(pa=true→aF.tmps.getD 155 undef=(.pointer (some ⟨bl,1,none⟩)))∧(pa=false→aF.tmps.getD 155 undef=undef):=F.done 4 155 (by kernel_rfl) rfl;have c0:=Ai HY.out F.kept 1 _ rfl;rcases Ay pa with hC | hC
      ·refine sIm hC (vE (.int .i64 a)) ?_;replace s155:=s155.1 hC;exact sVc rfl rfl sg (by first | rfl | simp [hC])
      ·exact sOc rfl rfl sg (by first | rfl | simp [hC]) (nW hC)),
       (fun aF wF F=>by
      have sg:=F.v 3 154;have s9:=F.q 9 (.int .i64 (k:Int));rcases Ay pa with hC | hC
      ·refine sIm hC (vE (.int .i64 (k:Int))) ?_;exact sVc rfl rfl sg (by first | rfl | simp [hC])
      ·exact sOc rfl rfl sg (by first | rfl | simp [hC]) (nW hC)),
       (fun aF wF F=>by
      have sg:=F.v 3 154;have s156:(pa=true→aF.tmps.getD 156 undef=(.int .i64 a))∧(pa=false→aF.tmps.getD 156 undef=undef):=F.done 5 156 (by kernel_rfl) rfl;have s157:(pa=true→aF.tmps.getD 157 undef=(.int .i64 (k:Int)))∧(pa=false→aF.tmps.getD 157 undef=undef):=F.done 6 157 (by kernel_rfl) rfl;rcases Ay pa with hC | hC
      ·refine sIm hC (vE (.bool ak)) ?_;replace s156:=s156.1 hC;replace s157:=s157.1 hC;exact A0 ((Al rfl rfl sg).trans (by first | rfl | simp [hC])) (by (go_simp;exact AK.out)) rfl
      ·exact sOc rfl rfl sg (by first | rfl | simp [hC]) (nW hC)),
       (fun aF wF F=>by
      have s154:=F.v 3 154;have s158:(pa=true→aF.tmps.getD 158 undef=(.bool ak))∧(pa=false→aF.tmps.getD 158 undef=undef):=F.done 7 158 (by kernel_rfl) rfl;rcases Ay pa with hE | hE
      ·replace s158:=s158.1 hE;exact sw (by first | (go_simp;done) | (go_simp;simp_all;done) | (simp_all;done)) rfl
      ·exact sw (by first | (go_simp;done) | (go_simp;simp_all;done) | (simp_all;done)) rfl),(gv 8 159),
       (fun aF wF F=>by
      have sg:=F.v 9 160;have s10:=F.q 10 (.pointer (some ⟨bl,0,none⟩));rcases Ay (pa&&ak) with hC | hC
      ·refine sIm hC (vE (.pointer (some ⟨bl,2,none⟩))) ?_;exact sVc rfl rfl sg (by first | rfl | simp [hC])
      ·exact sOc rfl rfl sg (by first | rfl | simp [hC]) (nW hC)),
       (fun aF wF F=>by
      have sg:=F.v 9 160;have s161:((pa&&ak)=true→aF.tmps.getD 161 undef=(.pointer (some ⟨bl,2,none⟩)))∧((pa&&ak)=false→aF.tmps.getD 161 undef=undef):=F.done 10 161 (by kernel_rfl) rfl;have c0:=Ai HY.out F.kept 2 _ rfl;rcases Ay (pa&&ak) with hC | hC
      ·refine sIm hC (vE (.int .i64 bb)) ?_;replace s161:=s161.1 hC;exact sVc rfl rfl sg (by first | rfl | simp [hC])
      ·exact sOc rfl rfl sg (by first | rfl | simp [hC]) (nW hC)),
       (fun aF wF F=>by
      have sg:=F.v 9 160;have s162:((pa&&ak)=true→aF.tmps.getD 162 undef=(.int .i64 bb))∧((pa&&ak)=false→aF.tmps.getD 162 undef=undef):=F.done 11 162 (by kernel_rfl) rfl;rcases Ay (pa&&ak) with hC | hC
      ·refine sIm hC (vE (.bool zb)) ?_;replace s162:=s162.1 hC;exact A0 ((Al rfl rfl sg).trans (by first | rfl | simp [hC])) (by (go_simp;exact ZB.out)) rfl
      ·exact sOc rfl rfl sg (by first | rfl | simp [hC]) (nW hC)),
       (fun aF wF F=>by
      have s160:=F.v 9 160;have s163:((pa&&ak)=true→aF.tmps.getD 163 undef=(.bool zb))∧((pa&&ak)=false→aF.tmps.getD 163 undef=undef):=F.done 12 163 (by kernel_rfl) rfl;rcases Ay (pa&&ak) with hE | hE
      ·replace s163:=s163.1 hE;exact sw (by first | (go_simp;done) | (go_simp;simp_all;done) | (simp_all;done)) rfl
      ·exact sw (by first | (go_simp;done) | (go_simp;simp_all;done) | (simp_all;done)) rfl),(gv 13 164),
       trivial⟩ ?_
     intro u w1 k1 hu;have p155:=hp hu 4;have p156:=hp hu 5;have p157:=hp hu 6;have p158:=hp hu 7;have p161:=hp hu 10;have p162:=hp hu 11;have p163:=hp hu 12;simp only [Bl,Au,if_true,Act.put,zlA,zlB,zlC,zlD,zlE,zlF,zlG,hv hu 0,hv hu 1,hv hu 2,hv hu 3,hv hu 8,hv hu 9,hv hu 13,hv hu 14];clear hu;generalize u 4=v155,u 5=v156,u 6=v157,u 7=v158,u 10=v161,u 11=v162,u 12=v163 at *;clear p155 p156 p157 p158 p161 p162 p163;replace KR:=hid (KR.out.trans (KV.out.trans (KX.out.trans k1)));clear k1 KV KX HY d0 d1 d2 d3 d4 d5 d6 d7 d8 ZA ZB PA PB AX AU AP AK BK;obtain ⟨t,ht⟩:∃ t,(pa&&ak&&zb)=t:=⟨_,rfl⟩
     simp only [ht] at NF AF ⊢;clear ht;cases t
     ·have r0:=NF.out rfl;subst r0;clear NF AF NL NO YE;go_wp2_with fail;go_ret;exact ⟨rfl,K.out.trans KR.out⟩
     ·have AL:=hid (AF.out rfl);clear NF AF;go_wp2_with fail;go_roundw
      case rel=>exact ⟨k+1,by have:=HL.out;omega,by have:=HL.out;go_num,KR.out,AL⟩
      case measure=>simp only [intOf];have:=HL.out;omega
   ·rw [if_pos rfl] at NF AF;clear UC;go_upto_region 20 with fail
    refine rS 21 ([(vP bl 1),(vE (.int .i64 a)),(vE (.bool pa)),(vE (.bool pa)),(fun v wv=>(pa=true→(fun v _=>v=(.pointer (some ⟨bl,1,none⟩))) v wv)∧(pa=false→v=undef)),(fun v wv=>(pa=true→(fun v _=>v=(.int .i64 a)) v wv)∧(pa=false→v=undef)),(fun v wv=>(pa=true→(fun v _=>v=(.int .i64 (k:Int))) v wv)∧(pa=false→v=undef)),(fun v wv=>(pa=true→(fun v _=>v=(.bool ak)) v wv)∧(pa=false→v=undef)),(vE (.bool (pa&&ak))),(vE (.bool (pa&&ak))),(fun v wv=>((pa&&ak)=true→(fun v _=>v=(.pointer (some ⟨bl,2,none⟩))) v wv)∧((pa&&ak)=false→v=undef)),(fun v wv=>((pa&&ak)=true→(fun v _=>v=(.int .i64 bb)) v wv)∧((pa&&ak)=false→v=undef)),(fun v wv=>((pa&&ak)=true→(fun v _=>v=(.bool pb)) v wv)∧((pa&&ak)=false→v=undef)),(vE (.bool (pa&&ak&&pb))),(vE (.bool (pa&&ak&&pb))),(fun v wv=>((pa&&ak&&pb)=true→(fun v _=>v=(.pointer (some ⟨bl,2,none⟩))) v wv)∧((pa&&ak&&pb)=false→v=undef)),(fun v wv=>((pa&&ak&&pb)=true→(fun v _=>v=(.int .i64 bb)) v wv)∧((pa&&ak&&pb)=false→v=undef)),(fun v wv=>((pa&&ak&&pb)=true→(fun v _=>v=(.int .i64 (k:Int))) v wv)∧((pa&&ak&&pb)=false→v=undef)),(fun v wv=>((pa&&ak&&pb)=true→(fun v _=>v=(.bool bk)) v wv)∧((pa&&ak&&pb)=false→v=undef)),(vE (.bool (pa&&ak&&pb&&bk))),(vE (.bool (pa&&ak&&pb&&bk)))])
     ⟨
      (gq 10),(gvl 0 127 fun _ k=>Ai HY.out k 1 _ rfl),(fun aF wF F=>by have s128:=F.v 1 128;exact sw (by (go_simp;exact PA.out)) rfl),(gv 2 129),
      (fun aF wF F=>by
     have sg:=F.v 3 130;have s10:=F.q 10 (.pointer (some ⟨bl,0,none⟩));rcases Ay pa with hC | hC
     ·refine sIm hC (vE (.pointer (some ⟨bl,1,none⟩))) ?_;exact sVc rfl rfl sg (by first | rfl | simp [hC])
     ·exact sOc rfl rfl sg (by first | rfl | simp [hC]) (nW hC)),
      (fun aF wF F=>by
     have sg:=F.v 3 130;have s131:(pa=true→aF.tmps.getD 131 undef=(.pointer (some ⟨bl,1,none⟩)))∧(pa=false→aF.tmps.getD 131 undef=undef):=F.done 4 131 (by kernel_rfl) rfl;have c0:=Ai HY.out F.kept 1 _ rfl;rcases Ay pa with hC | hC
     ·refine sIm hC (vE (.int .i64 a)) ?_;replace s131:=s131.1 hC;exact sVc rfl rfl sg (by first | rfl | simp [hC])
     ·exact sOc rfl rfl sg (by first | rfl | simp [hC]) (nW hC)),
      (fun aF wF F=>by
     have sg:=F.v 3 130;have s9:=F.q 9 (.int .i64 (k:Int));rcases Ay pa with hC | hC
     ·refine sIm hC (vE (.int .i64 (k:Int))) ?_;exact sVc rfl rfl sg (by first | rfl | simp [hC])
     ·exact sOc rfl rfl sg (by first | rfl | simp [hC]) (nW hC)),
      (fun aF wF F=>by
     have sg:=F.v 3 130;have s132:(pa=true→aF.tmps.getD 132 undef=(.int .i64 a))∧(pa=false→aF.tmps.getD 132 undef=undef):=F.done 5 132 (by kernel_rfl) rfl;have s133:(pa=true→aF.tmps.getD 133 undef=(.int .i64 (k:Int)))∧(pa=false→aF.tmps.getD 133 undef=undef):=F.done 6 133 (by kernel_rfl) rfl;rcases Ay pa with hC | hC
     ·refine sIm hC (vE (.bool ak)) ?_;replace s132:=s132.1 hC;replace s133:=s133.1 hC;exact A0 ((Al rfl rfl sg).trans (by first | rfl | simp [hC])) (by (go_simp;exact AK.out)) rfl
     ·exact sOc rfl rfl sg (by first | rfl | simp [hC]) (nW hC)),
      (fun aF wF F=>by
     have s130:=F.v 3 130;have s134:(pa=true→aF.tmps.getD 134 undef=(.bool ak))∧(pa=false→aF.tmps.getD 134 undef=undef):=F.done 7 134 (by kernel_rfl) rfl;rcases Ay pa with hE | hE
     ·replace s134:=s134.1 hE;exact sw (by first | (go_simp;done) | (go_simp;simp_all;done) | (simp_all;done)) rfl
     ·exact sw (by first | (go_simp;done) | (go_simp;simp_all;done) | (simp_all;done)) rfl),(gv 8 135),
      (fun aF wF F=>by
     have sg:=F.v 9 136;have s10:=F.q 10 (.pointer (some ⟨bl,0,none⟩));rcases Ay (pa&&ak) with hC | hC
     ·refine sIm hC (vE (.pointer (some ⟨bl,2,none⟩))) ?_;exact sVc rfl rfl sg (by first | rfl | simp [hC])
     ·exact sOc rfl rfl sg (by first | rfl | simp [hC]) (nW hC)),
      (fun aF wF F=>by
     have sg:=F.v 9 136;have s137:((pa&&ak)=true→aF.tmps.getD 137 undef=(.pointer (some ⟨bl,2,none⟩)))∧((pa&&ak)=false→aF.tmps.getD 137 undef=undef):=F.done 10 137 (by kernel_rfl) rfl;have c0:=Ai HY.out F.kept 2 _ rfl;rcases Ay (pa&&ak) with hC | hC
     ·refine sIm hC (vE (.int .i64 bb)) ?_;replace s137:=s137.1 hC;exact sVc rfl rfl sg (by first | rfl | simp [hC])
     ·exact sOc rfl rfl sg (by first | rfl | simp [hC]) (nW hC)),
      (fun aF wF F=>by
     have sg:=F.v 9 136;have s138:((pa&&ak)=true→aF.tmps.getD 138 undef=(.int .i64 bb))∧((pa&&ak)=false→aF.tmps.getD 138 undef=undef):=F.done 11 138 (by kernel_rfl) rfl;rcases Ay (pa&&ak) with hC | hC
     ·refine sIm hC (vE (.bool pb)) ?_;replace s138:=s138.1 hC;exact A0 ((Al rfl rfl sg).trans (by first | rfl | simp [hC])) (by (go_simp;exact PB.out)) rfl
     ·exact sOc rfl rfl sg (by first | rfl | simp [hC]) (nW hC)),
      (fun aF wF F=>by
     have s136:=F.v 9 136;have s139:((pa&&ak)=true→aF.tmps.getD 139 undef=(.bool pb))∧((pa&&ak)=false→aF.tmps.getD 139 undef=undef):=F.done 12 139 (by kernel_rfl) rfl;rcases Ay (pa&&ak) with hE | hE
     ·replace s139:=s139.1 hE;exact sw (by first | (go_simp;done) | (go_simp;simp_all;done) | (simp_all;done)) rfl
     ·exact sw (by first | (go_simp;done) | (go_simp;simp_all;done) | (simp_all;done)) rfl),(gv 13 140),
      (fun aF wF F=>by
     have sg:=F.v 14 141;have s10:=F.q 10 (.pointer (some ⟨bl,0,none⟩));rcases Ay (pa&&ak&&pb) with hC | hC
     ·refine sIm hC (vE (.pointer (some ⟨bl,2,none⟩))) ?_;exact sVc rfl rfl sg (by first | rfl | simp [hC])
     ·exact sOc rfl rfl sg (by first | rfl | simp [hC]) (nW hC)),
      (fun aF wF F=>by
     have sg:=F.v 14 141;have s142:((pa&&ak&&pb)=true→aF.tmps.getD 142 undef=(.pointer (some ⟨bl,2,none⟩)))∧((pa&&ak&&pb)=false→aF.tmps.getD 142 undef=undef):=F.done 15 142 (by kernel_rfl) rfl;have c0:=Ai HY.out F.kept 2 _ rfl;rcases Ay (pa&&ak&&pb) with hC | hC
     ·refine sIm hC (vE (.int .i64 bb)) ?_;replace s142:=s142.1 hC;exact sVc rfl rfl sg (by first | rfl | simp [hC])
     ·exact sOc rfl rfl sg (by first | rfl | simp [hC]) (nW hC)),
      (fun aF wF F=>by
     have sg:=F.v 14 141;have s9:=F.q 9 (.int .i64 (k:Int));rcases Ay (pa&&ak&&pb) with hC | hC
     ·refine sIm hC (vE (.int .i64 (k:Int))) ?_;exact sVc rfl rfl sg (by first | rfl | simp [hC])
     ·exact sOc rfl rfl sg (by first | rfl | simp [hC]) (nW hC)),
      (fun aF wF F=>by
     have sg:=F.v 14 141;have s143:((pa&&ak&&pb)=true→aF.tmps.getD 143 undef=(.int .i64 bb))∧((pa&&ak&&pb)=false→aF.tmps.getD 143 undef=undef):=F.done 16 143 (by kernel_rfl) rfl;have s144:((pa&&ak&&pb)=true→aF.tmps.getD 144 undef=(.int .i64 (k:Int)))∧((pa&&ak&&pb)=false→aF.tmps.getD 144 undef=undef):=F.done 17 144 (by kernel_rfl) rfl;rcases Ay (pa&&ak&&pb) with hC | hC
     ·refine sIm hC (vE (.bool bk)) ?_;replace s143:=s143.1 hC;replace s144:=s144.1 hC;exact A0 ((Al rfl rfl sg).trans (by first | rfl | simp [hC])) (by (go_simp;exact BK.out)) rfl
     ·exact sOc rfl rfl sg (by first | rfl | simp [hC]) (nW hC)),
      (fun aF wF F=>by
     have s141:=F.v 14 141;have s145:((pa&&ak&&pb)=true→aF.tmps.getD 145 undef=(.bool bk))∧((pa&&ak&&pb)=false→aF.tmps.getD 145 undef=undef):=F.done 18 145 (by kernel_rfl) rfl;rcases Ay (pa&&ak&&pb) with hE | hE
     ·replace s145:=s145.1 hE;exact sw (by first | (go_simp;done) | (go_simp;simp_all;done) | (simp_all;done)) rfl
     ·exact sw (by first | (go_simp;done) | (go_simp;simp_all;done) | (simp_all;done)) rfl),(gv 19 146),
      trivial⟩ ?_
    intro u w1 k1 hu;have p131:=hp hu 4;have p132:=hp hu 5;have p133:=hp hu 6;have p134:=hp hu 7;have p137:=hp hu 10;have p138:=hp hu 11;have p139:=hp hu 12;have p142:=hp hu 15;have p143:=hp hu 16;have p144:=hp hu 17;have p145:=hp hu 18;simp only [Bl,Au,if_true,Act.put,zlA,zlB,zlC,zlD,zlE,zlF,zlG,hv hu 0,hv hu 1,hv hu 2,hv hu 3,hv hu 8,hv hu 9,hv hu 13,hv hu 14,hv hu 19,hv hu 20];clear hu;generalize u 4=v131,u 5=v132,u 6=v133,u 7=v134,u 10=v137,u 11=v138,u 12=v139,u 15=v142,u 16=v143,u 17=v144,u 18=v145 at *;clear p131 p132 p133 p134 p137 p138 p139 p142 p143 p144 p145;replace KR:=hid (KR.out.trans (KV.out.trans (KX.out.trans k1)))
    clear k1 KV KX HY d0 d1 d2 d3 d4 d5 d6 d7 d8 ZA ZB PA PB AX AU AP AK BK;obtain ⟨t,ht⟩:∃ t,(pa&&ak&&pb&&bk)=t:=⟨_,rfl⟩;simp only [ht] at NF AF ⊢;clear ht;cases t
    ·have r0:=NF.out rfl;subst r0;clear NF AF NL NO YE;go_wp2_with fail;go_ret;exact ⟨rfl,K.out.trans KR.out⟩
    ·have AL:=hid (AF.out rfl);clear NF AF;go_wp2_with fail;go_roundw
     case rel=>exact ⟨k+1,by have:=HL.out;omega,by have:=HL.out;go_num,KR.out,AL⟩
     case measure=>simp only [intOf];have:=HL.out;omega
  ·obtain rfl:k=n:=by omega
   clear c0 c1;obtain ⟨c0,c1⟩:=Cj (Aj HB.out KR.out);go_wp2_with fail;clear c0 c1 NL HA
   go_loopw [12] (fun t wr'=>∃ i:Nat,i≤no∧t=.int .i64 i∧Kept W wr'∧Hid (∀ (j:Nat) z,j<i→outs[j]?=some z→Cd z (k:Int)=true)) (fun t _=>(no-intOf t).toNat)
   case atStart=>exact ⟨0,Nat.zero_le _,rfl,KR.out,hid (fun j z h=>absurd h (by omega))⟩
   case round =>
    obtain ⟨i,hi,rfl,hKr,BL⟩:=hrel;have KS:=hid hKr;obtain ⟨c0,c1⟩:=Cj (Aj HB.out hKr);clear hKr;by_cases hin:i<no
    ·obtain ⟨z,hz⟩:∃ z,outs[i]?=some z:=⟨_,List.getElem?_eq_getElem (by have:=HNO.out;omega)⟩;have NZ:=hid (NO.out i z hz);have BZ:=hid (fun (h:Cd z (k:Int)=true) (j:Nat) z' (hj:j<i+1) (hz':outs[j]?=some z')=>show Cd z' (k:Int)=true from if e:j=i then by subst e;rw [hz] at hz';cases hz';exact h else BL.out j z' (by omega) hz');obtain ⟨B',d',eo,-,hBo⟩:=HO.out.kept (K.out.trans KS.out);injection eo with eo1 eo2 eo3
     subst eo1;obtain ⟨bo,oo,rfl,ho⟩:=hBo (by have:=HNO.out;omega);have CO:=hid (ho i _ hz);have HI:=hid hin;obtain ⟨z1,hz1⟩:∃ t,decide (z<0)=t:=⟨_,rfl⟩;obtain ⟨z2,hz2⟩:∃ t,decide ((k:Int)≤z)=t:=⟨_,rfl⟩;have F1:=hid hz1;have F2:=hid hz2;have eb:Cd z (k:Int)=!(z1||z2):=by
      unfold Cd;rw [←hz1,←hz2,Bool.not_or,←decide_not,←decide_not]
      congr 1
      ·rw [decide_eq_decide];omega
      ·rw [decide_eq_decide];omega
     rw [eb] at NZ BZ;have HBS:=hid (Aj HB.out KS.out);clear eo2 eo3 hBo ho hz c0 c1 hz1 hz2 eb BL NO;obtain ⟨c0,c1⟩:=Cj HBS.out;go_wp2_with fail;clear c0 c1
     refine rgL 17 ([(vP w.heap.size 1),(vE (.slice (some ⟨bo,oo,none⟩) no d)),(vE (.int .i64 (i:Int))),(vE (.pointer (some ⟨bo,oo+i,none⟩))),(vE (.int .i64 z)),(vE (.bool z1)),(vE (.bool z1)),(fun v wv=>((!z1)=true→(fun v _=>v=(.pointer (some ⟨w.heap.size,1,none⟩))) v wv)∧((!z1)=false→v=undef)),(fun v wv=>((!z1)=true→(fun v _=>v=(.slice (some ⟨bo,oo,none⟩) no d)) v wv)∧((!z1)=false→v=undef)),(fun v wv=>((!z1)=true→(fun v _=>v=(.int .i64 (i:Int))) v wv)∧((!z1)=false→v=undef)),(fun v wv=>((!z1)=true→(fun v _=>v=(.pointer (some ⟨bo,oo+i,none⟩))) v wv)∧((!z1)=false→v=undef)),(fun v wv=>((!z1)=true→(fun v _=>v=(.int .i64 z)) v wv)∧((!z1)=false→v=undef)),(fun v wv=>((!z1)=true→(fun v _=>v=(.pointer (some ⟨w.heap.size,0,none⟩))) v wv)∧((!z1)=false→v=undef)),(fun v wv=>((!z1)=true→(fun v _=>v=(.slice A k c)) v wv)∧((!z1)=false→v=undef)),(fun v wv=>((!z1)=true→(fun v _=>v=(.int .i64 (k:Int))) v wv)∧((!z1)=false→v=undef)),(fun v wv=>((!z1)=true→(fun v _=>v=(.bool z2)) v wv)∧((!z1)=false→v=undef)),(vE (.bool (z1||z2)))])
      ⟨
       (gq 4),(gvl 0 174 fun _ k=>Ai HBS.out k 1 _ rfl),(gq 12),(fun aF wF F=>by have s175:=F.v 1 175;have s176:=F.v 2 176;exact sw (by (have hi9:=HI.out;first | (go_simp;done) | (go_simp;omega))) rfl),(fun aF wF F=>by have s177:=F.v 3 177;exact sw (by (have n0:=(F.kept.cell (p:=⟨bo,oo+i,none⟩) (Bg CO.out)).trans CO.out;go_simp)) rfl),(fun aF wF F=>by have s178:=F.v 4 178;exact sw (by (go_simp;exact F1.out)) rfl),(gv 5 179),
       (fun aF wF F=>by
      have sg:=F.v 6 180;have s4:=F.q 4 (.pointer (some ⟨w.heap.size,0,none⟩));rcases Ay (!z1) with hC | hC
      ·refine sIm hC (vE (.pointer (some ⟨w.heap.size,1,none⟩))) ?_;exact sVc rfl rfl sg (by first | rfl | simp [hC])
      ·exact sOc rfl rfl sg (by first | rfl | simp [hC]) (nW hC)),
       (fun aF wF F=>by
      have sg:=F.v 6 180;have s181:((!z1)=true→aF.tmps.getD 181 undef=(.pointer (some ⟨w.heap.size,1,none⟩)))∧((!z1)=false→aF.tmps.getD 181 undef=undef):=F.done 7 181 (by kernel_rfl) rfl;have c0:=Ai HBS.out F.kept 1 _ rfl;rcases Ay (!z1) with hC | hC
      ·refine sIm hC (vE (.slice (some ⟨bo,oo,none⟩) no d)) ?_;replace s181:=s181.1 hC;exact sVc rfl rfl sg (by first | rfl | simp [hC])
      ·exact sOc rfl rfl sg (by first | rfl | simp [hC]) (nW hC)),
       (fun aF wF F=>by
      have sg:=F.v 6 180;have s12:=F.q 12 (.int .i64 (i:Int));rcases Ay (!z1) with hC | hC
      ·refine sIm hC (vE (.int .i64 (i:Int))) ?_;exact sVc rfl rfl sg (by first | rfl | simp [hC])
      ·exact sOc rfl rfl sg (by first | rfl | simp [hC]) (nW hC)),
       (fun aF wF F=>by
      have sg:=F.v 6 180;have s182:((!z1)=true→aF.tmps.getD 182 undef=(.slice (some ⟨bo,oo,none⟩) no d))∧((!z1)=false→aF.tmps.getD 182 undef=undef):=F.done 8 182 (by kernel_rfl) rfl;have s183:((!z1)=true→aF.tmps.getD 183 undef=(.int .i64 (i:Int)))∧((!z1)=false→aF.tmps.getD 183 undef=undef):=F.done 9 183 (by kernel_rfl) rfl;rcases Ay (!z1) with hC | hC
      ·refine sIm hC (vE (.pointer (some ⟨bo,oo+i,none⟩))) ?_;replace s182:=s182.1 hC;replace s183:=s183.1 hC;exact A0 ((Al rfl rfl sg).trans (by first | rfl | simp [hC])) (by (have hi9:=HI.out;first | (go_simp;done) | (go_simp;omega))) rfl
      ·exact sOc rfl rfl sg (by first | rfl | simp [hC]) (nW hC)),
       (fun aF wF F=>by
      have sg:=F.v 6 180;have s184:((!z1)=true→aF.tmps.getD 184 undef=(.pointer (some ⟨bo,oo+i,none⟩)))∧((!z1)=false→aF.tmps.getD 184 undef=undef):=F.done 10 184 (by kernel_rfl) rfl;rcases Ay (!z1) with hC | hC
      ·refine sIm hC (vE (.int .i64 z)) ?_;replace s184:=s184.1 hC;exact A0 ((Al rfl rfl sg).trans (by first | rfl | simp [hC])) (by (have n0:=(F.kept.cell (p:=⟨bo,oo+i,none⟩) (Bg CO.out)).trans CO.out;go_simp)) rfl
      ·exact sOc rfl rfl sg (by first | rfl | simp [hC]) (nW hC)),
       (fun aF wF F=>by
      have sg:=F.v 6 180;have s4:=F.q 4 (.pointer (some ⟨w.heap.size,0,none⟩));rcases Ay (!z1) with hC | hC
      ·refine sIm hC (vE (.pointer (some ⟨w.heap.size,0,none⟩))) ?_;exact sVc rfl rfl sg (by first | rfl | simp [hC])
      ·exact sOc rfl rfl sg (by first | rfl | simp [hC]) (nW hC)),
       (fun aF wF F=>by
      have sg:=F.v 6 180;have s186:((!z1)=true→aF.tmps.getD 186 undef=(.pointer (some ⟨w.heap.size,0,none⟩)))∧((!z1)=false→aF.tmps.getD 186 undef=undef):=F.done 12 186 (by kernel_rfl) rfl;have c0:=Ai HBS.out F.kept 0 _ rfl;rcases Ay (!z1) with hC | hC
      ·refine sIm hC (vE (.slice A k c)) ?_;replace s186:=s186.1 hC;exact sVc rfl rfl sg (by first | rfl | simp [hC])
      ·exact sOc rfl rfl sg (by first | rfl | simp [hC]) (nW hC)),
       (fun aF wF F=>by
      have sg:=F.v 6 180;have s187:((!z1)=true→aF.tmps.getD 187 undef=(.slice A k c))∧((!z1)=false→aF.tmps.getD 187 undef=undef):=F.done 13 187 (by kernel_rfl) rfl;rcases Ay (!z1) with hC | hC
      ·refine sIm hC (vE (.int .i64 (k:Int))) ?_;replace s187:=s187.1 hC;exact sVc rfl rfl sg (by first | rfl | simp [hC])
      ·exact sOc rfl rfl sg (by first | rfl | simp [hC]) (nW hC)),
       (fun aF wF F=>by
      have sg:=F.v 6 180;have s185:((!z1)=true→aF.tmps.getD 185 undef=(.int .i64 z))∧((!z1)=false→aF.tmps.getD 185 undef=undef):=F.done 11 185 (by kernel_rfl) rfl;have s188:((!z1)=true→aF.tmps.getD 188 undef=(.int .i64 (k:Int)))∧((!z1)=false→aF.tmps.getD 188 undef=undef):=F.done 14 188 (by kernel_rfl) rfl;rcases Ay (!z1) with hC | hC
      ·refine sIm hC (vE (.bool z2)) ?_;replace s185:=s185.1 hC;replace s188:=s188.1 hC;exact A0 ((Al rfl rfl sg).trans (by first | rfl | simp [hC])) (by (go_simp;exact F2.out)) rfl
      ·exact sOc rfl rfl sg (by first | rfl | simp [hC]) (nW hC)),
       (fun aF wF F=>by
      have s180:=F.v 6 180;have s189:((!z1)=true→aF.tmps.getD 189 undef=(.bool z2))∧((!z1)=false→aF.tmps.getD 189 undef=undef):=F.done 15 189 (by kernel_rfl) rfl;rcases Ay (!z1) with hE | hE
      ·replace s189:=s189.1 hE;exact sw (by first | (go_simp;done) | (go_simp;simp_all;done) | (simp_all;done)) rfl
      ·exact sw (by first | (go_simp;done) | (go_simp;simp_all;done) | (simp_all;done)) rfl),
       trivial⟩ ?_
     intro u w7 q hu;have p181:=hp hu 7;have p182:=hp hu 8;have p183:=hp hu 9;have p184:=hp hu 10;have p185:=hp hu 11;have p186:=hp hu 12;have p187:=hp hu 13;have p188:=hp hu 14;have p189:=hp hu 15;simp only [Bl,Au,if_true,Act.put,zlA,zlB,zlC,zlD,zlE,zlF,zlG,hv hu 0,hv hu 1,hv hu 2,hv hu 3,hv hu 4,hv hu 5,hv hu 6,hv hu 16];clear hu;generalize u 7=v181,u 8=v182,u 9=v183,u 10=v184,u 11=v185,u 12=v186,u 13=v187,u 14=v188,u 15=v189 at *;clear p181 p182 p183 p184 p185 p186 p187 p188 p189 F1 F2;replace KS:=hid (KS.out.trans q);clear q;obtain ⟨t,ht⟩:∃ t,(z1||z2)=t:=⟨_,rfl⟩;simp only [ht] at NZ BZ ⊢
     clear ht;cases t
     ·have BL:=hid (BZ.out rfl);clear NZ BZ;go_wp2_with fail;go_roundw
      case rel=>exact ⟨i+1,by have:=HI.out;omega,by have:=HI.out;have:=N2.out;go_num,KS.out,BL⟩
      case measure=>simp only [intOf];have:=HI.out;omega
     ·have r0:=NZ.out rfl;subst r0;clear NZ BZ YE;go_wp2_with fail;go_ret;exact ⟨rfl,K.out.trans KS.out⟩
    ·obtain rfl:i=no:=by omega
     have r0:=YE.out N2.out.1 N2.out.2 (fun j l hj=>AL.out j l (by
      have h1:=(List.getElem?_eq_some_iff.1 hj).1;have:=HN.out;omega) hj) (fun j z hj=>BL.out j z (by
      have h1:=(List.getElem?_eq_some_iff.1 hj).1;have:=HNO.out;omega) hj)
     subst r0;go_wp2_with fail;go_ret;exact ⟨rfl,K.out.trans KS.out⟩
end Go.Proofs.YtmgaloopddiekaaGreatDoor
