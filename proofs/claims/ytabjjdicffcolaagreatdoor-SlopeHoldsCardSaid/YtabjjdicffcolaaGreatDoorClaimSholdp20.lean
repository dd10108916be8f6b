/- Words and contracts, part 20. -/
import Derived.Test.YtabjjdicffcolaaGreatDoorClaimSholdp18
set_option maxRecDepth 100000
set_option maxHeartbeats 0
namespace Go.Proofs.YtabjjdicffcolaaGreatDoor
open Go.Lib (hid)
open Go.RowKit
variable {α:Type} {cs z:Array Value} {op p:Int} {rows:List (List RawI)} {X:List Nat} {l r:List RawI} {xs:List Value} {B b ball bt c g' i n o ub:Nat} {A:Option Addr} {row:Option Nat} {a d k:RawI} {g:RawI→Bool} {T:TypeId} {s so u v x y:Value} {W w w':World}
theorem O0 (n m:Int)(w:World):Calls Tryz.prog 64 #[.int .i64 n,.int .i64 m] w (RetK (.bool (Bw n m)) w):=by
 by_cases h:0≤n
 ·have h1:decide (0≤n)=true:=by simp [h]
  have e:Bw n m=decide (n<m):=by unfold Bw;rw [h1,Bool.true_and]
  rw [e];go_enter Tryz.func64,Tryz.ntmps64;go_wp2;go_ret;exact ⟨rfl,Below.refl _ _⟩
 ·have h1:decide (0≤n)=false:=by simp;omega
  have e:Bw n m=false:=by unfold Bw;rw [h1,Bool.false_and]
  rw [e];go_enter Tryz.func64,Tryz.ntmps64;go_wp2;go_ret;exact ⟨rfl,Below.refl _ _⟩
theorem Ajm (n:Int)(w:World):Calls Tryz.prog 65 #[.int .i64 n] w (RetK (.int .i64 (Fj n)) w):=by
 have lit:∀ m:Int,n≠m→(n==m)=false:=fun m h=>by simp [h]
 by_cases h1:n=1
 ·subst h1;clear lit;go_enter Tryz.func65,Tryz.ntmps65;go_wp2;go_ret;exact ⟨rfl,Below.refl _ _⟩
 by_cases h2:n=2
 ·subst h2;clear lit;go_enter Tryz.func65,Tryz.ntmps65;go_wp2;go_ret;exact ⟨rfl,Below.refl _ _⟩
 by_cases h3:n=3
 ·subst h3;clear lit;go_enter Tryz.func65,Tryz.ntmps65;go_wp2;go_ret;exact ⟨rfl,Below.refl _ _⟩
 by_cases h4:n=4
 ·subst h4;clear lit;go_enter Tryz.func65,Tryz.ntmps65;go_wp2;go_ret;exact ⟨rfl,Below.refl _ _⟩
 by_cases h5:n=5
 ·subst h5;clear lit;go_enter Tryz.func65,Tryz.ntmps65;go_wp2;go_ret;exact ⟨rfl,Below.refl _ _⟩
 by_cases h6:n=6
 ·subst h6;clear lit;go_enter Tryz.func65,Tryz.ntmps65;go_wp2;go_ret;exact ⟨rfl,Below.refl _ _⟩
 by_cases h7:n=7
 ·subst h7;clear lit;go_enter Tryz.func65,Tryz.ntmps65;go_wp2;go_ret;exact ⟨rfl,Below.refl _ _⟩
 by_cases h8:n=8
 ·subst h8;clear lit;go_enter Tryz.func65,Tryz.ntmps65;go_wp2;go_ret;exact ⟨rfl,Below.refl _ _⟩
 by_cases h9:n=9
 ·subst h9;clear lit;go_enter Tryz.func65,Tryz.ntmps65;go_wp2;go_ret;exact ⟨rfl,Below.refl _ _⟩
 by_cases h10:n=10
 ·subst h10;clear lit;go_enter Tryz.func65,Tryz.ntmps65;go_wp2;go_ret;exact ⟨rfl,Below.refl _ _⟩
 by_cases h11:n=11
 ·subst h11;clear lit;go_enter Tryz.func65,Tryz.ntmps65;go_wp2;go_ret;exact ⟨rfl,Below.refl _ _⟩
 by_cases h12:n=12
 ·subst h12;clear lit;go_enter Tryz.func65,Tryz.ntmps65;go_wp2;go_ret;exact ⟨rfl,Below.refl _ _⟩
 by_cases h13:n=13
 ·subst h13;clear lit;go_enter Tryz.func65,Tryz.ntmps65;go_wp2;go_ret;exact ⟨rfl,Below.refl _ _⟩
 have e:Fj n=-1:=by unfold Fj;simp [h1,h2,h3,h4,h5,h6,h7,h8,h9,h10,h11,h12,h13]
 rw [e];replace h1:=lit _ h1;replace h2:=lit _ h2;replace h3:=lit _ h3;replace h4:=lit _ h4;replace h5:=lit _ h5;replace h6:=lit _ h6;replace h7:=lit _ h7;replace h8:=lit _ h8;replace h9:=lit _ h9;replace h10:=lit _ h10;replace h11:=lit _ h11;replace h12:=lit _ h12;replace h13:=lit _ h13;clear e lit;go_enter Tryz.func65,Tryz.ntmps65;go_wp2;go_ret;exact ⟨rfl,Below.refl _ _⟩
theorem Amw (w:World)(o a b k0 k1 k2 k3 k4 k5:Value):∃ W,W=w.alloc (.cells #[o,a,b,k0,k1,k2,k3,k4,k5] 52)∧Kept w W∧W.heap[w.heap.size]?=some (.cells #[o,a,b,k0,k1,k2,k3,k4,k5] 52 (0,0))∧w.heap.size<W.heap.size :=
 ⟨_,rfl,Ad _ _,heap_alloc_new _ _,by simp⟩
theorem Bo {x0 x1 x2 x3 x4 x5 x6 x7 x8:Value}(h:w.heap[b]?=some (.cells #[x0,x1,x2,x3,x4,x5,x6,x7,x8] T (0,0))):w.cell? ⟨b,0,none⟩=some x0∧w.cell? ⟨b,1,none⟩=some x1∧w.cell? ⟨b,2,none⟩=some x2 ∧
 w.cell? ⟨b,3,none⟩=some x3∧w.cell? ⟨b,4,none⟩=some x4∧w.cell? ⟨b,5,none⟩=some x5∧w.cell? ⟨b,6,none⟩=some x6∧w.cell? ⟨b,7,none⟩=some x7∧w.cell? ⟨b,8,none⟩=some x8 :=
 ⟨Ae h 0 _ rfl,Ae h 1 _ rfl,Ae h 2 _ rfl,Ae h 3 _ rfl,Ae h 4 _ rfl,Ae h 5 _ rfl,Ae h 6 _ rfl,Ae h 7 _ rfl,Ae h 8 _ rfl⟩
theorem Af7 (a b i x u p:Int)(k:RawI):Gj ⟨1,a,b,k⟩ i x u p=(Fh k&&(a==0)&&(b==0)):=by
 unfold Gj;rw [if_pos rfl,Bool.and_assoc];rfl
theorem Adr {a b i x u:Int}(h1:op≠1)(h:U9 k rzI=false):Gj ⟨op,a,b,k⟩ i x u p=false:=by
 unfold Gj;rw [if_neg h1,if_pos h]
theorem Adq {a b i x u:Int}(h1:op≠1)(h:U9 k rzI=true):Gj ⟨op,a,b,k⟩ i x u p =
 if op=2 then (a==0)&&(b==0) else if isP op=true then Bw a (Sr op x u p)&&(b==0) else if Fj op=2 then Bw a i&&Bw b i else if Fj op=1 then Bw a i&&(b==0) else false:=by
 unfold Gj;simp only [];rw [if_neg h1,if_neg (by rw [h];decide)];by_cases h2:op=2
 ·rw [if_pos h2,if_pos h2];rfl
 ·rw [if_neg h2, if_neg h2];by_cases h3:op=3
  ·subst h3;rfl
  ·rw [if_neg h3];by_cases h4:op=4
   ·subst h4;rfl
   ·rw [if_neg h4];by_cases h5:op=5
    ·subst h5;rfl
    ·rw [if_neg h5];have e:isP op=false:=by unfold isP;simp [h3,h4,h5]
     rw [e];simp only [Bool.false_eq_true,if_false];have d0:¬(op=1∨op=2∨op=3∨op=4∨op=5):=by omega
     unfold Fj;rw [if_neg d0];by_cases h6:op=6∨op=7∨op=8∨op=9
     ·rw [if_pos h6,if_pos h6,if_pos rfl]
     ·rw [if_neg h6,if_neg h6];by_cases h10:op=10∨op=11∨op=12∨op=13
      ·rw [if_pos h10,if_pos h10,if_neg (by decide),if_pos rfl];rfl
      ·rw [if_neg h10,if_neg h10,if_neg (by decide),if_neg (by decide)]
theorem Ads {a b i x u:Int}{z0 z1 z2 z3 z4 z5 m:Value}(hk:IvR w (.agg #[z0,z1,z2,z3,z4,z5]) k)(hl:k.lens 17592186044416)(hm:MapR w m x u p)
 (o1:-9223372036854775808≤op) (o2:op≤9223372036854775807) :
 Calls Tryz.prog 84 #[.agg #[.int .i64 op,.int .i64 a,.int .i64 b,z0,z1,z2,z3,z4,z5],.int .i64 i,m] w (RetK (.bool (Gj ⟨op,a,b,k⟩ i x u p)) w):=by
 have MK:=hid (fun w1 (q:Kept w w1)=>Wb (hk.kept q) hl);have MS:=hid (fun w1 (q:Kept w w1)=>Aiv (hk.kept q) (Ep w1) hl);have ML:=hid (fun w1 (q:Kept w w1)=>(hm.kept q).look o1 o2);obtain ⟨bm,n,rfl,-⟩:=hm;obtain ⟨W,hW,kW,BL,lW⟩:=Amw w (.int .i64 op) (.int .i64 a) (.int .i64 b) z0 z1 z2 z3 z4 z5;have HW:=hid hW;have K:=hid kW;have HB:=hid BL;clear hk hl o1 o2 hW kW BL;obtain ⟨fa,hfa⟩:∃ f,(a==0)=f:=⟨_,rfl⟩;obtain ⟨fb,hfb⟩:∃ f,(b==0)=f:=⟨_,rfl⟩;by_cases h1:op=1
 ·subst h1;rw [Af7,hfa,hfb];obtain ⟨mk,hmk⟩:∃ f,Fh k=f:=⟨_,rfl⟩;rw [hmk] at MK ⊢;have FA:=hid hfa;have FB:=hid hfb;clear hmk hfa hfb MS ML;go_enter Tryz.func84,Tryz.ntmps84;go_upto_region 1 with fail;rw [←HW.out];obtain ⟨c0,c1,c2,c3,c4,c5,c6,c7,c8⟩:=Bo HB.out;go_upto_region 2 with fail;clear c0 c1 c2 c3 c4 c5 c6 c7 c8
  refine rS 14 ([(vP w.heap.size 3),(vE (.agg #[z0,z1,z2,z3,z4,z5])),(vE (.bool mk)),(vE (.bool mk)),(fun v wv=>(mk=true→(fun v _=>v=(.pointer (some ⟨w.heap.size,1,none⟩))) v wv)∧(mk=false→v=undef)),(fun v wv=>(mk=true→(fun v _=>v=(.int .i64 a)) v wv)∧(mk=false→v=undef)),(fun v wv=>(mk=true→(fun v _=>v=(.bool fa)) v wv)∧(mk=false→v=undef)),(vE (.bool (mk&&fa))),(vE (.bool (mk&&fa))),(fun v wv=>((mk&&fa)=true→(fun v _=>v=(.pointer (some ⟨w.heap.size,2,none⟩))) v wv)∧((mk&&fa)=false→v=undef)),(fun v wv=>((mk&&fa)=true→(fun v _=>v=(.int .i64 b)) v wv)∧((mk&&fa)=false→v=undef)),(fun v wv=>((mk&&fa)=true→(fun v _=>v=(.bool fb)) v wv)∧((mk&&fa)=false→v=undef)),(vE (.bool (mk&&fa&&fb))),(vE (.bool (mk&&fa&&fb)))])
   ⟨
    (gq 3),(fun aF wF F=>by have s13:=F.v 0 13;have c0:=Ai HB.out F.kept 3 _ rfl;have c1:=Ai HB.out F.kept 4 _ rfl;have c2:=Ai HB.out F.kept 5 _ rfl;have c3:=Ai HB.out F.kept 6 _ rfl;have c4:=Ai HB.out F.kept 7 _ rfl;have c5:=Ai HB.out F.kept 8 _ rfl;exact sv rfl),(fun aF wF F=>by have s14:=F.v 1 14;exact sK (MK.out _ (K.out.trans F.kept)) fun _ _ h=>h),(gv 2 15),
    (fun aF wF F=>by
   have sg:=F.v 3 16;have s3:=F.q 3 (.pointer (some ⟨w.heap.size,0,none⟩));rcases Bl mk with hC | hC
   ·refine sIm hC (vE (.pointer (some ⟨w.heap.size,1,none⟩))) ?_;exact sVc rfl rfl sg (by first | rfl | simp [hC])
   ·exact sOc rfl rfl sg (by first | rfl | simp [hC]) (nW hC)),
    (fun aF wF F=>by
   have sg:=F.v 3 16;have s17:(mk=true→aF.tmps.getD 17 undef=(.pointer (some ⟨w.heap.size,1,none⟩)))∧(mk=false→aF.tmps.getD 17 undef=undef):=F.done 4 17 (by kernel_rfl) rfl;have c0:=Ai HB.out F.kept 1 _ rfl;rcases Bl mk with hC | hC
   ·refine sIm hC (vE (.int .i64 a)) ?_;replace s17:=s17.1 hC;exact sVc rfl rfl sg (by first | rfl | simp [hC])
   ·exact sOc rfl rfl sg (by first | rfl | simp [hC]) (nW hC)),
    (fun aF wF F=>by
   have sg:=F.v 3 16;have s18:(mk=true→aF.tmps.getD 18 undef=(.int .i64 a))∧(mk=false→aF.tmps.getD 18 undef=undef):=F.done 5 18 (by kernel_rfl) rfl;rcases Bl mk with hC | hC
   ·refine sIm hC (vE (.bool fa)) ?_;replace s18:=s18.1 hC;exact Ar ((Aj rfl rfl sg).trans (by first | rfl | simp [hC])) (by (go_simp;exact FA.out)) rfl
   ·exact sOc rfl rfl sg (by first | rfl | simp [hC]) (nW hC)),
    (fun aF wF F=>by
   have s16:=F.v 3 16;have s19:(mk=true→aF.tmps.getD 19 undef=(.bool fa))∧(mk=false→aF.tmps.getD 19 undef=undef):=F.done 6 19 (by kernel_rfl) rfl;rcases Bl mk with hE | hE
   ·replace s19:=s19.1 hE;exact sw (by first | (go_simp;done) | (go_simp;simp_all;done) | (simp_all;done)) rfl
   ·exact sw (by first | (go_simp;done) | (go_simp;simp_all;done) | (simp_all;done)) rfl),(gv 7 20),
    (fun aF wF F=>by
   have sg:=F.v 8 21;have s3:=F.q 3 (.pointer (some ⟨w.heap.size,0,none⟩));rcases Bl (mk&&fa) with hC | hC
   ·refine sIm hC (vE (.pointer (some ⟨w.heap.size,2,none⟩))) ?_;exact sVc rfl rfl sg (by first | rfl | simp [hC])
   ·exact sOc rfl rfl sg (by first | rfl | simp [hC]) (nW hC)),
    (fun aF wF F=>by
   have sg:=F.v 8 21;have s22:((mk&&fa)=true→aF.tmps.getD 22 undef=(.pointer (some ⟨w.heap.size,2,none⟩)))∧((mk&&fa)=false→aF.tmps.getD 22 undef=undef):=F.done 9 22 (by kernel_rfl) rfl;have c0:=Ai HB.out F.kept 2 _ rfl;rcases Bl (mk&&fa) with hC | hC
   ·refine sIm hC (vE (.int .i64 b)) ?_;replace s22:=s22.1 hC;exact sVc rfl rfl sg (by first | rfl | simp [hC])
   ·exact sOc rfl rfl sg (by first | rfl | simp [hC]) (nW hC)),
    (fun aF wF F=>by
   have sg:=F.v 8 21;have s23:((mk&&fa)=true→aF.tmps.getD 23 undef=(.int .i64 b))∧((mk&&fa)=false→aF.tmps.getD 23 undef=undef):=F.done 10 23 (by kernel_rfl) rfl;rcases Bl (mk&&fa) with hC | hC
   ·refine sIm hC (vE (.bool fb)) ?_;replace s23:=s23.1 hC;exact Ar ((Aj rfl rfl sg).trans (by first | rfl | simp [hC])) (by (go_simp;exact FB.out)) rfl
   ·exact sOc rfl rfl sg (by first | rfl | simp [hC]) (nW hC)),
    (fun aF wF F=>by
   have s21:=F.v 8 21;have s24:((mk&&fa)=true→aF.tmps.getD 24 undef=(.bool fb))∧((mk&&fa)=false→aF.tmps.getD 24 undef=undef):=F.done 11 24 (by kernel_rfl) rfl;rcases Bl (mk&&fa) with hE | hE
   ·replace s24:=s24.1 hE;exact sw (by first | (go_simp;done) | (go_simp;simp_all;done) | (simp_all;done)) rfl
   ·exact sw (by first | (go_simp;done) | (go_simp;simp_all;done) | (simp_all;done)) rfl),(gv 12 25),
    trivial⟩ ?_
  intro u w1 k1 hu;have p17:=hp hu 4;have p18:=hp hu 5;have p19:=hp hu 6;have p22:=hp hu 9;have p23:=hp hu 10;have p24:=hp hu 11;simp only [Ax,Al,if_true,Act.put,zlA,zlB,zlC,zlD,zlE,zlF,zlG,hv hu 0,hv hu 1,hv hu 2,hv hu 3,hv hu 7,hv hu 8,hv hu 12,hv hu 13];clear hu;generalize u 4=v17,u 5=v18,u 6=v19,u 9=v22,u 10=v23,u 11=v24 at *;go_wp2_with fail;go_ret;exact ⟨rfl,K.out.trans k1⟩
 have g1:(op==1)=false:=by simp [h1]
 obtain ⟨fs,hfs⟩:∃ f,U9 k rzI=f:=⟨_,rfl⟩;have MS2:=hid (fun w1 (q:Kept w w1)=>show Calls Tryz.prog 119 _ w1 (RetK (.bool fs) w1) by rw [←hfs];exact MS.out w1 q);have em:Gj ⟨op,a,b,k⟩ i x u p=if fs=false then false else if op=2 then fa&&fb else if isP op=true then Bw a (Sr op x u p)&&fb else if Fj op=2 then Bw a i&&Bw b i else if Fj op=1 then Bw a i&&fb else false:=by
  rw [←hfs,←hfa,←hfb];cases hs:U9 k rzI
  ·rw [Adr h1 hs,if_pos rfl]
  ·rw [Adq h1 hs];rfl
 have FA:=hid hfa;have FB:=hid hfb;clear hfs hfa hfb MK MS h1;obtain ⟨ip,hip⟩:∃ f,isP op=f:=⟨_,rfl⟩;obtain ⟨mm,hmm⟩:∃ f,Sr op x u p=f:=⟨_,rfl⟩;obtain ⟨pp,hpp⟩:∃ f,Fj op=f:=⟨_,rfl⟩;rw [hip,hmm] at ML;rw [hip,hmm,hpp] at em;have HP:=hid (fun w1=>show Calls Tryz.prog 65 #[.int .i64 op] w1 (RetK (.int .i64 pp) w1) by rw [←hpp];exact Ajm op w1);clear hip hmm hpp;cases fs
 ·rw [if_pos rfl] at em;rw [em];clear em;go_enter Tryz.func84,Tryz.ntmps84;go_upto_region 1 with fail;rw [←HW.out];obtain ⟨c0,c1,c2,c3,c4,c5,c6,c7,c8⟩:=Bo HB.out;go_wp2_with fail;refine (MS2.out _ K.out).mono ?_;rintro e w1 ⟨rfl,q⟩;replace K:=hid (K.out.trans q);have hb1:=(q.block _ (Array.getElem?_eq_some_iff.1 HB.out).1).trans HB.out;replace HB:=hid hb1;clear c0 c1 c2 c3 c4 c5 c6 c7 c8 q hb1 HW MS2;obtain ⟨c0,c1,c2,c3,c4,c5,c6,c7,c8⟩:=Bo HB.out;simp only [];go_wp2_with fail;go_ret;exact ⟨rfl,K.out⟩
 rw [if_neg (by decide)] at em;by_cases h2:op=2
 ·subst h2;rw [if_pos rfl] at em;rw [em];clear em;go_enter Tryz.func84,Tryz.ntmps84;go_upto_region 1 with fail;rw [←HW.out];obtain ⟨c0,c1,c2,c3,c4,c5,c6,c7,c8⟩:=Bo HB.out;go_wp2_with fail;refine (MS2.out _ K.out).mono ?_;rintro e w1 ⟨rfl,q⟩;replace K:=hid (K.out.trans q);have hb1:=(q.block _ (Array.getElem?_eq_some_iff.1 HB.out).1).trans HB.out;replace HB:=hid hb1;clear c0 c1 c2 c3 c4 c5 c6 c7 c8 q hb1 HW MS2;obtain ⟨c0,c1,c2,c3,c4,c5,c6,c7,c8⟩:=Bo HB.out;simp only [];have hlk:=ML.out w1 K.out;clear ML;go_wp2_with fail;refine (HP.out w1).mono ?_;rintro e w2 ⟨rfl,q⟩;replace K:=hid (K.out.trans q)
  have hb1:=(q.block _ (Array.getElem?_eq_some_iff.1 HB.out).1).trans HB.out;replace HB:=hid hb1;clear c0 c1 c2 c3 c4 c5 c6 c7 c8 q hb1 HP hlk;obtain ⟨c0,c1,c2,c3,c4,c5,c6,c7,c8⟩:=Bo HB.out;simp only [];go_upto_region 8 with fail;clear c0 c1 c2 c3 c4 c5 c6 c7 c8
  refine rS 9 ([(vP w.heap.size 1),(vE (.int .i64 a)),(vE (.bool fa)),(vE (.bool fa)),(fun v wv=>(fa=true→(fun v _=>v=(.pointer (some ⟨w.heap.size,2,none⟩))) v wv)∧(fa=false→v=undef)),(fun v wv=>(fa=true→(fun v _=>v=(.int .i64 b)) v wv)∧(fa=false→v=undef)),(fun v wv=>(fa=true→(fun v _=>v=(.bool fb)) v wv)∧(fa=false→v=undef)),(vE (.bool (fa&&fb))),(vE (.bool (fa&&fb)))])
   ⟨
    (gq 3),(gvl 0 45 fun _ k=>Ai HB.out k 1 _ rfl),(fun aF wF F=>by have s46:=F.v 1 46;exact sw (by (go_simp;exact FA.out)) rfl),(gv 2 47),
    (fun aF wF F=>by
   have sg:=F.v 3 48;have s3:=F.q 3 (.pointer (some ⟨w.heap.size,0,none⟩));rcases Bl fa with hC | hC
   ·refine sIm hC (vE (.pointer (some ⟨w.heap.size,2,none⟩))) ?_;exact sVc rfl rfl sg (by first | rfl | simp [hC])
   ·exact sOc rfl rfl sg (by first | rfl | simp [hC]) (nW hC)),
    (fun aF wF F=>by
   have sg:=F.v 3 48;have s49:(fa=true→aF.tmps.getD 49 undef=(.pointer (some ⟨w.heap.size,2,none⟩)))∧(fa=false→aF.tmps.getD 49 undef=undef):=F.done 4 49 (by kernel_rfl) rfl;have c0:=Ai HB.out F.kept 2 _ rfl;rcases Bl fa with hC | hC
   ·refine sIm hC (vE (.int .i64 b)) ?_;replace s49:=s49.1 hC;exact sVc rfl rfl sg (by first | rfl | simp [hC])
   ·exact sOc rfl rfl sg (by first | rfl | simp [hC]) (nW hC)),
    (fun aF wF F=>by
   have sg:=F.v 3 48;have s50:(fa=true→aF.tmps.getD 50 undef=(.int .i64 b))∧(fa=false→aF.tmps.getD 50 undef=undef):=F.done 5 50 (by kernel_rfl) rfl;rcases Bl fa with hC | hC
   ·refine sIm hC (vE (.bool fb)) ?_;replace s50:=s50.1 hC;exact Ar ((Aj rfl rfl sg).trans (by first | rfl | simp [hC])) (by (go_simp;exact FB.out)) rfl
   ·exact sOc rfl rfl sg (by first | rfl | simp [hC]) (nW hC)),
    (fun aF wF F=>by
   have s48:=F.v 3 48;have s51:(fa=true→aF.tmps.getD 51 undef=(.bool fb))∧(fa=false→aF.tmps.getD 51 undef=undef):=F.done 6 51 (by kernel_rfl) rfl;rcases Bl fa with hE | hE
   ·replace s51:=s51.1 hE;exact sw (by first | (go_simp;done) | (go_simp;simp_all;done) | (simp_all;done)) rfl
   ·exact sw (by first | (go_simp;done) | (go_simp;simp_all;done) | (simp_all;done)) rfl),(gv 7 52),
    trivial⟩ ?_
  intro u w1 k1 hu;have p49:=hp hu 4;have p50:=hp hu 5;have p51:=hp hu 6;simp only [Ax,Al,if_true,Act.put,zlA,zlB,zlC,zlD,zlE,zlF,zlG,hv hu 0,hv hu 1,hv hu 2,hv hu 3,hv hu 7,hv hu 8];clear hu;generalize u 4=v49,u 5=v50,u 6=v51 at *;go_wp2_with fail;go_ret;exact ⟨rfl,K.out.trans k1⟩
 have g2:(op==2)=false:=by simp [h2]
 rw [if_neg h2] at em;clear h2;cases ip
 ·rw [if_neg (by decide)] at em;by_cases p2:pp=2
  ·subst p2;rw [if_pos rfl] at em;rw [em];clear em;obtain ⟨ba,hba⟩:∃ f,Bw a i=f:=⟨_,rfl⟩;obtain ⟨bb,hbb⟩:∃ f,Bw b i=f:=⟨_,rfl⟩;have BA:=hid (fun w1=>O0 a i w1);have BB:=hid (fun w1=>O0 b i w1);rw [hba] at BA ⊢;rw [hbb] at BB ⊢;clear hba hbb;go_enter Tryz.func84,Tryz.ntmps84;go_upto_region 1 with fail;rw [←HW.out];obtain ⟨c0,c1,c2,c3,c4,c5,c6,c7,c8⟩:=Bo HB.out;go_wp2_with fail;refine (MS2.out _ K.out).mono ?_;rintro e w1 ⟨rfl,q⟩;replace K:=hid (K.out.trans q);have hb1:=(q.block _ (Array.getElem?_eq_some_iff.1 HB.out).1).trans HB.out;replace HB:=hid hb1;clear c0 c1 c2 c3 c4 c5 c6 c7 c8 q hb1 HW MS2
   obtain ⟨c0,c1,c2,c3,c4,c5,c6,c7,c8⟩:=Bo HB.out;simp only [];have hlk:=ML.out w1 K.out;clear ML;go_wp2_with fail;refine (HP.out w1).mono ?_;rintro e w2 ⟨rfl,q⟩;replace K:=hid (K.out.trans q);have hb1:=(q.block _ (Array.getElem?_eq_some_iff.1 HB.out).1).trans HB.out;replace HB:=hid hb1;clear c0 c1 c2 c3 c4 c5 c6 c7 c8 q hb1 HP hlk;obtain ⟨c0,c1,c2,c3,c4,c5,c6,c7,c8⟩:=Bo HB.out;simp only [];go_upto_region 12 with fail;clear c0 c1 c2 c3 c4 c5 c6 c7 c8
   refine rS 11 ([(vP w.heap.size 1),(vE (.int .i64 a)),(vE (.int .i64 i)),(vE (.bool ba)),(vE (.bool ba)),(fun v wv=>(ba=true→(fun v _=>v=(.pointer (some ⟨w.heap.size,2,none⟩))) v wv)∧(ba=false→v=undef)),(fun v wv=>(ba=true→(fun v _=>v=(.int .i64 b)) v wv)∧(ba=false→v=undef)),(fun v wv=>(ba=true→(fun v _=>v=(.int .i64 i)) v wv)∧(ba=false→v=undef)),(fun v wv=>(ba=true→(fun v _=>v=(.bool bb)) v wv)∧(ba=false→v=undef)),(vE (.bool (ba&&bb))),(vE (.bool (ba&&bb)))])
    ⟨
     (gq 3),(gvl 0 67 fun _ k=>Ai HB.out k 1 _ rfl),(gq 1),(fun aF wF F=>by have s68:=F.v 1 68;have s69:=F.v 2 69;exact sK (BA.out _) fun _ _ h=>h),(gv 3 70),
     (fun aF wF F=>by
    have sg:=F.v 4 71;have s3:=F.q 3 (.pointer (some ⟨w.heap.size,0,none⟩));rcases Bl ba with hC | hC
    ·refine sIm hC (vE (.pointer (some ⟨w.heap.size,2,none⟩))) ?_;exact sVc rfl rfl sg (by first | rfl | simp [hC])
    ·exact sOc rfl rfl sg (by first | rfl | simp [hC]) (nW hC)),
     (fun aF wF F=>by
    have sg:=F.v 4 71;have s72:(ba=true→aF.tmps.getD 72 undef=(.pointer (some ⟨w.heap.size,2,none⟩)))∧(ba=false→aF.tmps.getD 72 undef=undef):=F.done 5 72 (by kernel_rfl) rfl;have c0:=Ai HB.out F.kept 2 _ rfl;rcases Bl ba with hC | hC
    ·refine sIm hC (vE (.int .i64 b)) ?_;replace s72:=s72.1 hC;exact sVc rfl rfl sg (by first | rfl | simp [hC])
    ·exact sOc rfl rfl sg (by first | rfl | simp [hC]) (nW hC)),
     (fun aF wF F=>by
    have sg:=F.v 4 71;have s1:=F.q 1 (.int .i64 i);rcases Bl ba with hC | hC
    ·refine sIm hC (vE (.int .i64 i)) ?_;exact sVc rfl rfl sg (by first | rfl | simp [hC])
    ·exact sOc rfl rfl sg (by first | rfl | simp [hC]) (nW hC)),
     (fun aF wF F=>by
    have sg:=F.v 4 71;have s73:(ba=true→aF.tmps.getD 73 undef=(.int .i64 b))∧(ba=false→aF.tmps.getD 73 undef=undef):=F.done 6 73 (by kernel_rfl) rfl;have s74:(ba=true→aF.tmps.getD 74 undef=(.int .i64 i))∧(ba=false→aF.tmps.getD 74 undef=undef):=F.done 7 74 (by kernel_rfl) rfl;rcases Bl ba with hC | hC
    ·refine sIm hC (vE (.bool bb)) ?_;replace s73:=s73.1 hC;replace s74:=s74.1 hC;exact Av ((Aj rfl rfl sg).trans (by first | rfl | simp [hC])) (by go_simp) (BB.out _) (fun _ _ h=>RetK.good h) (fun _ _ h=>h)
    ·exact sOc rfl rfl sg (by first | rfl | simp [hC]) (nW hC)),
     (fun aF wF F=>by
    have s71:=F.v 4 71;have s75:(ba=true→aF.tmps.getD 75 undef=(.bool bb))∧(ba=false→aF.tmps.getD 75 undef=undef):=F.done 8 75 (by kernel_rfl) rfl;rcases Bl ba with hE | hE
    ·replace s75:=s75.1 hE;exact sw (by first | (go_simp;done) | (go_simp;simp_all;done) | (simp_all;done)) rfl
    ·exact sw (by first | (go_simp;done) | (go_simp;simp_all;done) | (simp_all;done)) rfl),(gv 9 76),
     trivial⟩ ?_
   intro u w1 k1 hu;have p72:=hp hu 5;have p73:=hp hu 6;have p74:=hp hu 7;have p75:=hp hu 8;simp only [Ax,Al,if_true,Act.put,zlA,zlB,zlC,zlD,zlE,zlF,zlG,hv hu 0,hv hu 1,hv hu 2,hv hu 3,hv hu 4,hv hu 9,hv hu 10];clear hu;generalize u 5=v72,u 6=v73,u 7=v74,u 8=v75 at *;go_wp2_with fail;go_ret;exact ⟨rfl,K.out.trans k1⟩
  have q2:(pp==2)=false:=by simp [p2]
  rw [if_neg p2] at em;clear p2;by_cases p1:pp=1
  ·subst p1;rw [if_pos rfl] at em;rw [em];clear em;obtain ⟨ba,hba⟩:∃ f,Bw a i=f:=⟨_,rfl⟩;have BA:=hid (fun w1=>O0 a i w1);rw [hba] at BA ⊢;clear hba;go_enter Tryz.func84,Tryz.ntmps84;go_upto_region 1 with fail;rw [←HW.out];obtain ⟨c0,c1,c2,c3,c4,c5,c6,c7,c8⟩:=Bo HB.out;go_wp2_with fail;refine (MS2.out _ K.out).mono ?_;rintro e w1 ⟨rfl,q⟩;replace K:=hid (K.out.trans q);have hb1:=(q.block _ (Array.getElem?_eq_some_iff.1 HB.out).1).trans HB.out;replace HB:=hid hb1;clear c0 c1 c2 c3 c4 c5 c6 c7 c8 q hb1 HW MS2;obtain ⟨c0,c1,c2,c3,c4,c5,c6,c7,c8⟩:=Bo HB.out;simp only [];have hlk:=ML.out w1 K.out
   clear ML;go_wp2_with fail;refine (HP.out w1).mono ?_;rintro e w2 ⟨rfl,q⟩;replace K:=hid (K.out.trans q);have hb1:=(q.block _ (Array.getElem?_eq_some_iff.1 HB.out).1).trans HB.out;replace HB:=hid hb1;clear c0 c1 c2 c3 c4 c5 c6 c7 c8 q hb1 HP hlk;obtain ⟨c0,c1,c2,c3,c4,c5,c6,c7,c8⟩:=Bo HB.out;simp only [];go_upto_region 14 with fail;clear c0 c1 c2 c3 c4 c5 c6 c7 c8
   refine rS 10 ([(vP w.heap.size 1),(vE (.int .i64 a)),(vE (.int .i64 i)),(vE (.bool ba)),(vE (.bool ba)),(fun v wv=>(ba=true→(fun v _=>v=(.pointer (some ⟨w.heap.size,2,none⟩))) v wv)∧(ba=false→v=undef)),(fun v wv=>(ba=true→(fun v _=>v=(.int .i64 b)) v wv)∧(ba=false→v=undef)),(fun v wv=>(ba=true→(fun v _=>v=(.bool fb)) v wv)∧(ba=false→v=undef)),(vE (.bool (ba&&fb))),(vE (.bool (ba&&fb)))])
    ⟨
     (gq 3),(gvl 0 80 fun _ k=>Ai HB.out k 1 _ rfl),(gq 1),(fun aF wF F=>by have s81:=F.v 1 81;have s82:=F.v 2 82;exact sK (BA.out _) fun _ _ h=>h),(gv 3 83),
     (fun aF wF F=>by
    have sg:=F.v 4 84;have s3:=F.q 3 (.pointer (some ⟨w.heap.size,0,none⟩));rcases Bl ba with hC | hC
    ·refine sIm hC (vE (.pointer (some ⟨w.heap.size,2,none⟩))) ?_;exact sVc rfl rfl sg (by first | rfl | simp [hC])
    ·exact sOc rfl rfl sg (by first | rfl | simp [hC]) (nW hC)),
     (fun aF wF F=>by
    have sg:=F.v 4 84;have s85:(ba=true→aF.tmps.getD 85 undef=(.pointer (some ⟨w.heap.size,2,none⟩)))∧(ba=false→aF.tmps.getD 85 undef=undef):=F.done 5 85 (by kernel_rfl) rfl;have c0:=Ai HB.out F.kept 2 _ rfl;rcases Bl ba with hC | hC
    ·refine sIm hC (vE (.int .i64 b)) ?_;replace s85:=s85.1 hC;exact sVc rfl rfl sg (by first | rfl | simp [hC])
    ·exact sOc rfl rfl sg (by first | rfl | simp [hC]) (nW hC)),
     (fun aF wF F=>by
    have sg:=F.v 4 84;have s86:(ba=true→aF.tmps.getD 86 undef=(.int .i64 b))∧(ba=false→aF.tmps.getD 86 undef=undef):=F.done 6 86 (by kernel_rfl) rfl;rcases Bl ba with hC | hC
    ·refine sIm hC (vE (.bool fb)) ?_;replace s86:=s86.1 hC;exact Ar ((Aj rfl rfl sg).trans (by first | rfl | simp [hC])) (by (go_simp;exact FB.out)) rfl
    ·exact sOc rfl rfl sg (by first | rfl | simp [hC]) (nW hC)),
     (fun aF wF F=>by
    have s84:=F.v 4 84;have s87:(ba=true→aF.tmps.getD 87 undef=(.bool fb))∧(ba=false→aF.tmps.getD 87 undef=undef):=F.done 7 87 (by kernel_rfl) rfl;rcases Bl ba with hE | hE
    ·replace s87:=s87.1 hE;exact sw (by first | (go_simp;done) | (go_simp;simp_all;done) | (simp_all;done)) rfl
    ·exact sw (by first | (go_simp;done) | (go_simp;simp_all;done) | (simp_all;done)) rfl),(gv 8 88),
     trivial⟩ ?_
   intro u w1 k1 hu;have p85:=hp hu 5;have p86:=hp hu 6;have p87:=hp hu 7;simp only [Ax,Al,if_true,Act.put,zlA,zlB,zlC,zlD,zlE,zlF,zlG,hv hu 0,hv hu 1,hv hu 2,hv hu 3,hv hu 4,hv hu 8,hv hu 9];clear hu;generalize u 5=v85,u 6=v86,u 7=v87 at *;go_wp2_with fail;go_ret;exact ⟨rfl,K.out.trans k1⟩
  have q1:(pp==1)=false:=by simp [p1]
  rw [if_neg p1] at em;rw [em];clear em;go_enter Tryz.func84,Tryz.ntmps84;go_upto_region 1 with fail;rw [←HW.out];obtain ⟨c0,c1,c2,c3,c4,c5,c6,c7,c8⟩:=Bo HB.out;go_wp2_with fail;refine (MS2.out _ K.out).mono ?_;rintro e w1 ⟨rfl,q⟩;replace K:=hid (K.out.trans q);have hb1:=(q.block _ (Array.getElem?_eq_some_iff.1 HB.out).1).trans HB.out;replace HB:=hid hb1;clear c0 c1 c2 c3 c4 c5 c6 c7 c8 q hb1 HW MS2;obtain ⟨c0,c1,c2,c3,c4,c5,c6,c7,c8⟩:=Bo HB.out;simp only [];have hlk:=ML.out w1 K.out;clear ML;go_wp2_with fail;refine (HP.out w1).mono ?_;rintro e w2 ⟨rfl,q⟩;replace K:=hid (K.out.trans q)
  have hb1:=(q.block _ (Array.getElem?_eq_some_iff.1 HB.out).1).trans HB.out;replace HB:=hid hb1;clear c0 c1 c2 c3 c4 c5 c6 c7 c8 q hb1 HP hlk;obtain ⟨c0,c1,c2,c3,c4,c5,c6,c7,c8⟩:=Bo HB.out;simp only [];go_wp2_with fail;go_ret;exact ⟨rfl,K.out⟩
 ·rw [if_pos rfl] at em;rw [em];clear em;obtain ⟨ba,hba⟩:∃ f,Bw a mm=f:=⟨_,rfl⟩;have BA:=hid (fun w1=>O0 a mm w1);rw [hba] at BA ⊢;clear hba;go_enter Tryz.func84,Tryz.ntmps84;go_upto_region 1 with fail;rw [←HW.out];obtain ⟨c0,c1,c2,c3,c4,c5,c6,c7,c8⟩:=Bo HB.out;go_wp2_with fail;refine (MS2.out _ K.out).mono ?_;rintro e w1 ⟨rfl,q⟩;replace K:=hid (K.out.trans q);have hb1:=(q.block _ (Array.getElem?_eq_some_iff.1 HB.out).1).trans HB.out;replace HB:=hid hb1;clear c0 c1 c2 c3 c4 c5 c6 c7 c8 q hb1 HW MS2;obtain ⟨c0,c1,c2,c3,c4,c5,c6,c7,c8⟩:=Bo HB.out;simp only [];have hlk:=ML.out w1 K.out
  clear ML;go_wp2_with fail;refine (HP.out w1).mono ?_;rintro e w2 ⟨rfl,q⟩;replace K:=hid (K.out.trans q);have hb1:=(q.block _ (Array.getElem?_eq_some_iff.1 HB.out).1).trans HB.out;replace HB:=hid hb1;clear c0 c1 c2 c3 c4 c5 c6 c7 c8 q hb1 HP hlk;obtain ⟨c0,c1,c2,c3,c4,c5,c6,c7,c8⟩:=Bo HB.out;simp only [];go_upto_region 10 with fail;clear c0 c1 c2 c3 c4 c5 c6 c7 c8
  refine rS 10 ([(vP w.heap.size 1),(vE (.int .i64 a)),(vE (.int .i64 mm)),(vE (.bool ba)),(vE (.bool ba)),(fun v wv=>(ba=true→(fun v _=>v=(.pointer (some ⟨w.heap.size,2,none⟩))) v wv)∧(ba=false→v=undef)),(fun v wv=>(ba=true→(fun v _=>v=(.int .i64 b)) v wv)∧(ba=false→v=undef)),(fun v wv=>(ba=true→(fun v _=>v=(.bool fb)) v wv)∧(ba=false→v=undef)),(vE (.bool (ba&&fb))),(vE (.bool (ba&&fb)))])
   ⟨
    (gq 3),(gvl 0 55 fun _ k=>Ai HB.out k 1 _ rfl),(gq 7),(fun aF wF F=>by have s56:=F.v 1 56;have s57:=F.v 2 57;exact sK (BA.out _) fun _ _ h=>h),(gv 3 58),
    (fun aF wF F=>by
   have sg:=F.v 4 59;have s3:=F.q 3 (.pointer (some ⟨w.heap.size,0,none⟩));rcases Bl ba with hC | hC
   ·refine sIm hC (vE (.pointer (some ⟨w.heap.size,2,none⟩))) ?_;exact sVc rfl rfl sg (by first | rfl | simp [hC])
   ·exact sOc rfl rfl sg (by first | rfl | simp [hC]) (nW hC)),
    (fun aF wF F=>by
   have sg:=F.v 4 59;have s60:(ba=true→aF.tmps.getD 60 undef=(.pointer (some ⟨w.heap.size,2,none⟩)))∧(ba=false→aF.tmps.getD 60 undef=undef):=F.done 5 60 (by kernel_rfl) rfl;have c0:=Ai HB.out F.kept 2 _ rfl;rcases Bl ba with hC | hC
   ·refine sIm hC (vE (.int .i64 b)) ?_;replace s60:=s60.1 hC;exact sVc rfl rfl sg (by first | rfl | simp [hC])
   ·exact sOc rfl rfl sg (by first | rfl | simp [hC]) (nW hC)),
    (fun aF wF F=>by
   have sg:=F.v 4 59;have s61:(ba=true→aF.tmps.getD 61 undef=(.int .i64 b))∧(ba=false→aF.tmps.getD 61 undef=undef):=F.done 6 61 (by kernel_rfl) rfl;rcases Bl ba with hC | hC
   ·refine sIm hC (vE (.bool fb)) ?_;replace s61:=s61.1 hC;exact Ar ((Aj rfl rfl sg).trans (by first | rfl | simp [hC])) (by (go_simp;exact FB.out)) rfl
   ·exact sOc rfl rfl sg (by first | rfl | simp [hC]) (nW hC)),
    (fun aF wF F=>by
   have s59:=F.v 4 59;have s62:(ba=true→aF.tmps.getD 62 undef=(.bool fb))∧(ba=false→aF.tmps.getD 62 undef=undef):=F.done 7 62 (by kernel_rfl) rfl;rcases Bl ba with hE | hE
   ·replace s62:=s62.1 hE;exact sw (by first | (go_simp;done) | (go_simp;simp_all;done) | (simp_all;done)) rfl
   ·exact sw (by first | (go_simp;done) | (go_simp;simp_all;done) | (simp_all;done)) rfl),(gv 8 63),
    trivial⟩ ?_
  intro u w1 k1 hu;have p60:=hp hu 5;have p61:=hp hu 6;have p62:=hp hu 7;simp only [Ax,Al,if_true,Act.put,zlA,zlB,zlC,zlD,zlE,zlF,zlG,hv hu 0,hv hu 1,hv hu 2,hv hu 3,hv hu 4,hv hu 8,hv hu 9];clear hu;generalize u 5=v60,u 6=v61,u 7=v62 at *;go_wp2_with fail;go_ret;exact ⟨rfl,K.out.trans k1⟩
def Aew {α:Type} (l:List α) (g:α→Bool) (w:World) (e:Ending) (w':World):Prop:=∃ r:Int,e=.returned (.int .i64 r)∧decide (0≤r)=l.any g∧Kept w w'
theorem Ui {l:List α}{g:α→Bool}(h:∀ i x,i<l.length→l[i]?=some x→g x=false):l.any g=false:=by
 rw [List.any_eq_false];intro x hx;obtain ⟨i,hi,he⟩:=List.mem_iff_getElem.1 hx;rw [h i x hi (by rw [List.getElem?_eq_getElem hi,he])]
 decide
theorem W8 {l:List α}{g:α→Bool}{x:α}(h:l[i]?=some x)(hg:g x=true):l.any g=true:=List.any_eq_true.2 ⟨x,List.mem_of_getElem? h,hg⟩
theorem Aiu {l:List Int}{g:Int→Bool}(hv:InS w v l)(hn:l.length≤1000000000)
 (h:∀ w1,Kept w w1→∀ x,x∈l→Calls Tryz.prog 86 #[.int .i64 x,.pointer (some ⟨bt,0,none⟩)] w1 (RetK (.bool (g x)) w1)) :
 Calls Tryz.prog 120 #[v,.func (.func 86) #[] #[.pointer (some ⟨bt,0,none⟩)]] w (Aew l g w):=by
 obtain ⟨A,c,rfl,hc,hA⟩:=hv;have HG:=hid h;have HA:=hid hA;clear h hA;obtain ⟨n,hn'⟩:∃ n,n=l.length:=⟨_,rfl⟩;rw [←hn'] at hn hc HA ⊢;have HN:=hid hn';clear hn';go_enter Tryz.func120,Tryz.ntmps120;go_wp2_with fail
 go_loopw [8] (fun t wr=>∃ k:Nat,k≤n∧t=.int .i64 k∧(∀ i x,i<k→l[i]?=some x→g x=false)∧Kept w wr) (fun t _=>(n-intOf t).toNat)
 case atStart=>exact ⟨0,Nat.zero_le _,rfl,fun i a hi=>absurd hi (Nat.not_lt_zero _),Below.refl _ _⟩
 case round =>
  obtain ⟨k,hk,rfl,hall,hKr⟩:=hrel;have KR:=hid hKr;have AL:=hid hall;clear hKr hall;by_cases hlt:k<n
  ·obtain ⟨b,off,rfl,hd⟩:=HA.out (by omega);obtain ⟨x,hx⟩:∃ x,l[k]?=some x:=⟨_,List.getElem?_eq_getElem (by have:=HN.out;omega)⟩;have hcell:=hd k x hx;have hc0:=(KR.out.cell (p:=⟨b,off+k,none⟩) (Am hcell)).trans hcell;have HX:=hid hx;have hm:=HG.out wr KR.out x (List.mem_of_getElem? hx);obtain ⟨gx,hgx⟩:∃ y,y=g x:=⟨_,rfl⟩;rw [←hgx] at hm;have HM:=hid hm;have HGX:=hid hgx;clear hd hcell hx hm hgx;go_wp2_with fail;refine HM.out.mono ?_;rintro e w2 ⟨rfl,q⟩;have K2:=hid (KR.out.trans q);clear q hc0;simp only [];cases gx
   ·go_wp2_with fail;go_roundw
    case rel =>
     refine ⟨k+1,by omega,by go_num,fun i a hi ha'=>?_,K2.out⟩;by_cases h2:i=k
     ·subst h2;rw [HX.out] at ha';cases ha';exact HGX.out.symm
     ·exact AL.out i a (by omega) ha'
    case measure=>simp only [intOf];omega
   ·go_wp2_with fail;go_ret;exact ⟨k,rfl,by rw [W8 HX.out HGX.out.symm];simp,K2.out⟩
  ·obtain rfl:k=n:=by omega
   go_wp2_with fail;go_ret;exact ⟨-1,rfl,by rw [Ui (fun i x hi hx=>AL.out i x (by have:=HN.out;omega) hx)];decide,KR.out⟩
theorem Aaa {l:List Int}{g:Int→Bool}(hv:InS w v l)(hn:l.length≤1000000000)
 (h:∀ w1,Kept w w1→∀ x,x∈l→Calls Tryz.prog 86 #[.int .i64 x,.pointer (some ⟨bt,0,none⟩)] w1 (RetK (.bool (g x)) w1)) :
 Calls Tryz.prog 85 #[v,.func (.func 86) #[] #[.pointer (some ⟨bt,0,none⟩)]] w (RetK (.bool (l.any g)) w):=by
 have C:=hid (Aiu hv hn h);obtain ⟨A,c,rfl,-,-⟩:=hv;clear hn h;go_enter Tryz.func85,Tryz.ntmps85;go_wp2_with fail;refine C.out.mono ?_;rintro e w2 ⟨r,rfl,hr,q⟩;have Q:=hid q;have HR:=hid hr;clear q hr C;simp only [];go_wp2_with fail;go_ret;exact ⟨by rw [←HR.out];rfl,Q.out⟩
theorem Hs (x u p:Int):∀ (ls:List Ln) (i:Nat),Pj x u p i ls=true↔∀ j l,ls[j]?=some l→Gj l ((i+j:Nat):Int) x u p=true
 | [],i=>by simp [Pj]
 | l :: ls, i => by
   rw [Pj,Bool.and_eq_true,Hs x u p ls (i+1)];constructor
   ·rintro ⟨h1,h2⟩ j m hm;rcases j with _ | j
    ·simp at hm;subst hm;exact h1
    ·simp at hm;have:=h2 j m hm;rw [show i+(j+1)=i+1+j by omega];exact this
   ·intro h;refine ⟨h 0 l (by simp),fun j m hm=>?_⟩;have:=h (j+1) m (by simpa using hm);rw [show i+1+j=i+(j+1) by omega];exact this
theorem E4 (h:w.heap[b]?=some (.cells #[x,y] T (0,0))):w.cell? ⟨b,0,none⟩=some x∧w.cell? ⟨b,1,none⟩=some y:=⟨Ae h 0 _ rfl,Ae h 1 _ rfl⟩
theorem Bk {o:Obj}(h:w.heap[b]?=some o)(k:Kept w w'):w'.heap[b]?=some o:=(k.block b (Array.getElem?_eq_some_iff.1 h).1).trans h
theorem Ai9 {ln:Nat}{n:Int}(hb:w.heap[bt]?=some (.cells #[.slice A ln c,so] 25 (0,0))) :
 Calls Tryz.prog 86 #[.int .i64 n,.pointer (some ⟨bt,0,none⟩)] w (RetK (.bool (!Bw n ln)) w):=by
 obtain ⟨c0,c1⟩:=E4 hb;have B:=hid (O0 n ln w);obtain ⟨f,hf⟩:∃ f,Bw n ln=f:=⟨_,rfl⟩;rw [hf] at B ⊢;clear hf hb;go_enter Tryz.func86,Tryz.ntmps86;go_wp2_with fail;refine B.out.mono ?_;rintro e w2 ⟨rfl,q⟩;simp only [];go_wp2_with fail;go_ret;exact ⟨rfl,q⟩
theorem Amy (w:World)(s o:Value):∃ W,W=w.alloc (.cells #[s,o] 25)∧Kept w W∧W.heap[w.heap.size]?=some (.cells #[s,o] 25 (0,0))∧w.heap.size<W.heap.size :=
 ⟨_,rfl,Ad _ _,heap_alloc_new _ _,by simp⟩
def W5 (ls:List Ln):Prop:=∀ l∈ls,-9223372036854775808≤l.op∧l.op≤9223372036854775807∧l.k.lens 17592186044416
theorem Alu {ls:List Ln}{outs:List Int}{x u:Int}(hv:TpR w v ls outs)(hok:W5 ls)(hn:ls.length≤1000000000)(hno:outs.length≤1000000000)
 (hx:-9223372036854775808≤x∧x≤9223372036854775807) (hu:-9223372036854775808≤u∧u≤9223372036854775807) (hp:-9223372036854775808≤p∧p≤9223372036854775807) :
 Calls Tryz.prog 47 #[v,.int .i64 x,.int .i64 u,.int .i64 p] w (RetK (.bool (Jt ls outs x u p)) w):=by
 obtain ⟨s,o,rfl,hls,hou⟩:=hv;have HL:=hid hls;have HO:=hid hou;obtain ⟨A,c,rfl,hc,hA⟩:=hls;obtain ⟨B,d,rfl,hd,-⟩:=hou;have HA:=hid hA;have OK:=hid hok;obtain ⟨W,hW,kW,hb,lW⟩:=Amy w (.slice A ls.length c) (.slice B outs.length d);have HW:=hid hW;have K:=hid kW;have HB:=hid hb;obtain ⟨c0,c1⟩:=E4 hb;clear hA hok hW kW hb;by_cases h1:ls.length≤200
 ·by_cases h2:outs.length≤200
  ·obtain ⟨w1,w2,w3,r1,r2,r3,hm,k3⟩:=Ado W hx.1 hx.2 hu.1 hu.2 hp.1 hp.2;have hmm:=@run_makeMap Tryz.prog;have em:Jt ls outs x u p=(Pj x u p 0 ls&&!(outs.any fun n=>!Bw n ls.length)):=by
    unfold Jt;rw [show decide (ls.length≤200)=true by simpa using h1,show decide (outs.length≤200)=true by simpa using h2,Bool.true_and,Bool.true_and,List.all_eq_not_any_not]
   rw [em];obtain ⟨m1,hm1⟩:∃ m1,Pj x u p 0 ls=m1:=⟨_,rfl⟩;rw [hm1];have HM1:=hid hm1;generalize hn':ls.length=n at *;have HN:=hid hn';have HM:=hid hm;have K3:=hid k3;have CC:=hid (fun w1 (k:Kept W w1)=>Aaa (w:=w1) (g:=fun y=>!Bw y n) (bt:=w.heap.size) (HO.out.kept (K.out.trans k)) hno (fun w2 q y _=>Ai9 (Bk HB.out (k.trans q))));obtain ⟨m2,hm2⟩:∃ m2,(outs.any fun n'=>!Bw n' n)=m2:=⟨_,rfl⟩;rw [hm2] at CC ⊢;clear hm1 hn' hm k3 hm2 em;have t1:decide ((200:Int)<(n:Int))=false:=by simp;omega
   have t2:decide ((200:Int)<(outs.length:Int))=false:=by simp;omega
   go_enter Tryz.func47,Tryz.ntmps47;go_upto_region 1 with fail;rw [←HW.out];obtain ⟨e0,e1⟩:=E4 (Bk HB.out K3.out);go_wp2_with fail;clear c0 c1 e0 e1 r1 r2 r3 hmm t1 t2
   go_loopw [30] (fun t wr=>∃ k:Nat,k≤n∧t=.int .i64 k∧(∀ i l,i<k→ls[i]?=some l→Gj l (i:Int) x u p=true)∧Kept w3 wr) (fun t _=>(n-intOf t).toNat)
   case atStart=>exact ⟨0,Nat.zero_le _,rfl,fun i a hi=>absurd hi (Nat.not_lt_zero _),Below.refl _ _⟩
   case round =>
    obtain ⟨k,hk,rfl,hall,hKr⟩:=hrel;have KR:=hid hKr;have AL:=hid hall;clear hKr hall;by_cases hlt:k<n
    ·obtain ⟨b,off,rfl,hd⟩:=HA.out (by omega);obtain ⟨l,hl⟩:∃ l,ls[k]?=some l:=⟨_,List.getElem?_eq_getElem (by have:=HN.out;omega)⟩;have hat:=(hd k l hl).kept (K.out.trans (K3.out.trans KR.out));obtain ⟨a0,a1,a2,y0,y1,y2,y3,y4,y5,g0,g1,g2,g3,g4,g5,hI⟩:=hat;obtain ⟨A1,l1,q1,A2,l2,q2,ei,-,-⟩:=Aq hI;injection ei with ei;injection ei with ei
     simp only [List.cons.injEq,and_true] at ei;obtain ⟨rfl,rfl,rfl,rfl,rfl,rfl⟩:=ei;obtain ⟨o1,o2,ol⟩:=OK.out l (List.mem_of_getElem? hl);have hm:=fun w2 (q:Kept wr w2)=>Ads (a:=l.a) (b:=l.b) (i:=k) (hI.kept q) ol (HM.out.kept (KR.out.trans q)) o1 o2
     have HLK:=hid hl;obtain ⟨mb,hmb⟩:∃ mb,mb=Gj l (k:Int) x u p:=⟨_,rfl⟩;have hm2:=fun w2 (q:Kept wr w2)=>show Calls _ _ _ _ (RetK (.bool mb) w2) by rw [hmb];exact hm w2 q
     have HMB:=hid hmb;have HMM:=hid hm2;clear hd hl hI ol hm hm2 hmb o1 o2;go_wp2_with fail;refine (HMM.out _ (Ad _ _)).mono ?_;rintro e w2' ⟨rfl,q⟩;have K2:=hid (KR.out.trans ((Ad _ _).trans q));clear q a0 a1 a2 g0 g1 g2 g3 g4 g5 HMM;simp only [];cases mb
     ·go_wp2_with fail;go_ret;have e1:m1=false:=by
       cases hm:m1
       ·rfl
       ·have h1:=(Hs x u p ls 0).1 (HM1.out.trans hm) k l HLK.out;rw [Nat.zero_add] at h1;rw [←HMB.out] at h1;cases h1
      exact ⟨by rw [e1];rfl,K.out.trans (K3.out.trans K2.out)⟩
     ·go_wp2_with fail;go_roundw
      case rel =>
       refine ⟨k+1,by omega,by go_num,fun i a hi ha'=>?_,K2.out⟩;by_cases h2:i=k
       ·subst h2;rw [HLK.out] at ha';cases ha';exact HMB.out.symm
       ·exact AL.out i a (by omega) ha'
      case measure=>simp only [intOf];omega
    ·obtain rfl:k=n:=by omega
     have e1:m1=true:=by
      rw [←HM1.out];refine (Hs x u p ls 0).2 fun j m hm=>?_
      rw [Nat.zero_add];exact AL.out j m (by have:=(List.getElem?_eq_some_iff.1 hm).1;have:=HN.out;omega) hm
     obtain ⟨f0,f1⟩:=E4 (Bk HB.out (K3.out.trans KR.out));have hmf:=Ho;go_wp2_with fail;refine (CC.out _ (K3.out.trans KR.out)).mono ?_;rintro e w2' ⟨rfl,q⟩;have K2:=hid (KR.out.trans q);clear q f0 f1;simp only [];go_wp2_with fail;go_ret;exact ⟨by rw [e1];rfl,K.out.trans (K3.out.trans K2.out)⟩
  ·have em:Jt ls outs x u p=false:=by
    unfold Jt;rw [show decide (outs.length≤200)=false by simpa using h2];simp
   rw [em];have t1:decide ((200:Int)<(ls.length:Int))=false:=by simp;omega
   have t2:decide ((200:Int)<(outs.length:Int))=true:=by simp;omega
   clear em;go_enter Tryz.func47,Tryz.ntmps47;go_upto_region 1 with fail;rw [←HW.out];go_wp2_with fail;go_ret;exact ⟨rfl,K.out⟩
 ·have em:Jt ls outs x u p=false:=by
   unfold Jt;rw [show decide (ls.length≤200)=false by simpa using h1];simp
  rw [em];have t1:decide ((200:Int)<(ls.length:Int))=true:=by simp;omega
  clear em;go_enter Tryz.func47,Tryz.ntmps47;go_upto_region 1 with fail;rw [←HW.out];go_wp2_with fail;go_ret;exact ⟨rfl,K.out⟩
theorem Ae4 (w:World)(x y z x' y' z':Value):∃ V,V=w.alloc (.cells #[x,y,z,x',y',z'] 30)∧Kept w V∧BlkI V w.heap.size x y z x' y' z'∧w.heap.size<V.heap.size :=
 ⟨_,rfl,Ad _ _,Eo _ _ _ _ _ _ _,by simp⟩
theorem Afu (hv:IvS w v l)(hn:l.length≤1000000000)
 (h:∀ w1 y,Kept w w1→∀ x,x∈l→IvR w1 y x→Calls Tryz.prog 95 #[y] w1 (RetK (.bool (g x)) w1)) :
 Calls Tryz.prog 121 #[v,.func (.func 95) #[] #[]] w (Aew l g w):=by
 obtain ⟨A,c,rfl,hc,hA⟩:=hv;have HG:=hid h;have HA:=hid hA;clear h hA;obtain ⟨n,hn'⟩:∃ n,n=l.length:=⟨_,rfl⟩;rw [←hn'] at hn hc HA ⊢;have HN:=hid hn';clear hn';go_enter Tryz.func121,Tryz.ntmps121;go_wp2_with fail
 go_loopw [8] (fun t wr=>∃ k:Nat,k≤n∧t=.int .i64 k∧(∀ i x,i<k→l[i]?=some x→g x=false)∧Kept w wr) (fun t _=>(n-intOf t).toNat)
 case atStart=>exact ⟨0,Nat.zero_le _,rfl,fun i a hi=>absurd hi (Nat.not_lt_zero _),Below.refl _ _⟩
 case round =>
  obtain ⟨k,hk,rfl,hall,hKr⟩:=hrel;have KR:=hid hKr;have AL:=hid hall;clear hKr hall;by_cases hlt:k<n
  ·obtain ⟨b,off,rfl,hd⟩:=HA.out (by omega);obtain ⟨x,hx⟩:∃ x,l[k]?=some x:=⟨_,List.getElem?_eq_getElem (by have:=HN.out;omega)⟩;obtain ⟨y0,y1,y2,y3,y4,y5,g0,g1,g2,g3,g4,g5,hI⟩:=(hd k x hx).kept KR.out;have HX:=hid hx;have hm:=HG.out wr _ KR.out x (List.mem_of_getElem? hx) hI;obtain ⟨gx,hgx⟩:∃ y,y=g x:=⟨_,rfl⟩;rw [←hgx] at hm;have HM:=hid hm;have HGX:=hid hgx;clear hd hx hm hgx hI;go_wp2_with fail;refine HM.out.mono ?_;rintro e w2 ⟨rfl,q⟩;have K2:=hid (KR.out.trans q);clear q g0 g1 g2 g3 g4 g5;simp only [];cases gx
   ·go_wp2_with fail;go_roundw
    case rel =>
     refine ⟨k+1,by omega,by go_num,fun i a hi ha'=>?_,K2.out⟩;by_cases h2:i=k
     ·subst h2;rw [HX.out] at ha';cases ha';exact HGX.out.symm
     ·exact AL.out i a (by omega) ha'
    case measure=>simp only [intOf];omega
   ·go_wp2_with fail;go_ret;exact ⟨k,rfl,by rw [W8 HX.out HGX.out.symm];simp,K2.out⟩
  ·obtain rfl:k=n:=by omega
   go_wp2_with fail;go_ret;exact ⟨-1,rfl,by rw [Ui (fun i x hi hx=>AL.out i x (by have:=HN.out;omega) hx)];decide,KR.out⟩
theorem Xh (hv:IvS w v l)(hn:l.length≤1000000000)
 (h:∀ w1 y,Kept w w1→∀ x,x∈l→IvR w1 y x→Calls Tryz.prog 95 #[y] w1 (RetK (.bool (g x)) w1)) :
 Calls Tryz.prog 87 #[v,.func (.func 95) #[] #[]] w (RetK (.bool (l.any g)) w):=by
 have C:=hid (Afu hv hn h);obtain ⟨A,c,rfl,-,-⟩:=hv;clear hn h;go_enter Tryz.func87,Tryz.ntmps87;go_wp2_with fail;refine C.out.mono ?_;rintro e w2 ⟨r,rfl,hr,q⟩;have Q:=hid q;have HR:=hid hr;clear q hr C;simp only [];go_wp2_with fail;go_ret;exact ⟨by rw [←HR.out];rfl,Q.out⟩
theorem Adp (hv:IvR w v a)(hl:a.lens 17592186044416):Calls Tryz.prog 95 #[v] w (RetK (.bool (!Fh a)) w):=by
 obtain ⟨x0,x1,x2,x3,x4,x5,rfl,-,-⟩:=(show IvR _ _ _ from hv);obtain ⟨W,hW,kW,hb,-⟩:=Ae4 w x0 x1 x2 x3 x4 x5;have M:=hid (Wb (hv.kept kW) hl);obtain ⟨f,hf⟩:∃ f,Fh a=f:=⟨_,rfl⟩;rw [hf] at M ⊢;obtain ⟨-,c0,c1,c2,c3,c4,c5⟩:=hb.facts;have HW:=hid hW;clear hf hv hl hb hW;go_enter Tryz.func95,Tryz.ntmps95;go_upto_region 1 with fail;rw [←HW.out];go_wp2_with fail;refine M.out.mono ?_;rintro e w2 ⟨rfl,q⟩;simp only [];go_wp2_with fail;go_ret;exact ⟨rfl,kW.trans q⟩
theorem Ans (w:World)(x0 x1 x2 x3 x4 x5 x6 x7 x8:Value):∃ W,W=w.alloc (.cells #[x0,x1,x2,x3,x4,x5,x6,x7,x8] 33)∧Kept w W∧W.heap[w.heap.size]?=some (.cells #[x0,x1,x2,x3,x4,x5,x6,x7,x8] 33 (0,0))∧w.heap.size<W.heap.size :=
 ⟨_,rfl,Ad _ _,heap_alloc_new _ _,by simp⟩
def Mh (e:En):Prop:=e.t.lens 17592186044416∧(∀ a∈e.x,a.lens 17592186044416)∧(∀ a∈e.u,a.lens 17592186044416)∧(∀ a∈e.p,a.lens 17592186044416)∧e.x.length≤1000000000∧e.u.length≤1000000000∧e.p.length≤1000000000
theorem Af6 {e:En}(hv:EnR w v e)(hl:Mh e):Calls Tryz.prog 62 #[v] w (RetK (.bool (Mr e)) w):=by
 obtain ⟨x0,x1,x2,x3,x4,x5,sx,su,sp,rfl,ht,hx,hu,hp⟩:=hv;obtain ⟨l1,l2,l3,l4,n2,n3,n4⟩:=hl;have HT:=hid ht;have HX:=hid hx;have HU:=hid hu;have HP:=hid hp;obtain ⟨A1,j1,q1,A2,j2,q2,ei,-,-⟩:=Aq ht;injection ei with ei;injection ei with ei
 simp only [List.cons.injEq,and_true] at ei;obtain ⟨rfl,rfl,rfl,rfl,rfl,rfl⟩:=ei;obtain ⟨AX,cx,rfl,-,-⟩:=hx;obtain ⟨AU,cu,rfl,-,-⟩:=hu;obtain ⟨AP,cp,rfl,-,-⟩:=hp;obtain ⟨W,hW,kW,hb,lW⟩:=Ans w (.bool e.t.lo.neg) (.slice A1 j1 q1) (.int .i64 e.t.lo.e) (.bool e.t.hi.neg) (.slice A2 j2 q2) (.int .i64 e.t.hi.e) (.slice AX e.x.length cx) (.slice AU e.u.length cu) (.slice AP e.p.length cp);obtain ⟨W1,hW1,kW1,hb1,-⟩:=Ae4 W (.bool e.t.lo.neg) (.slice A1 j1 q1) (.int .i64 e.t.lo.e) (.bool e.t.hi.neg) (.slice A2 j2 q2) (.int .i64 e.t.hi.e)
 obtain ⟨W2,hW2,kW2,hb2⟩:∃ W2,W2=W1.alloc (.cells #[.slice (some ⟨W.heap.size,0,none⟩) 1 1,.slice AX e.x.length cx,.slice AU e.u.length cu,.slice AP e.p.length cp] 31)∧Kept W1 W2∧W2.heap[W1.heap.size]?=some (.cells #[.slice (some ⟨W.heap.size,0,none⟩) 1 1,.slice AX e.x.length cx,.slice AU e.u.length cu,.slice AP e.p.length cp] 31 (0,0)) :=
  ⟨_,rfl,Ad _ _,heap_alloc_new _ _⟩
 have ew:W1.heap.size=W.heap.size+1:=by rw [hW1];simp
 rw [ew] at hb2;have kk:=kW.trans (kW1.trans kW2);have hT1:IvS W2 (.slice (some ⟨W.heap.size,0,none⟩) 1 1) [e.t]:=Aix (hb1.kept kW2) (HT.out.kept kk);obtain ⟨rows,hrows⟩:∃ rows:List (Value × List RawI),rows=[(.slice (some ⟨W.heap.size,0,none⟩) 1 1,[e.t]),(.slice AX e.x.length cx,e.x),(.slice AU e.u.length cu,e.u),(.slice AP e.p.length cp,e.p)]:=⟨_,rfl⟩;have RS:=hid (show ∀ j r,rows[j]?=some r→IvS W2 r.1 r.2∧(∀ a∈r.2,a.lens 17592186044416)∧r.2.length≤1000000000∧W2.cell? ⟨W.heap.size+1,j,none⟩=some r.1 by
  intro j r hr;subst hrows;rcases j with _ | _ | _ | _ | j
  ·cases hr;exact ⟨hT1,by simpa using l1,by simp,Ae hb2 0 _ rfl⟩
  ·cases hr;exact ⟨HX.out.kept kk,l2,n2,Ae hb2 1 _ rfl⟩
  ·cases hr;exact ⟨HU.out.kept kk,l3,n3,Ae hb2 2 _ rfl⟩
  ·cases hr;exact ⟨HP.out.kept kk,l4,n4,Ae hb2 3 _ rfl⟩
  ·simp at hr)
 have RL:rows.length=4:=by rw [hrows];rfl
 have RE:Mr e=rows.all fun r=>r.2.all Fh:=by
  rw [hrows];unfold Mr;simp [Bool.and_assoc]
 rw [RE];have KK:=hid kk;have HW:=hid hW;have HW1:=hid hW1;have HW2:=hid hW2;obtain ⟨c0,c1,c2,c3,c4,c5,c6,c7,c8⟩:=Bo hb;clear RE hrows hT1 hb hb1 hb2 kk kW kW1 kW2 l1 l2 l3 l4 n2 n3 n4 hW hW1 hW2 HT HX HU HP ht;generalize e.t.lo.neg=z1,e.t.lo.e=z2,e.t.hi.neg=z3,e.t.hi.e=z4,e.x.length=y1,e.u.length=y2,e.p.length=y3 at *;go_enter Tryz.func62,Tryz.ntmps62;go_upto_region 1 with fail;rw [←HW.out];go_wp2_with fail;rw [←HW1.out,←HW2.out];clear c0 c1 c2 c3 c4 c5 c6 c7 c8 HW HW1 HW2
 go_loopw [16] (fun t wr=>∃ k:Nat,k≤4∧t=.int .i64 k∧(∀ i r,i<k→rows[i]?=some r→r.2.all Fh=true)∧Kept W2 wr) (fun t _=>(4-intOf t).toNat)
 case atStart=>exact ⟨0,Nat.zero_le _,rfl,fun i a hi=>absurd hi (Nat.not_lt_zero _),Below.refl _ _⟩
 case round =>
  obtain ⟨k,hk,rfl,hall,hKr⟩:=hrel;have KR:=hid hKr;have AL:=hid hall;clear hKr hall;by_cases hlt:k<4
  ·obtain ⟨r,hr⟩:∃ r,rows[k]?=some r:=⟨_,List.getElem?_eq_getElem (by omega)⟩;obtain ⟨hs,hll,hln,hcell⟩:=RS.out k r hr;have hc0:=(KR.out.cell (p:=⟨W.heap.size+1,k,none⟩) (Am hcell)).trans hcell;have HRR:=hid hr;have hm:=Xh (g:=fun a=>!Fh a) (hs.kept KR.out) hln (fun w1 y q a ha hy=>Adp hy (hll a ha));obtain ⟨mb,hmb⟩:∃ mb,mb=r.2.all Fh:=⟨_,rfl⟩;rw [←List.not_all_eq_any_not,←hmb] at hm;have HMB:=hid hmb;have HM:=hid hm;clear hr hs hll hln hcell hm hmb;go_wp2_with fail;refine HM.out.mono ?_;rintro e' w2' ⟨rfl,q⟩;have K2:=hid (KR.out.trans q);clear q hc0;simp only [];cases mb
   ·go_wp2_with fail;go_ret;have e1:(rows.all fun r=>r.2.all Fh)=false:=by
     rw [List.all_eq_false];exact ⟨r,List.mem_of_getElem? HRR.out,by rw [←HMB.out];decide⟩
    exact ⟨by rw [e1];rfl,KK.out.trans K2.out⟩
   ·go_wp2_with fail;go_roundw
    case rel =>
     refine ⟨k+1,by omega,by go_num,fun i a hi ha'=>?_,K2.out⟩;by_cases h2:i=k
     ·subst h2;rw [HRR.out] at ha';cases ha';exact HMB.out.symm
     ·exact AL.out i a (by omega) ha'
    case measure=>simp only [intOf];omega
  ·obtain rfl:k=4:=by omega
   go_wp2_with fail;go_ret;have e1:(rows.all fun r=>r.2.all Fh)=true:=by
    rw [List.all_eq_true];intro r hr;obtain ⟨i,hi,he⟩:=List.mem_iff_getElem.1 hr;exact AL.out i r (by omega) (by rw [List.getElem?_eq_getElem hi,he])
   exact ⟨by rw [e1];rfl,KK.out.trans KR.out⟩
theorem Ki (hz:0<z.size)(h:u∈(madeCells z n).toList):u∈z.toList:=by
 simp [madeCells] at h;obtain ⟨a,ha,rfl⟩:=h;have hlt:=Nat.mod_lt a hz;rw [getElem!_pos z _ hlt];simp
theorem Ai6 (w:World)(hn:n≤1000):∃ V,(Instr.makeSlice 31 (.int .i64 0) (.int .i64 n)).run Tryz.prog w=.ok (.slice (some ⟨w.heap.size,0,none⟩) 0 n) V∧Kept w V∧w.heap.size<V.heap.size ∧
 OwnI V w.heap.size (.slice (some ⟨w.heap.size,0,none⟩) 0 n) [] []:=by
 obtain ⟨i0,hi,hz0,hz1,hz2⟩:=info_parts X6;have hr:=run_make (P:=Tryz.prog) w 31 30 i0 _ Tryz.underlying31 hi hz0 .i64 .i64 0 n (Int.le_refl _) (by omega) (by rw [hz2];omega) (by omega);simp only [Int.toNat_zero,Int.toNat_natCast] at hr;refine ⟨_,hr,Ad _ _,by simp,?_,by simp,by simp,?_,by simp⟩
 ·have:=World.ownsRow_made (base:=w.heap.size) (e:=30) (size:=6) w (madeCells (Value.agg #[.bool false,.slice none 0 0,.int .i64 0,.bool false,.slice none 0 0,.int .i64 0]).cells (n*i0.size)) n (Nat.le_refl _) (by unfold maxLen;omega) (by rw [size_madeCells,hz1]);exact this
 ·intro g hg;simp [Value.ownBlock] at hg;subst hg;exact ⟨_,_,heap_alloc_new _ _,fun u hu=>Nv u (Ki (by decide) hu)⟩
theorem F9 {ops:Array Oper}{rest:List Oper}{o:Oper}{a:Act}{Q:Exit→Act→World→Prop}(hgd:o.guard=none)(s x:Operand)
 (ho:o.op=.call { callee:=.builtin .append,args:=#[s,x],argTypes:=#[31,31] })
 {base:Nat} {v:Value} {l:List RawI} {xs:List Value} (hs:a.eval s=v) (hown:OwnI w base v l xs) {d:RawI} {x0 x1 x2 x3 x4 x5:Value} {b:Nat}
 (hd:IvR w (.agg #[x0,x1,x2,x3,x4,x5]) d) (hb:BlkI w b x0 x1 x2 x3 x4 x5) (hx:a.eval x=.slice (some ⟨b,0,none⟩) 1 1)
 (hl:l.length≤1000) (hbase:base≤w.heap.size)
 (h:∀ v' w',OwnI w' base v' (l++[d]) (xs++[x0,x1,x2,x3,x4,x5])→w.grownBy w' v.ownBlock→wpList Tryz.prog ops Q rest (a.put o.dst v') w'):wpList Tryz.prog ops Q (o::rest) a w:=by
 obtain ⟨i0,hi,hz0,hz1,hz2⟩:=info_parts X6;obtain ⟨-,c0,c1,c2,c3,c4,c5⟩:=hb.facts;have hcl:=hd.cells;have ad:∀ j,(⟨b,0,none⟩:Addr).add j=⟨b,j,none⟩:=by intro j;unfold Addr.add;split<;>simp_all
 refine P0 hgd s x _ ho base 30 i0 _ 6 80 Tryz.underlying31 hi hz0 hz1 hz2 rfl (by decide) v l.length xs hs hown.row _ 1 1 [x0,x1,x2,x3,x4,x5] hx rfl ?_ (fun u hu=>(hcl u hu).2) (by unfold maxLen;omega) (by omega) hbase (by decide) hown.nl (fun u hu=>(hcl u hu).1) Nv hown.blk ?_
 ·intro j u hu;rw [ad];rcases j with _ | _ | _ | _ | _ | _ | j
  ·cases hu;exact c0
  ·cases hu;exact c1
  ·cases hu;exact c2
  ·cases hu;exact c3
  ·cases hu;exact c4
  ·cases hu;exact c5
  ·simp at hu
 ·intro v' w' g' q1 q2 q3 q4;exact h v' w' (hown.snoc hd q1 q2 q3 q4) q2
theorem OwnI.base {base:Nat}(h:OwnI w base v l xs):∀ g,v.ownBlock=some g→base≤g:=by
 intro g hg;rcases h.row.2 with ⟨rfl,-⟩ | ⟨g',cap,cur,rfl,hb,-⟩
 ·simp [Value.ownBlock] at hg
 ·simp [Value.ownBlock] at hg;subst hg;exact hb
theorem OwnI.grown_kept (h:OwnI w W.heap.size v l xs)(k:Kept W w)(hg:w.grownBy w' v.ownBlock):Kept W w' :=
 Below.grown k hg k.size (fun g hg'=>h.base g hg')
def Amr (o:Outc (List RawI)) (w:World) (e:Ending) (w':World):Prop:=Kept w w'∧∃ v,e=.returned (.tuple #[v,.int .i64 o.k])∧IvS w' v o.v
theorem Hi (w:World):IvS w (.slice none 0 0) []:=⟨none,0,rfl,Nat.le_refl _,fun h=>absurd h (by simp)⟩
def OvC (ov:Iv→Nat→Outc Iv):Prop:=(∀ a p,a.Ok→1≤p→p≤300→OkI (ov a p)) ∧
 ∀ w v a p,IvC w v a→a.Ok→Tab w→1≤p→p≤300→Calls Tryz.prog 102 #[v,.int .i64 (p:Nat)] w (RetIE (Bp (ov a p)) w)
theorem Q6 (ov:Iv→Nat→Outc Iv)(e:En)(p:Nat):∀ (ls:List Ln) (out rows:List RawI) (l:Ln),Ca ov e p out ls=⟨rows,0⟩ →
 Ca ov e p out (ls++[l])=if (Ch ov e p rows l).k=0 then ⟨rows++[(Ch ov e p rows l).v.raw],0⟩ else ⟨[],(Ch ov e p rows l).k⟩
 | [], out, rows, l, h => by
   have:out=rows:=congrArg Outc.v h;subst this;simp only [List.nil_append,Ca]
 | m :: ls, out, rows, l, h => by
   rw [Ca] at h;by_cases hk:(Ch ov e p out m).k=0
   ·rw [if_pos hk] at h;rw [List.cons_append,Ca,if_pos hk];exact Q6 ov e p ls _ rows l h
   ·rw [if_neg hk] at h;exact absurd (congrArg Outc.k h) hk
theorem Sp (ov:Iv→Nat→Outc Iv)(e:En)(p:Nat):∀ (ls:List Ln) (out:List RawI) (rest:List Ln),(Ca ov e p out ls).k≠0→Ca ov e p out (ls++rest)=Ca ov e p out ls
 | [],out,rest,h=>absurd rfl h
 | m :: ls, out, rest, h => by
   rw [Ca] at h;rw [List.cons_append,Ca,Ca];by_cases hk:(Ch ov e p out m).k=0
   ·rw [if_pos hk] at h;rw [if_pos hk,if_pos hk];exact Sp ov e p ls _ rest h
   ·rw [if_neg hk,if_neg hk]
def T7 (w:World) (b o:Nat) (x y z x' y' z':Value):World :=
 (((((w.setCell ⟨b,o,none⟩ x).setCell ⟨b,o+1,none⟩ y).setCell ⟨b,o+2,none⟩ z).setCell ⟨b,o+3,none⟩ x').setCell ⟨b,o+4,none⟩ y').setCell ⟨b,o+5,none⟩ z'
theorem Aas (w:World)(b o k:Nat)(x y z x' y' z':Value)(h:k≠b):(T7 w b o x y z x' y' z').heap[k]?=w.heap[k]?:=by
 unfold T7;rw [Below.heap_setCell _ _ _ _ h,Below.heap_setCell _ _ _ _ h,Below.heap_setCell _ _ _ _ h,Below.heap_setCell _ _ _ _ h,Below.heap_setCell _ _ _ _ h,Below.heap_setCell _ _ _ _ h]
theorem Aiz (hb:w.heap[b]?=some (.cells cs T (0,0)))(hn:∀ u∈cs.toList,Be u)(x y z x' y' z':Value):KB w [b] (T7 w b o x y z x' y' z'):=by
 have k0:Below 0 w (T7 w b o x y z x' y' z') :=
  ((((((Below.refl 0 w).setCell (p:=⟨b,o,none⟩) (Nat.zero_le _) x).setCell (p:=⟨b,o+1,none⟩) (Nat.zero_le _) y).setCell (p:=⟨b,o+2,none⟩) (Nat.zero_le _) z).setCell (p:=⟨b,o+3,none⟩) (Nat.zero_le _) x').setCell (p:=⟨b,o+4,none⟩) (Nat.zero_le _) y').setCell (p:=⟨b,o+5,none⟩) (Nat.zero_le _) z'
 have ho:=fun k (hk:k≠b)=>Aas w b o k x y z x' y' z' hk
 generalize T7 w b o x y z x' y' z'=w' at *;refine ⟨k0.os,k0.tape,k0.output,k0.size,fun k _ hk=>ho k (by simpa using hk),fun p j v hp=>?_⟩;have hne:p≠b:=by
  rintro rfl;exact hn _ (Array.mem_toList_iff.2 (Array.mem_of_getElem? (Rh hb hp))) _ rfl
 rw [World.cell?_of_block (ho p hne)];exact hp
def DRow (w:World) (b:Nat) (l:List RawI):Prop:=∃ cs,w.heap[b]?=some (.cells cs 30 (0,0))∧l.length*6≤cs.size∧(∀ u∈cs.toList,Be u) ∧
 ∀ i a,l[i]?=some a→∃ x y z x' y' z',cs[i*6]?=some x∧cs[i*6+1]?=some y∧cs[i*6+2]?=some z∧cs[i*6+3]?=some x'∧cs[i*6+4]?=some y'∧cs[i*6+5]?=some z'∧IvR w (.agg #[x,y,z,x',y',z']) a
theorem DRow.kept (h:DRow w b l)(k:Kept w w'):DRow w' b l:=by
 obtain ⟨cs,h1,h2,h3,h4⟩:=h;refine ⟨cs,Bk h1 k,h2,h3,fun i a hi=>?_⟩;obtain ⟨x,y,z,x',y',z',a0,a1,a2,a3,a4,a5,hI⟩:=h4 i a hi;exact ⟨x,y,z,x',y',z',a0,a1,a2,a3,a4,a5,hI.kept k⟩
theorem DRow.kb (h:DRow w b l)(k:KB w X w')(hn:b∉X):DRow w' b l:=by
 obtain ⟨cs,h1,h2,h3,h4⟩:=h;refine ⟨cs,k.blk h1 hn,h2,h3,fun i a hi=>?_⟩;obtain ⟨x,y,z,x',y',z',a0,a1,a2,a3,a4,a5,hI⟩:=h4 i a hi;exact ⟨x,y,z,x',y',z',a0,a1,a2,a3,a4,a5,hI.kb k⟩
theorem DRow.lt (h:DRow w b l):b<w.heap.size:=by
 obtain ⟨cs,h1,-⟩:=h;exact (Array.getElem?_eq_some_iff.1 h1).1
theorem DRow.at (h:DRow w b l)(hi:l[i]?=some a):IvAt w b (i*6) a:=by
 obtain ⟨cs,h1,h2,h3,h4⟩:=h;obtain ⟨x,y,z,x',y',z',a0,a1,a2,a3,a4,a5,hI⟩:=h4 i a hi;exact ⟨x,y,z,x',y',z',Ae h1 _ _ a0,Ae h1 _ _ a1,Ae h1 _ _ a2,Ae h1 _ _ a3,Ae h1 _ _ a4,Ae h1 _ _ a5,hI⟩
theorem DRow.ivS (h:DRow w b l)(hc:l.length≤c):IvS w (.slice (some ⟨b,0,none⟩) l.length c) l :=
 ⟨_,_,rfl,hc,fun _=>⟨b,0,rfl,fun i a hi=>by rw [Nat.zero_add];exact h.at hi⟩⟩
theorem DRow.free (h:DRow w b l)(i:Nat):w.frozen? ⟨b,i,none⟩=false:=by
 obtain ⟨cs,h1,-⟩:=h;exact Ap h1 i
theorem DRow.set (h:DRow w b l)(hi:i<l.length){r:RawI}{z x' y' z':Value}(hI:IvR w (.agg #[x,y,z,x',y',z']) r) :
 DRow (T7 w b (i*6) x y z x' y' z') b (l.set i r)∧KB w [b] (T7 w b (i*6) x y z x' y' z'):=by
 obtain ⟨cs,h1,h2,h3,h4⟩:=h;have hkb:=Aiz (o:=i*6) h1 h3 x y z x' y' z';refine ⟨?_,hkb⟩;have hcl:=hI.cells
 have hb:(T7 w b (i*6) x y z x' y' z').heap[b]?=some (.cells ((((((cs.setIfInBounds (i*6) x).setIfInBounds (i*6+1) y).setIfInBounds (i*6+2) z).setIfInBounds (i*6+3) x').setIfInBounds (i*6+4) y').setIfInBounds (i*6+5) z') 30 (0,0)) :=
  Aw (Aw (Aw (Aw (Aw (Aw h1 x) y) z) x') y') z'
 have hg:∀ j,((((((cs.setIfInBounds (i*6) x).setIfInBounds (i*6+1) y).setIfInBounds (i*6+2) z).setIfInBounds (i*6+3) x').setIfInBounds (i*6+4) y').setIfInBounds (i*6+5) z')[j]? =
  if j=i*6+5 then some z' else if j=i*6+4 then some y' else if j=i*6+3 then some x' else if j=i*6+2 then some z else if j=i*6+1 then some y else if j=i*6 then some x else cs[j]?:=by
  intro j;simp only [Array.getElem?_setIfInBounds,Array.size_setIfInBounds,if_pos (show i*6+5<cs.size by omega),if_pos (show i*6+4<cs.size by omega),if_pos (show i*6+3<cs.size by omega),if_pos (show i*6+2<cs.size by omega),if_pos (show i*6+1<cs.size by omega),if_pos (show i*6<cs.size by omega),@eq_comm _ j]
 refine ⟨_,hb,by simpa using h2,?_,?_⟩
 ·intro u hu;obtain ⟨j,hj⟩:=Array.mem_iff_getElem?.1 (Array.mem_toList_iff.1 hu);rw [hg] at hj;split at hj
  ·cases hj;exact (hcl _ (by simp)).1
  split at hj
  ·cases hj;exact (hcl _ (by simp)).1
  split at hj
  ·cases hj;exact (hcl _ (by simp)).1
  split at hj
  ·cases hj;exact (hcl _ (by simp)).1
  split at hj
  ·cases hj;exact (hcl _ (by simp)).1
  split at hj
  ·cases hj;exact (hcl _ (by simp)).1
  ·exact h3 u (Array.mem_toList_iff.2 (Array.mem_of_getElem? hj))
 ·intro j a hja;rw [List.getElem?_set] at hja;by_cases e:i=j
  ·subst e;rw [if_pos rfl,if_pos hi] at hja;cases hja;refine ⟨x,y,z,x',y',z',?_,?_,?_,?_,?_,?_,hI.kb hkb⟩<;>rw [hg]
   ·rw [if_neg (by omega),if_neg (by omega),if_neg (by omega),if_neg (by omega),if_neg (by omega),if_pos rfl]
   ·rw [if_neg (by omega),if_neg (by omega),if_neg (by omega),if_neg (by omega),if_pos rfl]
   ·rw [if_neg (by omega),if_neg (by omega),if_neg (by omega),if_pos rfl]
   ·rw [if_neg (by omega),if_neg (by omega),if_pos rfl]
   ·rw [if_neg (by omega),if_pos rfl]
   ·rw [if_pos rfl]
  ·rw [if_neg e] at hja;obtain ⟨p,q,s,p',q',s',a0,a1,a2,a3,a4,a5,hI'⟩:=h4 j a hja;refine ⟨p,q,s,p',q',s',?_,?_,?_,?_,?_,?_,hI'.kb hkb⟩<;>rw [hg]
   ·rw [if_neg (by omega),if_neg (by omega),if_neg (by omega),if_neg (by omega),if_neg (by omega),if_neg (by omega)];exact a0
   ·rw [if_neg (by omega),if_neg (by omega),if_neg (by omega),if_neg (by omega),if_neg (by omega),if_neg (by omega)];exact a1
   ·rw [if_neg (by omega),if_neg (by omega),if_neg (by omega),if_neg (by omega),if_neg (by omega),if_neg (by omega)];exact a2
   ·rw [if_neg (by omega),if_neg (by omega),if_neg (by omega),if_neg (by omega),if_neg (by omega),if_neg (by omega)];exact a3
   ·rw [if_neg (by omega),if_neg (by omega),if_neg (by omega),if_neg (by omega),if_neg (by omega),if_neg (by omega)];exact a4
   ·rw [if_neg (by omega),if_neg (by omega),if_neg (by omega),if_neg (by omega),if_neg (by omega),if_neg (by omega)];exact a5
def Fr (v:Value) (base:Nat):Prop:=∀ g,v.ownBlock=some g→base≤g
def Lt (v:Value) (ub:Nat):Prop:=∀ g,v.ownBlock=some g→g<ub
theorem IvS.kb2 {base:Nat}(h:IvS W v l)(k:KB W X w)(hf:Fr v base)(hl:Lt v ub)(hX:∀ x∈X,x<base∨ub≤x):IvS w v l:=by
 refine h.kb k (fun g hg hx=>?_);have h1:=hf g hg;have h2:=hl g hg;rcases hX g hx with q | q<;>omega
def AllR (w:World) (ball n ub:Nat) (rows:List (List RawI))   : Prop:=∃ cs:Array Value,w.heap[ball]?=some (.cells cs 31 (0,0))∧cs.size=n∧(∀ u∈cs.toList,∃ A a c,u=.slice A a c) ∧
 ∀ (i:Nat) (r:List RawI),rows[i]?=some r→∃ s:Value,cs[i]?=some s∧IvS w s r∧Fr s (ball+1)∧Lt s ub
theorem AllR.nl (h:AllR w ball n ub rows):NoL w ball:=by
 obtain ⟨cs,h1,h2,h3,h4⟩:=h;refine ⟨cs,_,h1,fun u hu=>?_⟩;obtain ⟨A,a,c,rfl⟩:=h3 u hu;exact Ag _ _ _
theorem AllR.lt (h:AllR w ball n ub rows):ball<w.heap.size:=by
 obtain ⟨cs,h1,-⟩:=h;exact (Array.getElem?_eq_some_iff.1 h1).1
theorem AllR.free (h:AllR w ball n ub rows)(i:Nat):w.frozen? ⟨ball,i,none⟩=false:=by
 obtain ⟨cs,h1,-⟩:=h;exact Ap h1 i
theorem AllR.kb (h:AllR w ball n ub rows)(k:KB w X w')(hn:ball∉X)(hX:∀ x∈X,x<ball+1∨ub≤x):AllR w' ball n ub rows:=by
 obtain ⟨cs,h1,h2,h3,h4⟩:=h;refine ⟨cs,k.blk h1 hn,h2,h3,fun i r hi=>?_⟩;obtain ⟨s,a,b,c,d⟩:=h4 i r hi;exact ⟨s,a,b.kb2 k c d hX,c,d⟩
theorem AllR.kept (h:AllR w ball n ub rows)(k:Kept w w'):AllR w' ball n ub rows:=h.kb (k.kb []) (by simp) (by simp)
theorem AllR.at (h:AllR w ball n ub rows)(hi:rows[i]?=some r):∃ s,w.cell? ⟨ball,i,none⟩=some s∧IvS w s r∧Fr s (ball+1)∧Lt s ub:=by
 obtain ⟨cs,h1,h2,h3,h4⟩:=h;obtain ⟨s,a,b,c⟩:=h4 i r hi;exact ⟨s,Ae h1 _ _ a,b,c⟩
theorem AllR.put (h:AllR w ball n ub rows)(hk:rows.length<n){a:Nat} :
 AllR (w.setCell ⟨ball,rows.length,none⟩ (.slice A a c)) ball n ub rows∧KB w [ball] (w.setCell ⟨ball,rows.length,none⟩ (.slice A a c))∧(w.setCell ⟨ball,rows.length,none⟩ (.slice A a c)).cell? ⟨ball,rows.length,none⟩=some (.slice A a c):=by
 obtain ⟨cs,h1,h2,h3,h4⟩:=h;have hlt:rows.length<cs.size:=by omega
 obtain ⟨A0,a0,c0,h0⟩:=h3 cs[rows.length] (by simp);have hold:w.cell? ⟨ball,rows.length,none⟩=some (.slice A0 a0 c0):=Ae h1 _ _ (by rw [Array.getElem?_eq_getElem hlt,h0]);have hkb:=(KB.refl w [ball]).setCell (by simp) hold (Ag _ _ _) (.slice A a c);have hb:=Aw h1 (i:=rows.length) (.slice A a c);refine ⟨⟨_,hb,by simp [h2],?_,fun i r hi=>?_⟩,hkb,Ae hb _ _ (by simp [hlt])⟩
 ·intro u hu;obtain ⟨j,hj⟩:=Array.mem_iff_getElem?.1 (Array.mem_toList_iff.1 hu);rw [Array.getElem?_setIfInBounds] at hj;split at hj
  ·cases hj;exact ⟨_,_,_,rfl⟩
  ·exact h3 u (Array.mem_toList_iff.2 (Array.mem_of_getElem? hj))
 ·obtain ⟨s,q1,q2,q3,q4⟩:=h4 i r hi;have hil:=(List.getElem?_eq_some_iff.1 hi).1;refine ⟨s,?_,q2.kb2 hkb q3 q4 (by intro x hx;simp at hx;subst hx;exact .inl (Nat.lt_succ_self _)),q3,q4⟩;rw [Array.getElem?_setIfInBounds,if_neg (by omega)];exact q1
theorem AllR.snoc (h:AllR w ball n ub rows)(hc:w.cell? ⟨ball,rows.length,none⟩=some s)(hs:IvS w s r)(hf:Fr s (ball+1))(hl2:Lt s ub):AllR w ball n ub (rows++[r]):=by
 obtain ⟨cs,h1,h2,h3,h4⟩:=h;refine ⟨cs,h1,h2,h3,fun i q hi=>?_⟩;by_cases hl:i<rows.length
 ·rw [List.getElem?_append_left hl] at hi;exact h4 i q hi
 ·rw [List.getElem?_append_right (by omega)] at hi;obtain ⟨hz,he⟩:=List.getElem?_eq_some_iff.1 hi;simp at hz;obtain rfl:i=rows.length:=by omega
  simp at he;subst he;exact ⟨s,Rh h1 hc,hs,hf,hl2⟩
theorem AllR.mono {ub':Nat}(h:AllR w ball n ub rows)(hu:ub≤ub'):AllR w ball n ub' rows:=by
 obtain ⟨cs,h1,h2,h3,h4⟩:=h;refine ⟨cs,h1,h2,h3,fun i r hi=>?_⟩;obtain ⟨s,a,b,c,d⟩:=h4 i r hi;exact ⟨s,a,b,c,fun g hg=>Nat.lt_of_lt_of_le (d g hg) hu⟩
theorem Ano:(Tryz.prog.info? 31).map (fun i=>(i.zero,i.size,i.bytes))=some (some (.slice none 0 0),1,24):=by kernel_rfl
theorem Adm (w:World)(hn:n≤1000):∃ V,(Instr.makeSlice 38 (.int .i64 n) (.int .i64 n)).run Tryz.prog w=.ok (.slice (some ⟨w.heap.size,0,none⟩) n n) V∧Kept w V∧w.heap.size<V.heap.size∧AllR V w.heap.size n V.heap.size []:=by
 obtain ⟨i0,hi,hz0,hz1,hz2⟩:=info_parts Ano;have hr:=run_make (P:=Tryz.prog) w 38 31 i0 _ Tryz.underlying38 hi hz0 .i64 .i64 n n (by omega) (Int.le_refl _) (by rw [hz2];omega) (by omega);simp only [Int.toNat_natCast] at hr;refine ⟨_,hr,Ad _ _,by simp,_,heap_alloc_new _ _,by rw [size_madeCells,hz1,Nat.mul_one],fun u hu=>?_,by simp⟩;have:=Ki (by decide) hu;simp [Value.cells] at this;exact ⟨_,_,_,this⟩
theorem Adn (w:World)(hn:n≤1000000000):∃ V,(Instr.makeSlice 31 (.int .i64 n) (.int .i64 n)).run Tryz.prog w=.ok (.slice (some ⟨w.heap.size,0,none⟩) n n) V∧Kept w V∧w.heap.size<V.heap.size∧DRow V w.heap.size (List.replicate n rzI):=by
 obtain ⟨i0,hi,hz0,hz1,hz2⟩:=info_parts X6;have hr:=run_make (P:=Tryz.prog) w 31 30 i0 _ Tryz.underlying31 hi hz0 .i64 .i64 n n (by omega) (Int.le_refl _) (by rw [hz2];omega) (by omega);simp only [Int.toNat_natCast] at hr;refine ⟨_,hr,Ad _ _,by simp,_,heap_alloc_new _ _,by rw [size_madeCells,hz1,List.length_replicate];exact Nat.le_refl _,fun u hu=>Nv u (Ki (by decide) hu),fun i a ha=>?_⟩;rw [hz1];have hlt:i<n:=by have:=(List.getElem?_eq_some_iff.1 ha).1;simpa using this
 obtain rfl:a=rzI:=by
  rw [List.getElem?_replicate,if_pos hlt] at ha;exact (Option.some.inj ha).symm
 have hc:∀ t,t<6→(madeCells (Value.agg #[.bool false,.slice none 0 0,.int .i64 0,.bool false,.slice none 0 0,.int .i64 0]).cells (n*6))[i*6+t]?=some ((Value.agg #[.bool false,.slice none 0 0,.int .i64 0,.bool false,.slice none 0 0,.int .i64 0]).cells[t]!):=by
  intro t ht;have hb:i*6+t<n*6:=by omega
  have hm:(i*6+t)%6=t:=by omega
  unfold madeCells;rw [Array.getElem?_map,Array.getElem?_range,if_pos hb,Option.map_some]
  show some (_:Value)=_
  have hs:(Value.agg #[.bool false,.slice none 0 0,.int .i64 0,.bool false,.slice none 0 0,.int .i64 0]).cells.size=6:=rfl;rw [hs,hm]
 exact ⟨_,_,_,_,_,_,hc 0 (by decide),hc 1 (by decide),hc 2 (by decide),hc 3 (by decide),hc 4 (by decide),hc 5 (by decide),Ep _⟩
def Rws (w:World) (v:Value) (rows:List (List RawI)):Prop:=∃ A c,v=.slice A rows.length c∧rows.length≤c∧(0<rows.length→∃ b off,A=some ⟨b,off,none⟩∧∀ (i:Nat) (r:List RawI),rows[i]?=some r→∃ s:Value,w.cell? ⟨b,off+i,none⟩=some s∧IvS w s r)
theorem Ajt (w:World):Rws w (.slice none 0 0) []:=⟨none,0,rfl,Nat.le_refl _,fun h=>absurd h (by simp)⟩
theorem Rws.kept (h:Rws w v rows)(k:Kept w w'):Rws w' v rows:=by
 obtain ⟨A,c,e,hc,h⟩:=h;refine ⟨A,c,e,hc,fun h0=>?_⟩;obtain ⟨b,off,rfl,hd⟩:=h h0;exact ⟨b,off,rfl,fun i r hi=>(hd i r hi).imp fun s hs=>⟨(k.cell (p:=⟨b,off+i,none⟩) (Am hs.1)).trans hs.1,hs.2.kept k⟩⟩
def SlC (u:Value):Prop:=∃ A a c,u=.slice A a c
theorem SlC.nl (h:SlC u):Be u:=by
 obtain ⟨A,a,c,rfl⟩:=h;exact Ag _ _ _
theorem AllC.nol {g:Nat}(h:AllC SlC w g):NoL w g:=by
 obtain ⟨cur,e,h1,h2⟩:=h;exact ⟨cur,e,h1,fun u hu=>(h2 u hu).nl⟩
theorem IvAt.grownR (h:IvAt w b o a)(hg:w.grownBy w' row)(hN:∀ g,row=some g→AllC SlC w g):IvAt w' b o a:=by
 obtain ⟨x,y,z,x',y',z',h0,h1,h2,h3,h4,h5,hI⟩:=h;have hb:=Am h0;have hne:row≠some b:=by
  intro hr;obtain ⟨cur,e,q1,q2⟩:=hN b hr;obtain ⟨A1,l1,c1,A2,l2,c2,ei,-,-⟩:=Aq hI;injection ei with ei;injection ei with ei
  simp only [List.cons.injEq,and_true] at ei;obtain ⟨rfl,rfl,rfl,rfl,rfl,rfl⟩:=ei;simp only [World.cell?,q1] at h0;have h6:cur[o]?=some (.bool a.lo.neg):=by simpa using h0
  rw [←Array.getElem?_toList] at h6;obtain ⟨A,x,c,e⟩:=q2 _ (List.mem_of_getElem? h6);cases e
 have hc:∀ k v,w.cell? ⟨b,k,none⟩=some v→w'.cell? ⟨b,k,none⟩=some v:=by
  intro k v hv;have:=hg.block b hb (Ne.symm hne);simp only [World.cell?,this];simpa only [World.cell?] using hv
 exact ⟨x,y,z,x',y',z',hc _ _ h0,hc _ _ h1,hc _ _ h2,hc _ _ h3,hc _ _ h4,hc _ _ h5,hI.grown hg fun g hg'=>(hN g hg').nol⟩
theorem IvS.grownR (h:IvS w v l)(hg:w.grownBy w' row)(hN:∀ g,row=some g→AllC SlC w g):IvS w' v l:=by
 obtain ⟨A,c,e,hc,h⟩:=h;refine ⟨A,c,e,hc,fun h0=>?_⟩;obtain ⟨b,off,rfl,hd⟩:=h h0;exact ⟨b,off,rfl,fun i a hi=>(hd i a hi).grownR hg hN⟩
structure OwnR (w:World) (base:Nat) (v:Value) (l:List (List RawI)) (xs:List Value):Prop where
 row:w.ownsRow base 31 1 v l.length xs
 sl:∀ u∈xs,SlC u
 blk:∀ g,v.ownBlock=some g→AllC SlC w g
 rws:∀ (i:Nat) (r:List RawI),l[i]?=some r→∃ s:Value,xs[i]?=some s∧IvS w s r
theorem OwnR.nil (w:World)(base:Nat):OwnR w base (.slice none 0 0) [] [] :=
 ⟨World.ownsRow_nil _ _ _ _,by simp,(by intro g h;simp [Value.ownBlock] at h),by simp⟩
theorem OwnR.kept {base:Nat}{l:List (List RawI)}(h:OwnR w base v l xs)(k:Kept w w'):OwnR w' base v l xs:=by
 obtain ⟨h1,h2,h3,h4⟩:=h;refine ⟨⟨h1.1,?_⟩,h2,?_,?_⟩
 ·rcases h1.2 with hn | ⟨g,cap,cur,rfl,hb,hg,rest⟩
  ·exact .inl hn
  ·exact .inr ⟨g,cap,cur,rfl,hb,(k.block g (Array.getElem?_eq_some_iff.1 hg).1).trans hg,rest⟩
 ·intro g hg;obtain ⟨cur,e,q1,q2⟩:=h3 g hg;exact ⟨cur,e,(k.block g (Array.getElem?_eq_some_iff.1 q1).1).trans q1,q2⟩
 ·intro i d hi;obtain ⟨s,a0,hd⟩:=h4 i d hi;exact ⟨s,a0,hd.kept k⟩
theorem OwnR.all {base:Nat}{l:List (List RawI)}(h:OwnR w base v l xs):Rws w v l:=by
 obtain ⟨h1,h2,h3,h4⟩:=h;have hc:=h1.2;rcases hc with ⟨rfl,h0⟩ | ⟨g,cap,cur,rfl,hb,hg,hn,-⟩
 ·obtain rfl:l=[]:=List.eq_nil_of_length_eq_zero h0;exact Ajt _
 ·refine ⟨_,cap,rfl,hn,fun _=>⟨g,0,rfl,fun i d hi=>?_⟩⟩;obtain ⟨s,a0,hd⟩:=h4 i d hi;have cl:=h1.cells (g:=g) rfl;have ad:∀ j,(⟨g,0,none⟩:Addr).add j=⟨g,j,none⟩:=by intro j;unfold Addr.add;split<;>simp_all
  refine ⟨s,?_,hd⟩;have:=cl _ _ a0;rw [ad] at this;simpa using this
theorem OwnR.snoc {base:Nat}{v':Value}{l:List (List RawI)}{a:List RawI}(h:OwnR w base v l xs)
 (hd:IvS w s a) (hr:w'.ownsRow base 31 1 v' (l.length+1) (xs++[s])) (hg:w.grownBy w' v.ownBlock) (hv':v'.ownBlock=some g') (hN:AllC SlC w' g') :
 OwnR w' base v' (l++[a]) (xs++[s]):=by
 obtain ⟨h1,h2,h3,h4⟩:=h;refine ⟨by simpa using hr,?_,?_,?_⟩
 ·intro u hu;rcases List.mem_append.1 hu with hu | hu
  ·exact h2 u hu
  ·simp only [List.mem_singleton] at hu;subst hu;obtain ⟨A,c,rfl,-⟩:=hd;exact ⟨_,_,_,rfl⟩
 ·intro g hg;rw [hv'] at hg;cases hg;exact hN
 ·intro i e hi;have hxl:=h1.1;by_cases hlt:i<l.length
  ·rw [List.getElem?_append_left hlt] at hi;obtain ⟨s0,a0,hd'⟩:=h4 i e hi;refine ⟨s0,?_,hd'.grownR hg h3⟩;rw [List.getElem?_append_left (by omega)];exact a0
  ·rw [List.getElem?_append_right (by omega)] at hi;obtain ⟨hz,he⟩:=List.getElem?_eq_some_iff.1 hi;simp at hz;have hi':i=l.length:=by omega
   subst hi';simp at he;subst he;refine ⟨s,?_,hd.grownR hg h3⟩;rw [List.getElem?_append_right (by omega),hxl,show l.length-l.length*1=0 by omega];rfl
theorem OwnR.base {base:Nat}{l:List (List RawI)}(h:OwnR w base v l xs):∀ g,v.ownBlock=some g→base≤g:=by
 intro g hg;rcases h.row.2 with ⟨rfl,-⟩ | ⟨g',cap,cur,rfl,hb,-⟩
 ·simp [Value.ownBlock] at hg
 ·simp [Value.ownBlock] at hg;subst hg;exact hb
theorem OwnR.grown_kept {l:List (List RawI)}(h:OwnR w W.heap.size v l xs)(k:Kept W w)(hg:w.grownBy w' v.ownBlock):Kept W w' :=
 Below.grown k hg k.size (fun g hg'=>h.base g hg')
theorem Anm:(Tryz.prog.info? 31).map (fun i=>(i.zero,i.size,i.bytes))=some (some (.slice none 0 0),1,24):=by kernel_rfl
theorem IvAt.word {b':Nat}(h:IvAt w b' o a)(hb:w.heap[b]?=some (.cells #[x] T (0,0)))(hx:Be x)(y:Value):IvAt (w.setCell ⟨b,0,none⟩ y) b' o a:=by
 obtain ⟨p,q,r,p',q',r',h0,h1,h2,h3,h4,h5,hI⟩:=h;have hne:¬b'=b:=by
  rintro rfl;simp only [World.cell?,hb] at h5;simp at h5
 have k:KB w [b] (w.setCell ⟨b,0,none⟩ y):=(KB.refl w [b]).setCell (by simp) (Ae hb 0 x rfl) hx y;exact IvAt.kb ⟨p,q,r,p',q',r',h0,h1,h2,h3,h4,h5,hI⟩ k (by simpa using hne)
theorem IvS.word (h:IvS w v l)(hb:w.heap[b]?=some (.cells #[x] T (0,0)))(hx:Be x)(y:Value):IvS (w.setCell ⟨b,0,none⟩ y) v l:=by
 obtain ⟨A,c,e,hc,h⟩:=h;refine ⟨A,c,e,hc,fun h0=>?_⟩;obtain ⟨b',off,rfl,hd⟩:=h h0;exact ⟨b',off,rfl,fun i a hi=>(hd i a hi).word hb hx y⟩
theorem Rws.word {l:List (List RawI)}(h:Rws w v l)(hv:v.ownBlock≠some b∨l=[])(hb:w.heap[b]?=some (.cells #[x] T (0,0)))(hx:Be x)(y:Value):Rws (w.setCell ⟨b,0,none⟩ y) v l:=by
 obtain ⟨A,c,e,hc,h⟩:=h;refine ⟨A,c,e,hc,fun h0=>?_⟩;obtain ⟨b',off,rfl,hd⟩:=h h0;have hne:¬b'=b:=by
  rcases hv with hv | rfl
  ·rintro rfl;rw [e] at hv;exact hv rfl
  ·exact absurd h0 (by simp)
 have k:KB w [b] (w.setCell ⟨b,0,none⟩ y):=(KB.refl w [b]).setCell (by simp) (Ae hb 0 x rfl) hx y;exact ⟨b',off,rfl,fun i r hi=>(hd i r hi).imp fun s hs=>⟨k.cell hs.1 (by simpa using hne),hs.2.word hb hx y⟩⟩
theorem Ah7 {t0 t1 t2 t3 t4 t5:Value}(ty:TypeId)(ho:OwnI w B v l xs)(hnil:l=[]→v=.slice none 0 0)(hl:l.length≤1000)(hB:B≤w.heap.size)
 (hb:BlkI w bt t0 t1 t2 t3 t4 t5) (hd:IvR w (.agg #[t0,t1,t2,t3,t4,t5]) d) :
 ∃ v' w' g', (Builtin.append_ #[31, 31] ty #[v, .slice (some ⟨bt, 0, none⟩) 1 1]).run Tryz.prog w = .ok v' w' ∧ OwnI w' B v' (l ++ [d]) (xs ++ [t0, t1, t2, t3, t4, t5]) ∧ w.grownBy w' v.ownBlock ∧
   (∀ (b:Nat) (cs:Array Value) (T:TypeId),w.heap[b]?=some (.cells cs T (0,0))→cs.size<12→w'.heap[b]?=some (.cells cs T (0,0)))∧v'.ownBlock=some g'∧(v.ownBlock=some g'∨w.heap.size≤g')∧g'<w'.heap.size:=by
 obtain ⟨i0,hi,hz0,hz1,hz2⟩:=info_parts X6;obtain ⟨-,c0,c1,c2,c3,c4,c5⟩:=hb.facts;have hcl:=hd.cells;have ad:∀ (b j:Nat),(⟨b,0,none⟩:Addr).add j=⟨b,j,none⟩:=by intro b j;unfold Addr.add;split<;>simp_all
 have hnews:∀ (j:Nat) (u:Value),[t0,t1,t2,t3,t4,t5][j]?=some u→w.cell? ((⟨bt,0,none⟩:Addr).add j)=some u:=by
  intro j u hu;rw [ad];rcases j with _ | _ | _ | _ | _ | _ | j
  ·cases hu;exact c0
  ·cases hu;exact c1
  ·cases hu;exact c2
  ·cases hu;exact c3
  ·cases hu;exact c4
  ·cases hu;exact c5
  ·simp at hu
 obtain ⟨v',w',g',hr,h2,h3,h4,h5⟩:=Hl (P:=Tryz.prog) w B 31 ty 30 i0 _ 6 80 Tryz.underlying31 hi hz0 hz1 hz2 rfl (by decide) v l.length xs ho.row ⟨bt,0,none⟩ 1 1 [t0,t1,t2,t3,t4,t5] rfl hnews (fun u hu=>(hcl u hu).2) (by unfold maxLen;omega) (by omega) hB (by decide) ho.nl (fun u hu=>(hcl u hu).1) Nv ho.blk;have hown':=ho.snoc hd h2 h3 h4 h5;have hlt:g'<w'.heap.size:=by
  obtain ⟨cr,e,q1,-⟩:=h5;exact (Array.getElem?_eq_some_iff.1 q1).1
 by_cases hl0:l=[]
 ·subst hl0;obtain rfl:=hnil rfl;have hx:xs=[]:=List.eq_nil_of_length_eq_zero (by simpa using ho.row.1);subst hx;have hr2:=run_append_nil (P:=Tryz.prog) w 31 ty 30 i0 _ Tryz.underlying31 hi hz0 ⟨bt,0,none⟩ 1 1 [t0,t1,t2,t3,t4,t5] (by rw [hz1];rfl) hnews (by decide) (by decide) (by rw [hz2];decide);rw [hr2] at hr;injection hr with e1 e2
  have kk:Kept w w':=by rw [←e2];exact (Below.refl _ _).drew.alloc (Nat.le_refl _) _
  have hg':w.heap.size=g':=by rw [←e1] at h4;simpa [Value.ownBlock] using h4
  rw [e1,e2] at hr2;exact ⟨v',w',g',hr2,hown',h3,fun b cs T hb2 _=>(kk.block b (Array.getElem?_eq_some_iff.1 hb2).1).trans hb2,h4,.inr (Nat.le_of_eq hg'),hlt⟩
 have hn:0<l.length:=List.length_pos_iff.2 hl0;rcases ho.row.2 with ⟨-,h0⟩ | ⟨g,cap,cur,rfl,hbg,hg,hnc,hcm,hcs,htake⟩
 ·omega
 have h3':w.grownBy w' (some g):=h3;have oth:∀ (b:Nat) (o:Obj),b≠g→w.heap[b]?=some o→w'.heap[b]?=some o:=fun b o hne hb'=>by
  rw [h3'.block b (Array.getElem?_eq_some_iff.1 hb').1 (fun e=>hne (Option.some.inj e))];exact hb'
 by_cases hroom:l.length+1≤cap
 ·have hsz:12≤cur.size:=by rw [hcs];omega
  have hr2:=run_append_room (P:=Tryz.prog) w 31 ty 30 i0 Tryz.underlying31 hi g l.length cap cur hg ⟨bt,0,none⟩ 1 1 [t0,t1,t2,t3,t4,t5] (by rw [hz1];rfl) hnews (fun u hu=>(hcl u hu).2) hroom (by rw [hz1,hcs];simp only [List.length_cons,List.length_nil];omega);rw [hz1] at hr2;rw [hr2] at hr;injection hr with e1 e2
  subst e1;subst e2;obtain rfl:g=g':=by simpa [Value.ownBlock] using h4
  refine ⟨_,_,g,hr2,hown',h3,?_,rfl,.inl rfl,hlt⟩;intro b cs T hb2 hlt;refine oth b _ ?_ hb2;rintro rfl;rw [hg] at hb2;injection hb2 with hb2
  injection hb2 with hb2
  subst hb2;omega
 ·have holds:∀ j u,xs[j]?=some u→w.cell? ((⟨g,0,none⟩:Addr).add j)=some u:=ho.row.cells (g:=g) rfl;have hr2:=run_append_grow (P:=Tryz.prog) w 31 ty 30 i0 _ Tryz.underlying31 hi hz0 ⟨g,0,none⟩ l.length cap xs (by rw [hz1];exact ho.row.1) holds ⟨bt,0,none⟩ 1 1 [t0,t1,t2,t3,t4,t5] (by rw [hz1];rfl) hnews (by omega) (by omega) (growslice_fits (by omega) (by rw [hz2];omega));rw [hr2] at hr;injection hr with e1 e2
  have kk:Kept w w':=by rw [←e2];exact (Below.refl _ _).drew.alloc (Nat.le_refl _) _
  have hg':w.heap.size=g':=by rw [←e1] at h4;simpa [Value.ownBlock] using h4
  rw [e1,e2] at hr2;exact ⟨v',w',g',hr2,hown',h3,fun b cs T hb2 _=>(kk.block b (Array.getElem?_eq_some_iff.1 hb2).1).trans hb2,h4,.inr (Nat.le_of_eq hg'),hlt⟩
theorem OwnI.apart (h:OwnI w B v l xs)(hg:w.grownBy w' row)(hN:∀ g,row=some g→NoL w g)(hne:∀ g,v.ownBlock=some g→row≠some g):OwnI w' B v l xs:=by
 obtain ⟨h1,h2,h3,h4,h5⟩:=h;refine ⟨⟨h1.1,?_⟩,h2,h3,?_,?_⟩
 ·rcases h1.2 with hn | ⟨g,cap,cr,rfl,hb2,hg2,rest⟩
  ·exact .inl hn
  ·exact .inr ⟨g,cap,cr,rfl,hb2,(hg.block g (Array.getElem?_eq_some_iff.1 hg2).1 (fun e=>hne g rfl e.symm)).trans hg2,rest⟩
 ·intro g hg2;obtain ⟨cr,e,q1,q2⟩:=h4 g hg2;exact ⟨cr,e,(hg.block g (Array.getElem?_eq_some_iff.1 q1).1 (fun e=>hne g hg2 e.symm)).trans q1,q2⟩
 ·intro i a hi;obtain ⟨p0,p1,p2,p3,p4,p5,s0,s1,s2,s3,s4,s5,hI⟩:=h5 i a hi;exact ⟨p0,p1,p2,p3,p4,p5,s0,s1,s2,s3,s4,s5,hI.grown hg hN⟩
def Em (v:Value):List Nat:=v.ownBlock.toList
theorem Kv {g:Nat}:g∈Em v↔v.ownBlock=some g:=by unfold Em;simp [Option.mem_toList,eq_comm]
theorem OwnI.blt (h:OwnI w B v l xs):∀ g,v.ownBlock=some g→g<w.heap.size:=fun g hg=>by
 obtain ⟨cr,e,q1,-⟩:=h.blk g hg;exact (Array.getElem?_eq_some_iff.1 q1).1
theorem OwnR.blt {l:List (List RawI)}(h:OwnR w B v l xs):∀ g,v.ownBlock=some g→g<w.heap.size:=fun g hg=>by
 obtain ⟨cr,e,q1,-⟩:=h.blk g hg;exact (Array.getElem?_eq_some_iff.1 q1).1
theorem OwnI.notS (h:OwnI w B v l xs)(hl:l≠[]){g:Nat}(hg:v.ownBlock=some g):¬AllC SlC w g:=by
 rintro ⟨cur,e,q1,q2⟩;obtain ⟨a,ha⟩:∃ a,l[0]?=some a:=⟨_,List.getElem?_eq_getElem (List.length_pos_iff.2 hl)⟩;obtain ⟨x,y,z,x',y',z',a0,-,-,-,-,-,hI⟩:=h.ivs 0 a ha;obtain ⟨A1,l1,c1,A2,l2,c2,ei,-,-⟩:=Aq hI;injection ei with ei;injection ei with ei
 simp only [List.cons.injEq,and_true] at ei;obtain ⟨rfl,rfl,rfl,rfl,rfl,rfl⟩:=ei;have hc:=h.row.cells (g:=g) hg _ _ a0;rw [show (⟨g,0,none⟩:Addr).add (0*6)=⟨g,0,none⟩ by unfold Addr.add;split<;>simp_all] at hc;obtain ⟨A,n,c,e⟩:=q2 _ (Array.mem_toList_iff.2 (Array.mem_of_getElem? (by simpa [World.cell?,q1] using hc:cur[0]?=some (.bool a.lo.neg))));cases e
theorem IvS.apart (h:IvS w v l)(hg:w.grownBy w' row)(hN:∀ g,row=some g→NoL w g)(hne:∀ g,v.ownBlock=some g→row≠some g):IvS w' v l:=by
 obtain ⟨A,c,rfl,hc,h⟩:=h;refine ⟨A,c,rfl,hc,fun h0=>?_⟩;obtain ⟨b,off,rfl,hd⟩:=h h0;have hcl:∀ k v,w.cell? ⟨b,k,none⟩=some v→w'.cell? ⟨b,k,none⟩=some v:=by
  intro k v hv;have:=hg.block b (Am hv) (fun e=>hne b rfl e.symm);simp only [World.cell?,this];simpa only [World.cell?] using hv
 refine ⟨b,off,rfl,fun i a hi=>?_⟩;obtain ⟨x,y,z,x',y',z',h0,h1,h2,h3,h4,h5,hI⟩:=hd i a hi;exact ⟨x,y,z,x',y',z',hcl _ _ h0,hcl _ _ h1,hcl _ _ h2,hcl _ _ h3,hcl _ _ h4,hcl _ _ h5,hI.grown hg hN⟩
theorem OwnR.apartI {l:List (List RawI)}(h:OwnR w B v l xs)(hg:w.grownBy w' row)(hN:∀ g,row=some g→NoL w g)(hS:∀ g,row=some g→¬AllC SlC w g)
 (hap:∀ s∈xs,∀ g,s.ownBlock=some g→row≠some g):OwnR w' B v l xs:=by
 have hne:∀ g,v.ownBlock=some g→row≠some g:=fun g hgv e=>hS g e (h.blk g hgv)
 obtain ⟨h1,h2,h3,h4⟩:=h;refine ⟨⟨h1.1,?_⟩,h2,?_,?_⟩
 ·rcases h1.2 with hn | ⟨g,cap,cr,rfl,hb2,hg2,rest⟩
  ·exact .inl hn
  ·exact .inr ⟨g,cap,cr,rfl,hb2,(hg.block g (Array.getElem?_eq_some_iff.1 hg2).1 (fun e=>hne g rfl e.symm)).trans hg2,rest⟩
 ·intro g hg2;obtain ⟨cr,e,q1,q2⟩:=h3 g hg2;exact ⟨cr,e,(hg.block g (Array.getElem?_eq_some_iff.1 q1).1 (fun e=>hne g hg2 e.symm)).trans q1,q2⟩
 ·intro i a hi;obtain ⟨s,a0,hI⟩:=h4 i a hi;exact ⟨s,a0,hI.apart hg hN (hap s (List.mem_of_getElem? a0))⟩
theorem OwnI.apartR (h:OwnI w B v l xs)(hnil:l=[]→v=.slice none 0 0)(hg:w.grownBy w' row)(hS:∀ g,row=some g→AllC SlC w g):OwnI w' B v l xs :=
 h.apart hg (fun g e=>(hS g e).nol) (fun g hgv e=>by
  by_cases hl:l=[]
  ·rw [hnil hl] at hgv;cases hgv
  ·exact h.notS hl hgv (hS g e))
theorem Ak1 {l:List (List RawI)}(ty:TypeId)(ho:OwnR w B v l xs)(hl:l.length≤1000)(hB:B≤w.heap.size)
 (hc:w.cell? ⟨bt,0,none⟩=some s) (hs:IvS w s r) :
 ∃ v' w' g',(Builtin.append_ #[38,38] ty #[v,.slice (some ⟨bt,0,none⟩) 1 c]).run Tryz.prog w=.ok v' w'∧OwnR w' B v' (l++[r]) (xs++[s])∧w.grownBy w' v.ownBlock∧v'.ownBlock=some g':=by
 obtain ⟨i0,hi,hz0,hz1,hz2⟩:=info_parts Anm;have ad:∀ j,(⟨bt,0,none⟩:Addr).add j=⟨bt,j,none⟩:=by intro j;unfold Addr.add;split<;>simp_all
 have hu:SlC s:=by obtain ⟨A,c,rfl,-⟩:=hs;exact ⟨_,_,_,rfl⟩
 have hu1:s.oneCell'=true:=by obtain ⟨A,c,rfl,-⟩:=hs;rfl
 obtain ⟨v',w',g',hr,h2,h3,h4,h5⟩:=Tg (p:=SlC) (P:=Tryz.prog) w B 38 ty 31 i0 _ 1 24 Tryz.underlying38 hi hz0 hz1 hz2 rfl (by decide) v l.length xs ho.row ⟨bt,0,none⟩ 1 c [s] rfl
  (fun j u hj=>by
    rw [ad];rcases j with _ | j
    ·cases hj;exact hc
    ·simp at hj) (fun u hu'=>by simp only [List.mem_singleton] at hu';rw [hu'];exact hu1) (by unfold maxLen;omega) (by omega) hB (by decide) ho.sl (fun u hu'=>by simp only [List.mem_singleton] at hu';rw [hu'];exact hu)
  (fun u hu'=>by simp [Value.cells] at hu';rw [hu'];exact ⟨_,_,_,rfl⟩) ho.blk
 exact ⟨v',w',g',hr,ho.snoc hs h2 h3 h4 h5,h3,h4⟩
end Go.Proofs.YtabjjdicffcolaaGreatDoor
