/- Words and contracts, part 31. -/
import Derived.Test.YtmgaloopddiekaaGreatDoorClaimFargsp29
import Derived.Maps.OwnSet
set_option maxRecDepth 100000
set_option maxHeartbeats 0
namespace Go.Proofs.YtmgaloopddiekaaGreatDoor
open Go.RowKit Go.Maps
def Afw (x u p:Int):DataW Unit:=(((DataW.map []).put (.int .i64 3) (.lit (.int .i64 x))).put (.int .i64 4) (.lit (.int .i64 u))).put (.int .i64 5) (.lit (.int .i64 p))
def MapR (w:World) (v:Value) (x u p:Int):Prop:=∃ b n,v=.map (some b)∧w.ownsMap Tryz.prog 3 (plainElem Tryz.prog 3) b n (Afw x u p)
def Pw (op x u p:Int):Int:=if op=3 then x else if op=4 then u else if op=5 then p else 0
def isP (op:Int):Bool:=decide (op=3)||decide (op=4)||decide (op=5)
theorem MapR.kept {w w':World}{v:Value}{x u p:Int}(h:MapR w v x u p)(k:Kept w w'):MapR w' v x u p:=by
 obtain ⟨b,n,rfl,h⟩:=h;exact ⟨b,n,rfl,h.kept (row:=none) ⟨k.os,k.tape,k.output,k.size,fun b hb _=>k.block b hb⟩ (by simp)⟩
theorem Afx (x u p op:Int):(Afw x u p).atKey (.int .i64 op) (.lit (.int .i64 0))=.lit (.int .i64 (Pw op x u p))∧Maps.has (Afw x u p) (.int .i64 op)=isP op:=by
 have e:Afw x u p=.map [(.int .i64 3,.lit (.int .i64 x)),(.int .i64 4,.lit (.int .i64 u)),(.int .i64 5,.lit (.int .i64 p))]:=by rfl
 rw [e];unfold Pw isP;by_cases h3:op=3
 ·subst h3;exact ⟨rfl,rfl⟩
 ·by_cases h4:op=4
  ·subst h4;exact ⟨rfl,rfl⟩
  ·by_cases h5:op=5
   ·subst h5;exact ⟨rfl,rfl⟩
   ·have g3:¬(3:Int)=op:=fun h=>h3 h.symm
    have g4:¬(4:Int)=op:=fun h=>h4 h.symm
    have g5:¬(5:Int)=op:=fun h=>h5 h.symm
    constructor
    ·rw [if_neg h3,if_neg h4,if_neg h5];simp [DataW.atKey,Lit.sameKey,g3,g4,g5]
    ·simp [Maps.has,Lit.sameKey,g3,g4,g5,h3,h4,h5]
theorem MapR.look {w:World}{v:Value}{x u p op:Int}(h:MapR w v x u p)(h1:-9223372036854775808≤op)(h2:op≤9223372036854775807) :
 (Instr.lookup 121 v (.int .i64 op) true).run Tryz.prog w=.ok (.tuple #[.int .i64 (Pw op x u p),.bool (isP op)]) w:=by
 obtain ⟨b,n,rfl,hown⟩:=h;have hz:(zeroValue 3).run Tryz.prog w=.ok (.int .i64 0) w:=by kernel_rfl
 have hw0:(Lit.int .i64 0).wf=true:=by decide
 have hop:(Lit.int .i64 op).wf=true:=WalkArith.wf_i64 ⟨h1,h2⟩;obtain ⟨v,ps,hrun,hv⟩:=hown.look_ok (int_keyed Tryz.underlying3) Tryz.underlying121 hz (plainElem_int Tryz.underlying3 hw0) (keyOf_int_mk Tryz.underlying3 hop);obtain ⟨c,rfl,hc,-⟩:=plainElem_int_inv Tryz.underlying3 hv;obtain ⟨a1,a2⟩:=Afx x u p op;simp only [Prod.mk.injEq] at hc;rw [a1] at hc;have e:c=Pw op x u p:=by
  have h:=hc.1;simp only [DataW.lit.injEq,Lit.int.injEq,true_and] at h;exact h.symm
 rw [hrun,a2,e]
theorem Zq (w:World){x u p:Int}(hx1:-9223372036854775808≤x)(hx2:x≤9223372036854775807)(hu1:-9223372036854775808≤u)(hu2:u≤9223372036854775807)(hp1:-9223372036854775808≤p)(hp2:p≤9223372036854775807) :
 ∃ w1 w2 w3, (Instr.mapUpdate 121 (.map (some w.heap.size)) (.int .i64 3) (.int .i64 x)).run Tryz.prog (w.alloc (.map #[] 0)) = .ok () w1 ∧
   (Instr.mapUpdate 121 (.map (some w.heap.size)) (.int .i64 4) (.int .i64 u)).run Tryz.prog w1=.ok () w2 ∧
   (Instr.mapUpdate 121 (.map (some w.heap.size)) (.int .i64 5) (.int .i64 p)).run Tryz.prog w2=.ok () w3 ∧
   MapR w3 (.map (some w.heap.size)) x u p∧Kept w w3:=by
 have K:Keyed Tryz.prog 3:=int_keyed Tryz.underlying3;have o0:=World.ownsMap_made (H:=Unit) w Tryz.prog 3 (plainElem Tryz.prog 3);obtain ⟨w1,r1,o1,g1⟩:=o0.update K Tryz.underlying121 (by unfold maxLen;decide) (keyOf_int_mk (a:=3) Tryz.underlying3 (by decide)) (plainElem_int Tryz.underlying3 (WalkArith.wf_i64 ⟨hx1,hx2⟩));obtain ⟨w2,r2,o2,g2⟩:=o1.update K Tryz.underlying121 (by unfold maxLen;decide) (keyOf_int_mk (a:=4) Tryz.underlying3 (by decide)) (plainElem_int Tryz.underlying3 (WalkArith.wf_i64 ⟨hu1,hu2⟩));obtain ⟨w3,r3,o3,g3⟩:=o2.update K Tryz.underlying121 (by unfold maxLen;decide) (keyOf_int_mk (a:=5) Tryz.underlying3 (by decide)) (plainElem_int Tryz.underlying3 (WalkArith.wf_i64 ⟨hp1,hp2⟩))
 refine ⟨w1,w2,w3,r1,r2,r3,⟨_,_,rfl,o3⟩,?_⟩;have k0:=Ad w (.map #[] 0);have st:∀ a b:World,Kept w a→a.grownBy b (some w.heap.size)→Kept w b:=fun a b k g =>
  ⟨g.os.trans k.os,g.tape.trans k.tape,g.output.trans k.output,Nat.le_trans k.size g.size,fun i hi=>(g.block i (Nat.lt_of_lt_of_le hi k.size) (by intro h;injection h with h;omega)).trans (k.block i hi)⟩
 exact st _ _ (st _ _ (st _ _ k0 g1) g2) g3
end Go.Proofs.YtmgaloopddiekaaGreatDoor
namespace Go.Proofs.YtmgaloopddiekaaGreatDoor
open Go.Lib (hid)
open Go.RowKit
theorem Mj (n m:Int)(w:World):Calls Tryz.prog 97 #[.int .i64 n,.int .i64 m] w (RetK (.bool (Cd n m)) w):=by
 by_cases h:0≤n
 ·have h1:decide (0≤n)=true:=by simp [h]
  have e:Cd n m=decide (n<m):=by unfold Cd;rw [h1,Bool.true_and]
  rw [e];go_enter Tryz.func97,Tryz.ntmps97;go_wp2;go_ret;exact ⟨rfl,Below.refl _ _⟩
 ·have h1:decide (0≤n)=false:=by simp;omega
  have e:Cd n m=false:=by unfold Cd;rw [h1,Bool.false_and]
  rw [e];go_enter Tryz.func97,Tryz.ntmps97;go_wp2;go_ret;exact ⟨rfl,Below.refl _ _⟩
theorem Agc (n:Int)(w:World):Calls Tryz.prog 131 #[.int .i64 n] w (RetK (.int .i64 (J4 n)) w):=by
 have lit:∀ m:Int,n≠m→(n==m)=false:=fun m h=>by simp [h]
 by_cases h1:n=1
 ·subst h1;clear lit;go_enter Tryz.func131,Tryz.ntmps131;go_wp2;go_ret;exact ⟨rfl,Below.refl _ _⟩
 by_cases h2:n=2
 ·subst h2;clear lit;go_enter Tryz.func131,Tryz.ntmps131;go_wp2;go_ret;exact ⟨rfl,Below.refl _ _⟩
 by_cases h3:n=3
 ·subst h3;clear lit;go_enter Tryz.func131,Tryz.ntmps131;go_wp2;go_ret;exact ⟨rfl,Below.refl _ _⟩
 by_cases h4:n=4
 ·subst h4;clear lit;go_enter Tryz.func131,Tryz.ntmps131;go_wp2;go_ret;exact ⟨rfl,Below.refl _ _⟩
 by_cases h5:n=5
 ·subst h5;clear lit;go_enter Tryz.func131,Tryz.ntmps131;go_wp2;go_ret;exact ⟨rfl,Below.refl _ _⟩
 by_cases h6:n=6
 ·subst h6;clear lit;go_enter Tryz.func131,Tryz.ntmps131;go_wp2;go_ret;exact ⟨rfl,Below.refl _ _⟩
 by_cases h7:n=7
 ·subst h7;clear lit;go_enter Tryz.func131,Tryz.ntmps131;go_wp2;go_ret;exact ⟨rfl,Below.refl _ _⟩
 by_cases h8:n=8
 ·subst h8;clear lit;go_enter Tryz.func131,Tryz.ntmps131;go_wp2;go_ret;exact ⟨rfl,Below.refl _ _⟩
 by_cases h9:n=9
 ·subst h9;clear lit;go_enter Tryz.func131,Tryz.ntmps131;go_wp2;go_ret;exact ⟨rfl,Below.refl _ _⟩
 by_cases h10:n=10
 ·subst h10;clear lit;go_enter Tryz.func131,Tryz.ntmps131;go_wp2;go_ret;exact ⟨rfl,Below.refl _ _⟩
 by_cases h11:n=11
 ·subst h11;clear lit;go_enter Tryz.func131,Tryz.ntmps131;go_wp2;go_ret;exact ⟨rfl,Below.refl _ _⟩
 by_cases h12:n=12
 ·subst h12;clear lit;go_enter Tryz.func131,Tryz.ntmps131;go_wp2;go_ret;exact ⟨rfl,Below.refl _ _⟩
 by_cases h13:n=13
 ·subst h13;clear lit;go_enter Tryz.func131,Tryz.ntmps131;go_wp2;go_ret;exact ⟨rfl,Below.refl _ _⟩
 have e:J4 n=-1:=by unfold J4;simp [h1,h2,h3,h4,h5,h6,h7,h8,h9,h10,h11,h12,h13]
 rw [e];replace h1:=lit _ h1;replace h2:=lit _ h2;replace h3:=lit _ h3;replace h4:=lit _ h4;replace h5:=lit _ h5;replace h6:=lit _ h6;replace h7:=lit _ h7;replace h8:=lit _ h8;replace h9:=lit _ h9;replace h10:=lit _ h10;replace h11:=lit _ h11;replace h12:=lit _ h12;replace h13:=lit _ h13;clear e lit;go_enter Tryz.func131,Tryz.ntmps131;go_wp2;go_ret;exact ⟨rfl,Below.refl _ _⟩
theorem Ai1 (w:World)(o a b k0 k1 k2 k3 k4 k5:Value):∃ W,W=w.alloc (.cells #[o,a,b,k0,k1,k2,k3,k4,k5] 53)∧Kept w W∧W.heap[w.heap.size]?=some (.cells #[o,a,b,k0,k1,k2,k3,k4,k5] 53 (0,0))∧w.heap.size<W.heap.size :=
 ⟨_,rfl,Ad _ _,heap_alloc_new _ _,by simp⟩
theorem Cf {w:World}{b:Nat}{x0 x1 x2 x3 x4 x5 x6 x7 x8:Value}{T:TypeId}(h:w.heap[b]?=some (.cells #[x0,x1,x2,x3,x4,x5,x6,x7,x8] T (0,0))):w.cell? ⟨b,0,none⟩=some x0∧w.cell? ⟨b,1,none⟩=some x1∧w.cell? ⟨b,2,none⟩=some x2 ∧
 w.cell? ⟨b,3,none⟩=some x3∧w.cell? ⟨b,4,none⟩=some x4∧w.cell? ⟨b,5,none⟩=some x5∧w.cell? ⟨b,6,none⟩=some x6∧w.cell? ⟨b,7,none⟩=some x7∧w.cell? ⟨b,8,none⟩=some x8 :=
 ⟨Ag h 0 _ rfl,Ag h 1 _ rfl,Ag h 2 _ rfl,Ag h 3 _ rfl,Ag h 4 _ rfl,Ag h 5 _ rfl,Ag h 6 _ rfl,Ag h 7 _ rfl,Ag h 8 _ rfl⟩
theorem Ag8 (a b i x u p:Int)(k:RawI):Gq ⟨1,a,b,k⟩ i x u p=(Ck k&&(a==0)&&(b==0)):=by
 unfold Gq;rw [if_pos rfl,Bool.and_assoc];rfl
theorem Zt {op a b i x u p:Int}{k:RawI}(h1:op≠1)(h:Kp k rzI=false):Gq ⟨op,a,b,k⟩ i x u p=false:=by
 unfold Gq;rw [if_neg h1,if_pos h]
theorem Zs {op a b i x u p:Int}{k:RawI}(h1:op≠1)(h:Kp k rzI=true):Gq ⟨op,a,b,k⟩ i x u p =
 if op=2 then (a==0)&&(b==0) else if isP op=true then Cd a (Pw op x u p)&&(b==0) else if J4 op=2 then Cd a i&&Cd b i else if J4 op=1 then Cd a i&&(b==0) else false:=by
 unfold Gq;simp only [];rw [if_neg h1,if_neg (by rw [h];decide)];by_cases h2:op=2
 ·rw [if_pos h2,if_pos h2];rfl
 ·rw [if_neg h2, if_neg h2];by_cases h3:op=3
  ·subst h3;rfl
  ·rw [if_neg h3];by_cases h4:op=4
   ·subst h4;rfl
   ·rw [if_neg h4];by_cases h5:op=5
    ·subst h5;rfl
    ·rw [if_neg h5];have e:isP op=false:=by unfold isP;simp [h3,h4,h5]
     rw [e];simp only [Bool.false_eq_true,if_false];have d0:¬(op=1∨op=2∨op=3∨op=4∨op=5):=by omega
     unfold J4;rw [if_neg d0];by_cases h6:op=6∨op=7∨op=8∨op=9
     ·rw [if_pos h6,if_pos h6,if_pos rfl]
     ·rw [if_neg h6,if_neg h6];by_cases h10:op=10∨op=11∨op=12∨op=13
      ·rw [if_pos h10,if_pos h10,if_neg (by decide),if_pos rfl];rfl
      ·rw [if_neg h10,if_neg h10,if_neg (by decide),if_neg (by decide)]
theorem Zu {w:World}{op a b i x u p:Int}{k:RawI}{z0 z1 z2 z3 z4 z5 m:Value}(hk:IvR w (.agg #[z0,z1,z2,z3,z4,z5]) k)(hl:k.lens 17592186044416)(hm:MapR w m x u p)
 (o1:-9223372036854775808≤op) (o2:op≤9223372036854775807) :
 Calls Tryz.prog 94 #[.agg #[.int .i64 op,.int .i64 a,.int .i64 b,z0,z1,z2,z3,z4,z5],.int .i64 i,m] w (RetK (.bool (Gq ⟨op,a,b,k⟩ i x u p)) w):=by
 have MK:=hid (fun w1 (q:Kept w w1)=>Nl (hk.kept q) hl);have MS:=hid (fun w1 (q:Kept w w1)=>Afq (hk.kept q) (Ft w1) hl);have ML:=hid (fun w1 (q:Kept w w1)=>(hm.kept q).look o1 o2);obtain ⟨bm,n,rfl,-⟩:=hm;obtain ⟨W,hW,kW,BL,lW⟩:=Ai1 w (.int .i64 op) (.int .i64 a) (.int .i64 b) z0 z1 z2 z3 z4 z5;have HW:=hid hW;have K:=hid kW;have HB:=hid BL;clear hk hl o1 o2 hW kW BL;obtain ⟨fa,hfa⟩:∃ f,(a==0)=f:=⟨_,rfl⟩;obtain ⟨fb,hfb⟩:∃ f,(b==0)=f:=⟨_,rfl⟩;by_cases h1:op=1
 ·subst h1;rw [Ag8,hfa,hfb];obtain ⟨mk,hmk⟩:∃ f,Ck k=f:=⟨_,rfl⟩;rw [hmk] at MK ⊢;have FA:=hid hfa;have FB:=hid hfb;clear hmk hfa hfb MS ML;go_enter Tryz.func94,Tryz.ntmps94;go_upto_region 1 with fail;rw [←HW.out];obtain ⟨c0,c1,c2,c3,c4,c5,c6,c7,c8⟩:=Cf HB.out;go_upto_region 2 with fail;clear c0 c1 c2 c3 c4 c5 c6 c7 c8
  refine rS 14 ([(vP w.heap.size 3),(vE (.agg #[z0,z1,z2,z3,z4,z5])),(vE (.bool mk)),(vE (.bool mk)),(fun v wv=>(mk=true→(fun v _=>v=(.pointer (some ⟨w.heap.size,1,none⟩))) v wv)∧(mk=false→v=undef)),(fun v wv=>(mk=true→(fun v _=>v=(.int .i64 a)) v wv)∧(mk=false→v=undef)),(fun v wv=>(mk=true→(fun v _=>v=(.bool fa)) v wv)∧(mk=false→v=undef)),(vE (.bool (mk&&fa))),(vE (.bool (mk&&fa))),(fun v wv=>((mk&&fa)=true→(fun v _=>v=(.pointer (some ⟨w.heap.size,2,none⟩))) v wv)∧((mk&&fa)=false→v=undef)),(fun v wv=>((mk&&fa)=true→(fun v _=>v=(.int .i64 b)) v wv)∧((mk&&fa)=false→v=undef)),(fun v wv=>((mk&&fa)=true→(fun v _=>v=(.bool fb)) v wv)∧((mk&&fa)=false→v=undef)),(vE (.bool (mk&&fa&&fb))),(vE (.bool (mk&&fa&&fb)))])
   ⟨
    (gq 3),(fun aF wF F=>by have s13:=F.v 0 13;have c0:=Ai HB.out F.kept 3 _ rfl;have c1:=Ai HB.out F.kept 4 _ rfl;have c2:=Ai HB.out F.kept 5 _ rfl;have c3:=Ai HB.out F.kept 6 _ rfl;have c4:=Ai HB.out F.kept 7 _ rfl;have c5:=Ai HB.out F.kept 8 _ rfl;exact sv rfl),(fun aF wF F=>by have s14:=F.v 1 14;exact sK (MK.out _ (K.out.trans F.kept)) fun _ _ h=>h),(gv 2 15),
    (fun aF wF F=>by
   have sg:=F.v 3 16;have s3:=F.q 3 (.pointer (some ⟨w.heap.size,0,none⟩));rcases Ay mk with hC | hC
   ·refine sIm hC (vE (.pointer (some ⟨w.heap.size,1,none⟩))) ?_;exact sVc rfl rfl sg (by first | rfl | simp [hC])
   ·exact sOc rfl rfl sg (by first | rfl | simp [hC]) (nW hC)),
    (fun aF wF F=>by
   have sg:=F.v 3 16;have s17:(mk=true→aF.tmps.getD 17 undef=(.pointer (some ⟨w.heap.size,1,none⟩)))∧(mk=false→aF.tmps.getD 17 undef=undef):=F.done 4 17 (by kernel_rfl) rfl;have c0:=Ai HB.out F.kept 1 _ rfl;rcases Ay mk with hC | hC
   ·refine sIm hC (vE (.int .i64 a)) ?_;replace s17:=s17.1 hC;exact sVc rfl rfl sg (by first | rfl | simp [hC])
   ·exact sOc rfl rfl sg (by first | rfl | simp [hC]) (nW hC)),
    (fun aF wF F=>by
   have sg:=F.v 3 16;have s18:(mk=true→aF.tmps.getD 18 undef=(.int .i64 a))∧(mk=false→aF.tmps.getD 18 undef=undef):=F.done 5 18 (by kernel_rfl) rfl;rcases Ay mk with hC | hC
   ·refine sIm hC (vE (.bool fa)) ?_;replace s18:=s18.1 hC;exact A0 ((Al rfl rfl sg).trans (by first | rfl | simp [hC])) (by (go_simp;exact FA.out)) rfl
   ·exact sOc rfl rfl sg (by first | rfl | simp [hC]) (nW hC)),
    (fun aF wF F=>by
   have s16:=F.v 3 16;have s19:(mk=true→aF.tmps.getD 19 undef=(.bool fa))∧(mk=false→aF.tmps.getD 19 undef=undef):=F.done 6 19 (by kernel_rfl) rfl;rcases Ay mk with hE | hE
   ·replace s19:=s19.1 hE;exact sw (by first | (go_simp;done) | (go_simp;simp_all;done) | (simp_all;done)) rfl
   ·exact sw (by first | (go_simp;done) | (go_simp;simp_all;done) | (simp_all;done)) rfl),(gv 7 20),
    (fun aF wF F=>by
   have sg:=F.v 8 21;have s3:=F.q 3 (.pointer (some ⟨w.heap.size,0,none⟩));rcases Ay (mk&&fa) with hC | hC
   ·refine sIm hC (vE (.pointer (some ⟨w.heap.size,2,none⟩))) ?_;exact sVc rfl rfl sg (by first | rfl | simp [hC])
   ·exact sOc rfl rfl sg (by first | rfl | simp [hC]) (nW hC)),
    (fun aF wF F=>by
   have sg:=F.v 8 21;have s22:((mk&&fa)=true→aF.tmps.getD 22 undef=(.pointer (some ⟨w.heap.size,2,none⟩)))∧((mk&&fa)=false→aF.tmps.getD 22 undef=undef):=F.done 9 22 (by kernel_rfl) rfl;have c0:=Ai HB.out F.kept 2 _ rfl;rcases Ay (mk&&fa) with hC | hC
   ·refine sIm hC (vE (.int .i64 b)) ?_;replace s22:=s22.1 hC;exact sVc rfl rfl sg (by first | rfl | simp [hC])
   ·exact sOc rfl rfl sg (by first | rfl | simp [hC]) (nW hC)),
    (fun aF wF F=>by
   have sg:=F.v 8 21;have s23:((mk&&fa)=true→aF.tmps.getD 23 undef=(.int .i64 b))∧((mk&&fa)=false→aF.tmps.getD 23 undef=undef):=F.done 10 23 (by kernel_rfl) rfl;rcases Ay (mk&&fa) with hC | hC
   ·refine sIm hC (vE (.bool fb)) ?_;replace s23:=s23.1 hC;exact A0 ((Al rfl rfl sg).trans (by first | rfl | simp [hC])) (by (go_simp;exact FB.out)) rfl
   ·exact sOc rfl rfl sg (by first | rfl | simp [hC]) (nW hC)),
    (fun aF wF F=>by
   have s21:=F.v 8 21;have s24:((mk&&fa)=true→aF.tmps.getD 24 undef=(.bool fb))∧((mk&&fa)=false→aF.tmps.getD 24 undef=undef):=F.done 11 24 (by kernel_rfl) rfl;rcases Ay (mk&&fa) with hE | hE
   ·replace s24:=s24.1 hE;exact sw (by first | (go_simp;done) | (go_simp;simp_all;done) | (simp_all;done)) rfl
   ·exact sw (by first | (go_simp;done) | (go_simp;simp_all;done) | (simp_all;done)) rfl),(gv 12 25),
    trivial⟩ ?_
  intro u w1 k1 hu;have p17:=hp hu 4;have p18:=hp hu 5;have p19:=hp hu 6;have p22:=hp hu 9;have p23:=hp hu 10;have p24:=hp hu 11;simp only [Bl,Au,if_true,Act.put,zlA,zlB,zlC,zlD,zlE,zlF,zlG,hv hu 0,hv hu 1,hv hu 2,hv hu 3,hv hu 7,hv hu 8,hv hu 12,hv hu 13];clear hu;generalize u 4=v17,u 5=v18,u 6=v19,u 9=v22,u 10=v23,u 11=v24 at *;go_wp2_with fail;go_ret;exact ⟨rfl,K.out.trans k1⟩
 have g1:(op==1)=false:=by simp [h1]
 obtain ⟨fs,hfs⟩:∃ f,Kp k rzI=f:=⟨_,rfl⟩;have MS2:=hid (fun w1 (q:Kept w w1)=>show Calls Tryz.prog 130 _ w1 (RetK (.bool fs) w1) by rw [←hfs];exact MS.out w1 q);have em:Gq ⟨op,a,b,k⟩ i x u p=if fs=false then false else if op=2 then fa&&fb else if isP op=true then Cd a (Pw op x u p)&&fb else if J4 op=2 then Cd a i&&Cd b i else if J4 op=1 then Cd a i&&fb else false:=by
  rw [←hfs,←hfa,←hfb];cases hs:Kp k rzI
  ·rw [Zt h1 hs,if_pos rfl]
  ·rw [Zs h1 hs];rfl
 have FA:=hid hfa;have FB:=hid hfb;clear hfs hfa hfb MK MS h1;obtain ⟨ip,hip⟩:∃ f,isP op=f:=⟨_,rfl⟩;obtain ⟨mm,hmm⟩:∃ f,Pw op x u p=f:=⟨_,rfl⟩;obtain ⟨pp,hpp⟩:∃ f,J4 op=f:=⟨_,rfl⟩;rw [hip,hmm] at ML;rw [hip,hmm,hpp] at em;have HP:=hid (fun w1=>show Calls Tryz.prog 131 #[.int .i64 op] w1 (RetK (.int .i64 pp) w1) by rw [←hpp];exact Agc op w1);clear hip hmm hpp;cases fs
 ·rw [if_pos rfl] at em;rw [em];clear em;go_enter Tryz.func94,Tryz.ntmps94;go_upto_region 1 with fail;rw [←HW.out];obtain ⟨c0,c1,c2,c3,c4,c5,c6,c7,c8⟩:=Cf HB.out;go_wp2_with fail;refine (MS2.out _ K.out).mono ?_;rintro e w1 ⟨rfl,q⟩;replace K:=hid (K.out.trans q);have hb1:=(q.block _ (Array.getElem?_eq_some_iff.1 HB.out).1).trans HB.out;replace HB:=hid hb1;clear c0 c1 c2 c3 c4 c5 c6 c7 c8 q hb1 HW MS2;obtain ⟨c0,c1,c2,c3,c4,c5,c6,c7,c8⟩:=Cf HB.out;simp only [];go_wp2_with fail;go_ret;exact ⟨rfl,K.out⟩
 rw [if_neg (by decide)] at em;by_cases h2:op=2
 ·subst h2;rw [if_pos rfl] at em;rw [em];clear em;go_enter Tryz.func94,Tryz.ntmps94;go_upto_region 1 with fail;rw [←HW.out];obtain ⟨c0,c1,c2,c3,c4,c5,c6,c7,c8⟩:=Cf HB.out;go_wp2_with fail;refine (MS2.out _ K.out).mono ?_;rintro e w1 ⟨rfl,q⟩;replace K:=hid (K.out.trans q);have hb1:=(q.block _ (Array.getElem?_eq_some_iff.1 HB.out).1).trans HB.out;replace HB:=hid hb1;clear c0 c1 c2 c3 c4 c5 c6 c7 c8 q hb1 HW MS2;obtain ⟨c0,c1,c2,c3,c4,c5,c6,c7,c8⟩:=Cf HB.out;simp only [];have hlk:=ML.out w1 K.out;clear ML;go_wp2_with fail;refine (HP.out w1).mono ?_;rintro e w2 ⟨rfl,q⟩;replace K:=hid (K.out.trans q)
  have hb1:=(q.block _ (Array.getElem?_eq_some_iff.1 HB.out).1).trans HB.out;replace HB:=hid hb1;clear c0 c1 c2 c3 c4 c5 c6 c7 c8 q hb1 HP hlk;obtain ⟨c0,c1,c2,c3,c4,c5,c6,c7,c8⟩:=Cf HB.out;simp only [];go_upto_region 8 with fail;clear c0 c1 c2 c3 c4 c5 c6 c7 c8
  refine rS 9 ([(vP w.heap.size 1),(vE (.int .i64 a)),(vE (.bool fa)),(vE (.bool fa)),(fun v wv=>(fa=true→(fun v _=>v=(.pointer (some ⟨w.heap.size,2,none⟩))) v wv)∧(fa=false→v=undef)),(fun v wv=>(fa=true→(fun v _=>v=(.int .i64 b)) v wv)∧(fa=false→v=undef)),(fun v wv=>(fa=true→(fun v _=>v=(.bool fb)) v wv)∧(fa=false→v=undef)),(vE (.bool (fa&&fb))),(vE (.bool (fa&&fb)))])
   ⟨
    (gq 3),(gvl 0 45 fun _ k=>Ai HB.out k 1 _ rfl),(fun aF wF F=>by have s46:=F.v 1 46;exact sw (by (go_simp;exact FA.out)) rfl),(gv 2 47),
    (fun aF wF F=>by
   have sg:=F.v 3 48;have s3:=F.q 3 (.pointer (some ⟨w.heap.size,0,none⟩));rcases Ay fa with hC | hC
   ·refine sIm hC (vE (.pointer (some ⟨w.heap.size,2,none⟩))) ?_;exact sVc rfl rfl sg (by first | rfl | simp [hC])
   ·exact sOc rfl rfl sg (by first | rfl | simp [hC]) (nW hC)),
    (fun aF wF F=>by
   have sg:=F.v 3 48;have s49:(fa=true→aF.tmps.getD 49 undef=(.pointer (some ⟨w.heap.size,2,none⟩)))∧(fa=false→aF.tmps.getD 49 undef=undef):=F.done 4 49 (by kernel_rfl) rfl;have c0:=Ai HB.out F.kept 2 _ rfl;rcases Ay fa with hC | hC
   ·refine sIm hC (vE (.int .i64 b)) ?_;replace s49:=s49.1 hC;exact sVc rfl rfl sg (by first | rfl | simp [hC])
   ·exact sOc rfl rfl sg (by first | rfl | simp [hC]) (nW hC)),
    (fun aF wF F=>by
   have sg:=F.v 3 48;have s50:(fa=true→aF.tmps.getD 50 undef=(.int .i64 b))∧(fa=false→aF.tmps.getD 50 undef=undef):=F.done 5 50 (by kernel_rfl) rfl;rcases Ay fa with hC | hC
   ·refine sIm hC (vE (.bool fb)) ?_;replace s50:=s50.1 hC;exact A0 ((Al rfl rfl sg).trans (by first | rfl | simp [hC])) (by (go_simp;exact FB.out)) rfl
   ·exact sOc rfl rfl sg (by first | rfl | simp [hC]) (nW hC)),
    (fun aF wF F=>by
   have s48:=F.v 3 48;have s51:(fa=true→aF.tmps.getD 51 undef=(.bool fb))∧(fa=false→aF.tmps.getD 51 undef=undef):=F.done 6 51 (by kernel_rfl) rfl;rcases Ay fa with hE | hE
   ·replace s51:=s51.1 hE;exact sw (by first | (go_simp;done) | (go_simp;simp_all;done) | (simp_all;done)) rfl
   ·exact sw (by first | (go_simp;done) | (go_simp;simp_all;done) | (simp_all;done)) rfl),(gv 7 52),
    trivial⟩ ?_
  intro u w1 k1 hu;have p49:=hp hu 4;have p50:=hp hu 5;have p51:=hp hu 6;simp only [Bl,Au,if_true,Act.put,zlA,zlB,zlC,zlD,zlE,zlF,zlG,hv hu 0,hv hu 1,hv hu 2,hv hu 3,hv hu 7,hv hu 8];clear hu;generalize u 4=v49,u 5=v50,u 6=v51 at *;go_wp2_with fail;go_ret;exact ⟨rfl,K.out.trans k1⟩
 have g2:(op==2)=false:=by simp [h2]
 rw [if_neg h2] at em;clear h2;cases ip
 ·rw [if_neg (by decide)] at em;by_cases p2:pp=2
  ·subst p2;rw [if_pos rfl] at em;rw [em];clear em;obtain ⟨ba,hba⟩:∃ f,Cd a i=f:=⟨_,rfl⟩;obtain ⟨bb,hbb⟩:∃ f,Cd b i=f:=⟨_,rfl⟩;have BA:=hid (fun w1=>Mj a i w1);have BB:=hid (fun w1=>Mj b i w1);rw [hba] at BA ⊢;rw [hbb] at BB ⊢;clear hba hbb;go_enter Tryz.func94,Tryz.ntmps94;go_upto_region 1 with fail;rw [←HW.out];obtain ⟨c0,c1,c2,c3,c4,c5,c6,c7,c8⟩:=Cf HB.out;go_wp2_with fail;refine (MS2.out _ K.out).mono ?_;rintro e w1 ⟨rfl,q⟩;replace K:=hid (K.out.trans q);have hb1:=(q.block _ (Array.getElem?_eq_some_iff.1 HB.out).1).trans HB.out;replace HB:=hid hb1;clear c0 c1 c2 c3 c4 c5 c6 c7 c8 q hb1 HW MS2
   obtain ⟨c0,c1,c2,c3,c4,c5,c6,c7,c8⟩:=Cf HB.out;simp only [];have hlk:=ML.out w1 K.out;clear ML;go_wp2_with fail;refine (HP.out w1).mono ?_;rintro e w2 ⟨rfl,q⟩;replace K:=hid (K.out.trans q);have hb1:=(q.block _ (Array.getElem?_eq_some_iff.1 HB.out).1).trans HB.out;replace HB:=hid hb1;clear c0 c1 c2 c3 c4 c5 c6 c7 c8 q hb1 HP hlk;obtain ⟨c0,c1,c2,c3,c4,c5,c6,c7,c8⟩:=Cf HB.out;simp only [];go_upto_region 12 with fail;clear c0 c1 c2 c3 c4 c5 c6 c7 c8
   refine rS 11 ([(vP w.heap.size 1),(vE (.int .i64 a)),(vE (.int .i64 i)),(vE (.bool ba)),(vE (.bool ba)),(fun v wv=>(ba=true→(fun v _=>v=(.pointer (some ⟨w.heap.size,2,none⟩))) v wv)∧(ba=false→v=undef)),(fun v wv=>(ba=true→(fun v _=>v=(.int .i64 b)) v wv)∧(ba=false→v=undef)),(fun v wv=>(ba=true→(fun v _=>v=(.int .i64 i)) v wv)∧(ba=false→v=undef)),(fun v wv=>(ba=true→(fun v _=>v=(.bool bb)) v wv)∧(ba=false→v=undef)),(vE (.bool (ba&&bb))),(vE (.bool (ba&&bb)))])
    ⟨
     (gq 3),(gvl 0 67 fun _ k=>Ai HB.out k 1 _ rfl),(gq 1),(fun aF wF F=>by have s68:=F.v 1 68;have s69:=F.v 2 69;exact sK (BA.out _) fun _ _ h=>h),(gv 3 70),
     (fun aF wF F=>by
    have sg:=F.v 4 71;have s3:=F.q 3 (.pointer (some ⟨w.heap.size,0,none⟩));rcases Ay ba with hC | hC
    ·refine sIm hC (vE (.pointer (some ⟨w.heap.size,2,none⟩))) ?_;exact sVc rfl rfl sg (by first | rfl | simp [hC])
    ·exact sOc rfl rfl sg (by first | rfl | simp [hC]) (nW hC)),
     (fun aF wF F=>by
    have sg:=F.v 4 71;have s72:(ba=true→aF.tmps.getD 72 undef=(.pointer (some ⟨w.heap.size,2,none⟩)))∧(ba=false→aF.tmps.getD 72 undef=undef):=F.done 5 72 (by kernel_rfl) rfl;have c0:=Ai HB.out F.kept 2 _ rfl;rcases Ay ba with hC | hC
    ·refine sIm hC (vE (.int .i64 b)) ?_;replace s72:=s72.1 hC;exact sVc rfl rfl sg (by first | rfl | simp [hC])
    ·exact sOc rfl rfl sg (by first | rfl | simp [hC]) (nW hC)),
     (fun aF wF F=>by
    have sg:=F.v 4 71;have s1:=F.q 1 (.int .i64 i);rcases Ay ba with hC | hC
    ·refine sIm hC (vE (.int .i64 i)) ?_;exact sVc rfl rfl sg (by first | rfl | simp [hC])
    ·exact sOc rfl rfl sg (by first | rfl | simp [hC]) (nW hC)),
     (fun aF wF F=>by
    have sg:=F.v 4 71;have s73:(ba=true→aF.tmps.getD 73 undef=(.int .i64 b))∧(ba=false→aF.tmps.getD 73 undef=undef):=F.done 6 73 (by kernel_rfl) rfl;have s74:(ba=true→aF.tmps.getD 74 undef=(.int .i64 i))∧(ba=false→aF.tmps.getD 74 undef=undef):=F.done 7 74 (by kernel_rfl) rfl;rcases Ay ba with hC | hC
    ·refine sIm hC (vE (.bool bb)) ?_;replace s73:=s73.1 hC;replace s74:=s74.1 hC;exact Bi ((Al rfl rfl sg).trans (by first | rfl | simp [hC])) (by go_simp) (BB.out _) (fun _ _ h=>RetK.good h) (fun _ _ h=>h)
    ·exact sOc rfl rfl sg (by first | rfl | simp [hC]) (nW hC)),
     (fun aF wF F=>by
    have s71:=F.v 4 71;have s75:(ba=true→aF.tmps.getD 75 undef=(.bool bb))∧(ba=false→aF.tmps.getD 75 undef=undef):=F.done 8 75 (by kernel_rfl) rfl;rcases Ay ba with hE | hE
    ·replace s75:=s75.1 hE;exact sw (by first | (go_simp;done) | (go_simp;simp_all;done) | (simp_all;done)) rfl
    ·exact sw (by first | (go_simp;done) | (go_simp;simp_all;done) | (simp_all;done)) rfl),(gv 9 76),
     trivial⟩ ?_
   intro u w1 k1 hu;have p72:=hp hu 5;have p73:=hp hu 6;have p74:=hp hu 7;have p75:=hp hu 8;simp only [Bl,Au,if_true,Act.put,zlA,zlB,zlC,zlD,zlE,zlF,zlG,hv hu 0,hv hu 1,hv hu 2,hv hu 3,hv hu 4,hv hu 9,hv hu 10];clear hu;generalize u 5=v72,u 6=v73,u 7=v74,u 8=v75 at *;go_wp2_with fail;go_ret;exact ⟨rfl,K.out.trans k1⟩
  have q2:(pp==2)=false:=by simp [p2]
  rw [if_neg p2] at em;clear p2;by_cases p1:pp=1
  ·subst p1;rw [if_pos rfl] at em;rw [em];clear em;obtain ⟨ba,hba⟩:∃ f,Cd a i=f:=⟨_,rfl⟩;have BA:=hid (fun w1=>Mj a i w1);rw [hba] at BA ⊢;clear hba;go_enter Tryz.func94,Tryz.ntmps94;go_upto_region 1 with fail;rw [←HW.out];obtain ⟨c0,c1,c2,c3,c4,c5,c6,c7,c8⟩:=Cf HB.out;go_wp2_with fail;refine (MS2.out _ K.out).mono ?_;rintro e w1 ⟨rfl,q⟩;replace K:=hid (K.out.trans q);have hb1:=(q.block _ (Array.getElem?_eq_some_iff.1 HB.out).1).trans HB.out;replace HB:=hid hb1;clear c0 c1 c2 c3 c4 c5 c6 c7 c8 q hb1 HW MS2;obtain ⟨c0,c1,c2,c3,c4,c5,c6,c7,c8⟩:=Cf HB.out;simp only [];have hlk:=ML.out w1 K.out
   clear ML;go_wp2_with fail;refine (HP.out w1).mono ?_;rintro e w2 ⟨rfl,q⟩;replace K:=hid (K.out.trans q);have hb1:=(q.block _ (Array.getElem?_eq_some_iff.1 HB.out).1).trans HB.out;replace HB:=hid hb1;clear c0 c1 c2 c3 c4 c5 c6 c7 c8 q hb1 HP hlk;obtain ⟨c0,c1,c2,c3,c4,c5,c6,c7,c8⟩:=Cf HB.out;simp only [];go_upto_region 14 with fail;clear c0 c1 c2 c3 c4 c5 c6 c7 c8
   refine rS 10 ([(vP w.heap.size 1),(vE (.int .i64 a)),(vE (.int .i64 i)),(vE (.bool ba)),(vE (.bool ba)),(fun v wv=>(ba=true→(fun v _=>v=(.pointer (some ⟨w.heap.size,2,none⟩))) v wv)∧(ba=false→v=undef)),(fun v wv=>(ba=true→(fun v _=>v=(.int .i64 b)) v wv)∧(ba=false→v=undef)),(fun v wv=>(ba=true→(fun v _=>v=(.bool fb)) v wv)∧(ba=false→v=undef)),(vE (.bool (ba&&fb))),(vE (.bool (ba&&fb)))])
    ⟨
     (gq 3),(gvl 0 80 fun _ k=>Ai HB.out k 1 _ rfl),(gq 1),(fun aF wF F=>by have s81:=F.v 1 81;have s82:=F.v 2 82;exact sK (BA.out _) fun _ _ h=>h),(gv 3 83),
     (fun aF wF F=>by
    have sg:=F.v 4 84;have s3:=F.q 3 (.pointer (some ⟨w.heap.size,0,none⟩));rcases Ay ba with hC | hC
    ·refine sIm hC (vE (.pointer (some ⟨w.heap.size,2,none⟩))) ?_;exact sVc rfl rfl sg (by first | rfl | simp [hC])
    ·exact sOc rfl rfl sg (by first | rfl | simp [hC]) (nW hC)),
     (fun aF wF F=>by
    have sg:=F.v 4 84;have s85:(ba=true→aF.tmps.getD 85 undef=(.pointer (some ⟨w.heap.size,2,none⟩)))∧(ba=false→aF.tmps.getD 85 undef=undef):=F.done 5 85 (by kernel_rfl) rfl;have c0:=Ai HB.out F.kept 2 _ rfl;rcases Ay ba with hC | hC
    ·refine sIm hC (vE (.int .i64 b)) ?_;replace s85:=s85.1 hC;exact sVc rfl rfl sg (by first | rfl | simp [hC])
    ·exact sOc rfl rfl sg (by first | rfl | simp [hC]) (nW hC)),
     (fun aF wF F=>by
    have sg:=F.v 4 84;have s86:(ba=true→aF.tmps.getD 86 undef=(.int .i64 b))∧(ba=false→aF.tmps.getD 86 undef=undef):=F.done 6 86 (by kernel_rfl) rfl;rcases Ay ba with hC | hC
    ·refine sIm hC (vE (.bool fb)) ?_;replace s86:=s86.1 hC;exact A0 ((Al rfl rfl sg).trans (by first | rfl | simp [hC])) (by (go_simp;exact FB.out)) rfl
    ·exact sOc rfl rfl sg (by first | rfl | simp [hC]) (nW hC)),
     (fun aF wF F=>by
    have s84:=F.v 4 84;have s87:(ba=true→aF.tmps.getD 87 undef=(.bool fb))∧(ba=false→aF.tmps.getD 87 undef=undef):=F.done 7 87 (by kernel_rfl) rfl;rcases Ay ba with hE | hE
    ·replace s87:=s87.1 hE;exact sw (by first | (go_simp;done) | (go_simp;simp_all;done) | (simp_all;done)) rfl
    ·exact sw (by first | (go_simp;done) | (go_simp;simp_all;done) | (simp_all;done)) rfl),(gv 8 88),
     trivial⟩ ?_
   intro u w1 k1 hu;have p85:=hp hu 5;have p86:=hp hu 6;have p87:=hp hu 7;simp only [Bl,Au,if_true,Act.put,zlA,zlB,zlC,zlD,zlE,zlF,zlG,hv hu 0,hv hu 1,hv hu 2,hv hu 3,hv hu 4,hv hu 8,hv hu 9];clear hu;generalize u 5=v85,u 6=v86,u 7=v87 at *;go_wp2_with fail;go_ret;exact ⟨rfl,K.out.trans k1⟩
  have q1:(pp==1)=false:=by simp [p1]
  rw [if_neg p1] at em;rw [em];clear em;go_enter Tryz.func94,Tryz.ntmps94;go_upto_region 1 with fail;rw [←HW.out];obtain ⟨c0,c1,c2,c3,c4,c5,c6,c7,c8⟩:=Cf HB.out;go_wp2_with fail;refine (MS2.out _ K.out).mono ?_;rintro e w1 ⟨rfl,q⟩;replace K:=hid (K.out.trans q);have hb1:=(q.block _ (Array.getElem?_eq_some_iff.1 HB.out).1).trans HB.out;replace HB:=hid hb1;clear c0 c1 c2 c3 c4 c5 c6 c7 c8 q hb1 HW MS2;obtain ⟨c0,c1,c2,c3,c4,c5,c6,c7,c8⟩:=Cf HB.out;simp only [];have hlk:=ML.out w1 K.out;clear ML;go_wp2_with fail;refine (HP.out w1).mono ?_;rintro e w2 ⟨rfl,q⟩;replace K:=hid (K.out.trans q)
  have hb1:=(q.block _ (Array.getElem?_eq_some_iff.1 HB.out).1).trans HB.out;replace HB:=hid hb1;clear c0 c1 c2 c3 c4 c5 c6 c7 c8 q hb1 HP hlk;obtain ⟨c0,c1,c2,c3,c4,c5,c6,c7,c8⟩:=Cf HB.out;simp only [];go_wp2_with fail;go_ret;exact ⟨rfl,K.out⟩
 ·rw [if_pos rfl] at em;rw [em];clear em;obtain ⟨ba,hba⟩:∃ f,Cd a mm=f:=⟨_,rfl⟩;have BA:=hid (fun w1=>Mj a mm w1);rw [hba] at BA ⊢;clear hba;go_enter Tryz.func94,Tryz.ntmps94;go_upto_region 1 with fail;rw [←HW.out];obtain ⟨c0,c1,c2,c3,c4,c5,c6,c7,c8⟩:=Cf HB.out;go_wp2_with fail;refine (MS2.out _ K.out).mono ?_;rintro e w1 ⟨rfl,q⟩;replace K:=hid (K.out.trans q);have hb1:=(q.block _ (Array.getElem?_eq_some_iff.1 HB.out).1).trans HB.out;replace HB:=hid hb1;clear c0 c1 c2 c3 c4 c5 c6 c7 c8 q hb1 HW MS2;obtain ⟨c0,c1,c2,c3,c4,c5,c6,c7,c8⟩:=Cf HB.out;simp only [];have hlk:=ML.out w1 K.out
  clear ML;go_wp2_with fail;refine (HP.out w1).mono ?_;rintro e w2 ⟨rfl,q⟩;replace K:=hid (K.out.trans q);have hb1:=(q.block _ (Array.getElem?_eq_some_iff.1 HB.out).1).trans HB.out;replace HB:=hid hb1;clear c0 c1 c2 c3 c4 c5 c6 c7 c8 q hb1 HP hlk;obtain ⟨c0,c1,c2,c3,c4,c5,c6,c7,c8⟩:=Cf HB.out;simp only [];go_upto_region 10 with fail;clear c0 c1 c2 c3 c4 c5 c6 c7 c8
  refine rS 10 ([(vP w.heap.size 1),(vE (.int .i64 a)),(vE (.int .i64 mm)),(vE (.bool ba)),(vE (.bool ba)),(fun v wv=>(ba=true→(fun v _=>v=(.pointer (some ⟨w.heap.size,2,none⟩))) v wv)∧(ba=false→v=undef)),(fun v wv=>(ba=true→(fun v _=>v=(.int .i64 b)) v wv)∧(ba=false→v=undef)),(fun v wv=>(ba=true→(fun v _=>v=(.bool fb)) v wv)∧(ba=false→v=undef)),(vE (.bool (ba&&fb))),(vE (.bool (ba&&fb)))])
   ⟨
    (gq 3),(gvl 0 55 fun _ k=>Ai HB.out k 1 _ rfl),(gq 7),(fun aF wF F=>by have s56:=F.v 1 56;have s57:=F.v 2 57;exact sK (BA.out _) fun _ _ h=>h),(gv 3 58),
    (fun aF wF F=>by
   have sg:=F.v 4 59;have s3:=F.q 3 (.pointer (some ⟨w.heap.size,0,none⟩));rcases Ay ba with hC | hC
   ·refine sIm hC (vE (.pointer (some ⟨w.heap.size,2,none⟩))) ?_;exact sVc rfl rfl sg (by first | rfl | simp [hC])
   ·exact sOc rfl rfl sg (by first | rfl | simp [hC]) (nW hC)),
    (fun aF wF F=>by
   have sg:=F.v 4 59;have s60:(ba=true→aF.tmps.getD 60 undef=(.pointer (some ⟨w.heap.size,2,none⟩)))∧(ba=false→aF.tmps.getD 60 undef=undef):=F.done 5 60 (by kernel_rfl) rfl;have c0:=Ai HB.out F.kept 2 _ rfl;rcases Ay ba with hC | hC
   ·refine sIm hC (vE (.int .i64 b)) ?_;replace s60:=s60.1 hC;exact sVc rfl rfl sg (by first | rfl | simp [hC])
   ·exact sOc rfl rfl sg (by first | rfl | simp [hC]) (nW hC)),
    (fun aF wF F=>by
   have sg:=F.v 4 59;have s61:(ba=true→aF.tmps.getD 61 undef=(.int .i64 b))∧(ba=false→aF.tmps.getD 61 undef=undef):=F.done 6 61 (by kernel_rfl) rfl;rcases Ay ba with hC | hC
   ·refine sIm hC (vE (.bool fb)) ?_;replace s61:=s61.1 hC;exact A0 ((Al rfl rfl sg).trans (by first | rfl | simp [hC])) (by (go_simp;exact FB.out)) rfl
   ·exact sOc rfl rfl sg (by first | rfl | simp [hC]) (nW hC)),
    (fun aF wF F=>by
   have s59:=F.v 4 59;have s62:(ba=true→aF.tmps.getD 62 undef=(.bool fb))∧(ba=false→aF.tmps.getD 62 undef=undef):=F.done 7 62 (by kernel_rfl) rfl;rcases Ay ba with hE | hE
   ·replace s62:=s62.1 hE;exact sw (by first | (go_simp;done) | (go_simp;simp_all;done) | (simp_all;done)) rfl
   ·exact sw (by first | (go_simp;done) | (go_simp;simp_all;done) | (simp_all;done)) rfl),(gv 8 63),
    trivial⟩ ?_
  intro u w1 k1 hu;have p60:=hp hu 5;have p61:=hp hu 6;have p62:=hp hu 7;simp only [Bl,Au,if_true,Act.put,zlA,zlB,zlC,zlD,zlE,zlF,zlG,hv hu 0,hv hu 1,hv hu 2,hv hu 3,hv hu 4,hv hu 8,hv hu 9];clear hu;generalize u 5=v60,u 6=v61,u 7=v62 at *;go_wp2_with fail;go_ret;exact ⟨rfl,K.out.trans k1⟩
def R9 {α:Type} (l:List α) (g:α→Bool) (w:World) (e:Ending) (w':World):Prop:=∃ r:Int,e=.returned (.int .i64 r)∧decide (0≤r)=l.any g∧Kept w w'
theorem Ky {α:Type}{l:List α}{g:α→Bool}(h:∀ i x,i<l.length→l[i]?=some x→g x=false):l.any g=false:=by
 rw [List.any_eq_false];intro x hx;obtain ⟨i,hi,he⟩:=List.mem_iff_getElem.1 hx;rw [h i x hi (by rw [List.getElem?_eq_getElem hi,he])]
 decide
theorem Mi {α:Type}{l:List α}{g:α→Bool}{i:Nat}{x:α}(h:l[i]?=some x)(hg:g x=true):l.any g=true:=List.any_eq_true.2 ⟨x,List.mem_of_getElem? h,hg⟩
theorem Afp {w:World}{v:Value}{l:List Int}{g:Int→Bool}{bt:Nat}(hv:InS w v l)(hn:l.length≤1000000000)
 (h:∀ w1,Kept w w1→∀ x,x∈l→Calls Tryz.prog 96 #[.int .i64 x,.pointer (some ⟨bt,0,none⟩)] w1 (RetK (.bool (g x)) w1)) :
 Calls Tryz.prog 132 #[v,.func (.func 96) #[] #[.pointer (some ⟨bt,0,none⟩)]] w (R9 l g w):=by
 obtain ⟨A,c,rfl,hc,hA⟩:=hv;have HG:=hid h;have HA:=hid hA;clear h hA;obtain ⟨n,hn'⟩:∃ n,n=l.length:=⟨_,rfl⟩;rw [←hn'] at hn hc HA ⊢;have HN:=hid hn';clear hn';go_enter Tryz.func132,Tryz.ntmps132;go_wp2_with fail
 go_loopw [8] (fun t wr=>∃ k:Nat,k≤n∧t=.int .i64 k∧(∀ i x,i<k→l[i]?=some x→g x=false)∧Kept w wr) (fun t _=>(n-intOf t).toNat)
 case atStart=>exact ⟨0,Nat.zero_le _,rfl,fun i a hi=>absurd hi (Nat.not_lt_zero _),Below.refl _ _⟩
 case round =>
  obtain ⟨k,hk,rfl,hall,hKr⟩:=hrel;have KR:=hid hKr;have AL:=hid hall;clear hKr hall;by_cases hlt:k<n
  ·obtain ⟨b,off,rfl,hd⟩:=HA.out (by omega);obtain ⟨x,hx⟩:∃ x,l[k]?=some x:=⟨_,List.getElem?_eq_getElem (by have:=HN.out;omega)⟩;have hcell:=hd k x hx;have hc0:=(KR.out.cell (p:=⟨b,off+k,none⟩) (Bg hcell)).trans hcell;have HX:=hid hx;have hm:=HG.out wr KR.out x (List.mem_of_getElem? hx);obtain ⟨gx,hgx⟩:∃ y,y=g x:=⟨_,rfl⟩;rw [←hgx] at hm;have HM:=hid hm;have HGX:=hid hgx;clear hd hcell hx hm hgx;go_wp2_with fail;refine HM.out.mono ?_;rintro e w2 ⟨rfl,q⟩;have K2:=hid (KR.out.trans q);clear q hc0;simp only [];cases gx
   ·go_wp2_with fail;go_roundw
    case rel =>
     refine ⟨k+1,by omega,by go_num,fun i a hi ha'=>?_,K2.out⟩;by_cases h2:i=k
     ·subst h2;rw [HX.out] at ha';cases ha';exact HGX.out.symm
     ·exact AL.out i a (by omega) ha'
    case measure=>simp only [intOf];omega
   ·go_wp2_with fail;go_ret;exact ⟨k,rfl,by rw [Mi HX.out HGX.out.symm];simp,K2.out⟩
  ·obtain rfl:k=n:=by omega
   go_wp2_with fail;go_ret;exact ⟨-1,rfl,by rw [Ky (fun i x hi hx=>AL.out i x (by have:=HN.out;omega) hx)];decide,KR.out⟩
theorem Wh {w:World}{v:Value}{l:List Int}{g:Int→Bool}{bt:Nat}(hv:InS w v l)(hn:l.length≤1000000000)
 (h:∀ w1,Kept w w1→∀ x,x∈l→Calls Tryz.prog 96 #[.int .i64 x,.pointer (some ⟨bt,0,none⟩)] w1 (RetK (.bool (g x)) w1)) :
 Calls Tryz.prog 95 #[v,.func (.func 96) #[] #[.pointer (some ⟨bt,0,none⟩)]] w (RetK (.bool (l.any g)) w):=by
 have C:=hid (Afp hv hn h);obtain ⟨A,c,rfl,-,-⟩:=hv;clear hn h;go_enter Tryz.func95,Tryz.ntmps95;go_wp2_with fail;refine C.out.mono ?_;rintro e w2 ⟨r,rfl,hr,q⟩;have Q:=hid q;have HR:=hid hr;clear q hr C;simp only [];go_wp2_with fail;go_ret;exact ⟨by rw [←HR.out];rfl,Q.out⟩
theorem H7 (x u p:Int):∀ (ls:List Ln) (i:Nat),M0 x u p i ls=true↔∀ j l,ls[j]?=some l→Gq l ((i+j:Nat):Int) x u p=true
 | [],i=>by simp [M0]
 | l :: ls, i => by
   rw [M0,Bool.and_eq_true,H7 x u p ls (i+1)];constructor
   ·rintro ⟨h1,h2⟩ j m hm;rcases j with _ | j
    ·simp at hm;subst hm;exact h1
    ·simp at hm;have:=h2 j m hm;rw [show i+(j+1)=i+1+j by omega];exact this
   ·intro h;refine ⟨h 0 l (by simp),fun j m hm=>?_⟩;have:=h (j+1) m (by simpa using hm);rw [show i+1+j=i+(j+1) by omega];exact this
theorem Cj {w:World}{b:Nat}{x y:Value}{T:TypeId}(h:w.heap[b]?=some (.cells #[x,y] T (0,0))):w.cell? ⟨b,0,none⟩=some x∧w.cell? ⟨b,1,none⟩=some y:=⟨Ag h 0 _ rfl,Ag h 1 _ rfl⟩
theorem Aj {w w':World}{b:Nat}{o:Obj}(h:w.heap[b]?=some o)(k:Kept w w'):w'.heap[b]?=some o:=(k.block b (Array.getElem?_eq_some_iff.1 h).1).trans h
theorem Afy {w:World}{bt ln c:Nat}{n:Int}{A:Option Addr}{so:Value}(hb:w.heap[bt]?=some (.cells #[.slice A ln c,so] 25 (0,0))) :
 Calls Tryz.prog 96 #[.int .i64 n,.pointer (some ⟨bt,0,none⟩)] w (RetK (.bool (!Cd n ln)) w):=by
 obtain ⟨c0,c1⟩:=Cj hb;have B:=hid (Mj n ln w);obtain ⟨f,hf⟩:∃ f,Cd n ln=f:=⟨_,rfl⟩;rw [hf] at B ⊢;clear hf hb;go_enter Tryz.func96,Tryz.ntmps96;go_wp2_with fail;refine B.out.mono ?_;rintro e w2 ⟨rfl,q⟩;simp only [];go_wp2_with fail;go_ret;exact ⟨rfl,q⟩
theorem Ahk (w:World)(s o:Value):∃ W,W=w.alloc (.cells #[s,o] 25)∧Kept w W∧W.heap[w.heap.size]?=some (.cells #[s,o] 25 (0,0))∧w.heap.size<W.heap.size :=
 ⟨_,rfl,Ad _ _,heap_alloc_new _ _,by simp⟩
def Ke (ls:List Ln):Prop:=∀ l∈ls,-9223372036854775808≤l.op∧l.op≤9223372036854775807∧l.k.lens 17592186044416
theorem W8 {w:World}{v:Value}{ls:List Ln}{outs:List Int}{x u p:Int}(hv:TpR w v ls outs)(hok:Ke ls)(hn:ls.length≤1000000000)(hno:outs.length≤1000000000)
 (hx:-9223372036854775808≤x∧x≤9223372036854775807) (hu:-9223372036854775808≤u∧u≤9223372036854775807) (hp:-9223372036854775808≤p∧p≤9223372036854775807) :
 Calls Tryz.prog 64 #[v,.int .i64 x,.int .i64 u,.int .i64 p] w (RetK (.bool (Hk ls outs x u p)) w):=by
 obtain ⟨s,o,rfl,hls,hou⟩:=hv;have HL:=hid hls;have HO:=hid hou;obtain ⟨A,c,rfl,hc,hA⟩:=hls;obtain ⟨B,d,rfl,hd,-⟩:=hou;have HA:=hid hA;have OK:=hid hok;obtain ⟨W,hW,kW,hb,lW⟩:=Ahk w (.slice A ls.length c) (.slice B outs.length d);have HW:=hid hW;have K:=hid kW;have HB:=hid hb;obtain ⟨c0,c1⟩:=Cj hb;clear hA hok hW kW hb;by_cases h1:ls.length≤200
 ·by_cases h2:outs.length≤200
  ·obtain ⟨w1,w2,w3,r1,r2,r3,hm,k3⟩:=Zq W hx.1 hx.2 hu.1 hu.2 hp.1 hp.2;have hmm:=@run_makeMap Tryz.prog;have em:Hk ls outs x u p=(M0 x u p 0 ls&&!(outs.any fun n=>!Cd n ls.length)):=by
    unfold Hk;rw [show decide (ls.length≤200)=true by simpa using h1,show decide (outs.length≤200)=true by simpa using h2,Bool.true_and,Bool.true_and,List.all_eq_not_any_not]
   rw [em];obtain ⟨m1,hm1⟩:∃ m1,M0 x u p 0 ls=m1:=⟨_,rfl⟩;rw [hm1];have HM1:=hid hm1;generalize hn':ls.length=n at *;have HN:=hid hn';have HM:=hid hm;have K3:=hid k3;have CC:=hid (fun w1 (k:Kept W w1)=>Wh (w:=w1) (g:=fun y=>!Cd y n) (bt:=w.heap.size) (HO.out.kept (K.out.trans k)) hno (fun w2 q y _=>Afy (Aj HB.out (k.trans q))));obtain ⟨m2,hm2⟩:∃ m2,(outs.any fun n'=>!Cd n' n)=m2:=⟨_,rfl⟩;rw [hm2] at CC ⊢;clear hm1 hn' hm k3 hm2 em;have t1:decide ((200:Int)<(n:Int))=false:=by simp;omega
   have t2:decide ((200:Int)<(outs.length:Int))=false:=by simp;omega
   go_enter Tryz.func64,Tryz.ntmps64;go_upto_region 1 with fail;rw [←HW.out];obtain ⟨e0,e1⟩:=Cj (Aj HB.out K3.out);go_wp2_with fail;clear c0 c1 e0 e1 r1 r2 r3 hmm t1 t2
   go_loopw [30] (fun t wr=>∃ k:Nat,k≤n∧t=.int .i64 k∧(∀ i l,i<k→ls[i]?=some l→Gq l (i:Int) x u p=true)∧Kept w3 wr) (fun t _=>(n-intOf t).toNat)
   case atStart=>exact ⟨0,Nat.zero_le _,rfl,fun i a hi=>absurd hi (Nat.not_lt_zero _),Below.refl _ _⟩
   case round =>
    obtain ⟨k,hk,rfl,hall,hKr⟩:=hrel;have KR:=hid hKr;have AL:=hid hall;clear hKr hall;by_cases hlt:k<n
    ·obtain ⟨b,off,rfl,hd⟩:=HA.out (by omega);obtain ⟨l,hl⟩:∃ l,ls[k]?=some l:=⟨_,List.getElem?_eq_getElem (by have:=HN.out;omega)⟩;have hat:=(hd k l hl).kept (K.out.trans (K3.out.trans KR.out));obtain ⟨a0,a1,a2,y0,y1,y2,y3,y4,y5,g0,g1,g2,g3,g4,g5,hI⟩:=hat;obtain ⟨A1,l1,q1,A2,l2,q2,ei,-,-⟩:=Ar hI;injection ei with ei;injection ei with ei
     simp only [List.cons.injEq,and_true] at ei;obtain ⟨rfl,rfl,rfl,rfl,rfl,rfl⟩:=ei;obtain ⟨o1,o2,ol⟩:=OK.out l (List.mem_of_getElem? hl);have hm:=fun w2 (q:Kept wr w2)=>Zu (a:=l.a) (b:=l.b) (i:=k) (hI.kept q) ol (HM.out.kept (KR.out.trans q)) o1 o2
     have HLK:=hid hl;obtain ⟨mb,hmb⟩:∃ mb,mb=Gq l (k:Int) x u p:=⟨_,rfl⟩;have hm2:=fun w2 (q:Kept wr w2)=>show Calls _ _ _ _ (RetK (.bool mb) w2) by rw [hmb];exact hm w2 q
     have HMB:=hid hmb;have HMM:=hid hm2;clear hd hl hI ol hm hm2 hmb o1 o2;go_wp2_with fail;refine (HMM.out _ (Ad _ _)).mono ?_;rintro e w2' ⟨rfl,q⟩;have K2:=hid (KR.out.trans ((Ad _ _).trans q));clear q a0 a1 a2 g0 g1 g2 g3 g4 g5 HMM;simp only [];cases mb
     ·go_wp2_with fail;go_ret;have e1:m1=false:=by
       cases hm:m1
       ·rfl
       ·have h1:=(H7 x u p ls 0).1 (HM1.out.trans hm) k l HLK.out;rw [Nat.zero_add] at h1;rw [←HMB.out] at h1;cases h1
      exact ⟨by rw [e1];rfl,K.out.trans (K3.out.trans K2.out)⟩
     ·go_wp2_with fail;go_roundw
      case rel =>
       refine ⟨k+1,by omega,by go_num,fun i a hi ha'=>?_,K2.out⟩;by_cases h2:i=k
       ·subst h2;rw [HLK.out] at ha';cases ha';exact HMB.out.symm
       ·exact AL.out i a (by omega) ha'
      case measure=>simp only [intOf];omega
    ·obtain rfl:k=n:=by omega
     have e1:m1=true:=by
      rw [←HM1.out];refine (H7 x u p ls 0).2 fun j m hm=>?_
      rw [Nat.zero_add];exact AL.out j m (by have:=(List.getElem?_eq_some_iff.1 hm).1;have:=HN.out;omega) hm
     obtain ⟨f0,f1⟩:=Cj (Aj HB.out (K3.out.trans KR.out));have hmf:=Es;go_wp2_with fail;refine (CC.out _ (K3.out.trans KR.out)).mono ?_;rintro e w2' ⟨rfl,q⟩;have K2:=hid (KR.out.trans q);clear q f0 f1;simp only [];go_wp2_with fail;go_ret;exact ⟨by rw [e1];rfl,K.out.trans (K3.out.trans K2.out)⟩
  ·have em:Hk ls outs x u p=false:=by
    unfold Hk;rw [show decide (outs.length≤200)=false by simpa using h2];simp
   rw [em];have t1:decide ((200:Int)<(ls.length:Int))=false:=by simp;omega
   have t2:decide ((200:Int)<(outs.length:Int))=true:=by simp;omega
   clear em;go_enter Tryz.func64,Tryz.ntmps64;go_upto_region 1 with fail;rw [←HW.out];go_wp2_with fail;go_ret;exact ⟨rfl,K.out⟩
 ·have em:Hk ls outs x u p=false:=by
   unfold Hk;rw [show decide (ls.length≤200)=false by simpa using h1];simp
  rw [em];have t1:decide ((200:Int)<(ls.length:Int))=true:=by simp;omega
  clear em;go_enter Tryz.func64,Tryz.ntmps64;go_upto_region 1 with fail;rw [←HW.out];go_wp2_with fail;go_ret;exact ⟨rfl,K.out⟩
theorem Ae4 (w:World)(x y z x' y' z':Value):∃ V,V=w.alloc (.cells #[x,y,z,x',y',z'] 51)∧Kept w V∧BlkI V w.heap.size x y z x' y' z'∧w.heap.size<V.heap.size :=
 ⟨_,rfl,Ad _ _,Cv _ _ _ _ _ _ _,by simp⟩
theorem Ace {w:World}{v:Value}{l:List RawI}{g:RawI→Bool}(hv:IvS w v l)(hn:l.length≤1000000000)
 (h:∀ w1 y,Kept w w1→∀ x,x∈l→IvR w1 y x→Calls Tryz.prog 199 #[y] w1 (RetK (.bool (g x)) w1)) :
 Calls Tryz.prog 90 #[v,.func (.func 199) #[] #[]] w (R9 l g w):=by
 obtain ⟨A,c,rfl,hc,hA⟩:=hv;have HG:=hid h;have HA:=hid hA;clear h hA;obtain ⟨n,hn'⟩:∃ n,n=l.length:=⟨_,rfl⟩;rw [←hn'] at hn hc HA ⊢;have HN:=hid hn';clear hn';go_enter Tryz.func90,Tryz.ntmps90;go_wp2_with fail
 go_loopw [8] (fun t wr=>∃ k:Nat,k≤n∧t=.int .i64 k∧(∀ i x,i<k→l[i]?=some x→g x=false)∧Kept w wr) (fun t _=>(n-intOf t).toNat)
 case atStart=>exact ⟨0,Nat.zero_le _,rfl,fun i a hi=>absurd hi (Nat.not_lt_zero _),Below.refl _ _⟩
 case round =>
  obtain ⟨k,hk,rfl,hall,hKr⟩:=hrel;have KR:=hid hKr;have AL:=hid hall;clear hKr hall;by_cases hlt:k<n
  ·obtain ⟨b,off,rfl,hd⟩:=HA.out (by omega);obtain ⟨x,hx⟩:∃ x,l[k]?=some x:=⟨_,List.getElem?_eq_getElem (by have:=HN.out;omega)⟩;obtain ⟨y0,y1,y2,y3,y4,y5,g0,g1,g2,g3,g4,g5,hI⟩:=(hd k x hx).kept KR.out;have HX:=hid hx;have hm:=HG.out wr _ KR.out x (List.mem_of_getElem? hx) hI;obtain ⟨gx,hgx⟩:∃ y,y=g x:=⟨_,rfl⟩;rw [←hgx] at hm;have HM:=hid hm;have HGX:=hid hgx;clear hd hx hm hgx hI;go_wp2_with fail;refine HM.out.mono ?_;rintro e w2 ⟨rfl,q⟩;have K2:=hid (KR.out.trans q);clear q g0 g1 g2 g3 g4 g5;simp only [];cases gx
   ·go_wp2_with fail;go_roundw
    case rel =>
     refine ⟨k+1,by omega,by go_num,fun i a hi ha'=>?_,K2.out⟩;by_cases h2:i=k
     ·subst h2;rw [HX.out] at ha';cases ha';exact HGX.out.symm
     ·exact AL.out i a (by omega) ha'
    case measure=>simp only [intOf];omega
   ·go_wp2_with fail;go_ret;exact ⟨k,rfl,by rw [Mi HX.out HGX.out.symm];simp,K2.out⟩
  ·obtain rfl:k=n:=by omega
   go_wp2_with fail;go_ret;exact ⟨-1,rfl,by rw [Ky (fun i x hi hx=>AL.out i x (by have:=HN.out;omega) hx)];decide,KR.out⟩
theorem T9 {w:World}{v:Value}{l:List RawI}{g:RawI→Bool}(hv:IvS w v l)(hn:l.length≤1000000000)
 (h:∀ w1 y,Kept w w1→∀ x,x∈l→IvR w1 y x→Calls Tryz.prog 199 #[y] w1 (RetK (.bool (g x)) w1)) :
 Calls Tryz.prog 53 #[v,.func (.func 199) #[] #[]] w (RetK (.bool (l.any g)) w):=by
 have C:=hid (Ace hv hn h);obtain ⟨A,c,rfl,-,-⟩:=hv;clear hn h;go_enter Tryz.func53,Tryz.ntmps53;go_wp2_with fail;refine C.out.mono ?_;rintro e w2 ⟨r,rfl,hr,q⟩;have Q:=hid q;have HR:=hid hr;clear q hr C;simp only [];go_wp2_with fail;go_ret;exact ⟨by rw [←HR.out];rfl,Q.out⟩
theorem Zr {w:World}{v:Value}{a:RawI}(hv:IvR w v a)(hl:a.lens 17592186044416):Calls Tryz.prog 199 #[v] w (RetK (.bool (!Ck a)) w):=by
 obtain ⟨x0,x1,x2,x3,x4,x5,rfl,-,-⟩:=(show IvR _ _ _ from hv);obtain ⟨W,hW,kW,hb,-⟩:=Ae4 w x0 x1 x2 x3 x4 x5;have M:=hid (Nl (hv.kept kW) hl);obtain ⟨f,hf⟩:∃ f,Ck a=f:=⟨_,rfl⟩;rw [hf] at M ⊢;obtain ⟨-,c0,c1,c2,c3,c4,c5⟩:=hb.facts;have HW:=hid hW;clear hf hv hl hb hW;go_enter Tryz.func199,Tryz.ntmps199;go_upto_region 1 with fail;rw [←HW.out];go_wp2_with fail;refine M.out.mono ?_;rintro e w2 ⟨rfl,q⟩;simp only [];go_wp2_with fail;go_ret;exact ⟨rfl,kW.trans q⟩
theorem Ajz (w:World)(x0 x1 x2 x3 x4 x5 x6 x7 x8:Value):∃ W,W=w.alloc (.cells #[x0,x1,x2,x3,x4,x5,x6,x7,x8] 133)∧Kept w W∧W.heap[w.heap.size]?=some (.cells #[x0,x1,x2,x3,x4,x5,x6,x7,x8] 133 (0,0))∧w.heap.size<W.heap.size :=
 ⟨_,rfl,Ad _ _,heap_alloc_new _ _,by simp⟩
def R5 (e:En):Prop:=e.t.lens 17592186044416∧(∀ a∈e.x,a.lens 17592186044416)∧(∀ a∈e.u,a.lens 17592186044416)∧(∀ a∈e.p,a.lens 17592186044416)∧e.x.length≤1000000000∧e.u.length≤1000000000∧e.p.length≤1000000000
theorem Acr {w:World}{v:Value}{e:En}(hv:EnR w v e)(hl:R5 e):Calls Tryz.prog 182 #[v] w (RetK (.bool (Sr e)) w):=by
 obtain ⟨x0,x1,x2,x3,x4,x5,sx,su,sp,rfl,ht,hx,hu,hp⟩:=hv;obtain ⟨l1,l2,l3,l4,n2,n3,n4⟩:=hl;have HT:=hid ht;have HX:=hid hx;have HU:=hid hu;have HP:=hid hp;obtain ⟨A1,j1,q1,A2,j2,q2,ei,-,-⟩:=Ar ht;injection ei with ei;injection ei with ei
 simp only [List.cons.injEq,and_true] at ei;obtain ⟨rfl,rfl,rfl,rfl,rfl,rfl⟩:=ei;obtain ⟨AX,cx,rfl,-,-⟩:=hx;obtain ⟨AU,cu,rfl,-,-⟩:=hu;obtain ⟨AP,cp,rfl,-,-⟩:=hp;obtain ⟨W,hW,kW,hb,lW⟩:=Ajz w (.bool e.t.lo.neg) (.slice A1 j1 q1) (.int .i64 e.t.lo.e) (.bool e.t.hi.neg) (.slice A2 j2 q2) (.int .i64 e.t.hi.e) (.slice AX e.x.length cx) (.slice AU e.u.length cu) (.slice AP e.p.length cp);obtain ⟨W1,hW1,kW1,hb1,-⟩:=Ae4 W (.bool e.t.lo.neg) (.slice A1 j1 q1) (.int .i64 e.t.lo.e) (.bool e.t.hi.neg) (.slice A2 j2 q2) (.int .i64 e.t.hi.e)
 obtain ⟨W2,hW2,kW2,hb2⟩:∃ W2,W2=W1.alloc (.cells #[.slice (some ⟨W.heap.size,0,none⟩) 1 1,.slice AX e.x.length cx,.slice AU e.u.length cu,.slice AP e.p.length cp] 26)∧Kept W1 W2∧W2.heap[W1.heap.size]?=some (.cells #[.slice (some ⟨W.heap.size,0,none⟩) 1 1,.slice AX e.x.length cx,.slice AU e.u.length cu,.slice AP e.p.length cp] 26 (0,0)) :=
  ⟨_,rfl,Ad _ _,heap_alloc_new _ _⟩
 have ew:W1.heap.size=W.heap.size+1:=by rw [hW1];simp
 rw [ew] at hb2;have kk:=kW.trans (kW1.trans kW2);have hT1:IvS W2 (.slice (some ⟨W.heap.size,0,none⟩) 1 1) [e.t]:=Aj1 (hb1.kept kW2) (HT.out.kept kk);obtain ⟨rows,hrows⟩:∃ rows:List (Value × List RawI),rows=[(.slice (some ⟨W.heap.size,0,none⟩) 1 1,[e.t]),(.slice AX e.x.length cx,e.x),(.slice AU e.u.length cu,e.u),(.slice AP e.p.length cp,e.p)]:=⟨_,rfl⟩;have RS:=hid (show ∀ j r,rows[j]?=some r→IvS W2 r.1 r.2∧(∀ a∈r.2,a.lens 17592186044416)∧r.2.length≤1000000000∧W2.cell? ⟨W.heap.size+1,j,none⟩=some r.1 by
  intro j r hr;subst hrows;rcases j with _ | _ | _ | _ | j
  ·cases hr;exact ⟨hT1,by simpa using l1,by simp,Ag hb2 0 _ rfl⟩
  ·cases hr;exact ⟨HX.out.kept kk,l2,n2,Ag hb2 1 _ rfl⟩
  ·cases hr;exact ⟨HU.out.kept kk,l3,n3,Ag hb2 2 _ rfl⟩
  ·cases hr;exact ⟨HP.out.kept kk,l4,n4,Ag hb2 3 _ rfl⟩
  ·simp at hr)
 have RL:rows.length=4:=by rw [hrows];rfl
 have RE:Sr e=rows.all fun r=>r.2.all Ck:=by
  rw [hrows];unfold Sr;simp [Bool.and_assoc]
 rw [RE];have KK:=hid kk;have HW:=hid hW;have HW1:=hid hW1;have HW2:=hid hW2;obtain ⟨c0,c1,c2,c3,c4,c5,c6,c7,c8⟩:=Cf hb;clear RE hrows hT1 hb hb1 hb2 kk kW kW1 kW2 l1 l2 l3 l4 n2 n3 n4 hW hW1 hW2 HT HX HU HP ht;generalize e.t.lo.neg=z1 at *;generalize e.t.lo.e=z2 at *;generalize e.t.hi.neg=z3 at *;generalize e.t.hi.e=z4 at *;generalize e.x.length=y1 at *;generalize e.u.length=y2 at *;generalize e.p.length=y3 at *;go_enter Tryz.func182,Tryz.ntmps182;go_upto_region 1 with fail;rw [←HW.out];go_wp2_with fail;rw [←HW1.out,←HW2.out];clear c0 c1 c2 c3 c4 c5 c6 c7 c8 HW HW1 HW2
 go_loopw [16] (fun t wr=>∃ k:Nat,k≤4∧t=.int .i64 k∧(∀ i r,i<k→rows[i]?=some r→r.2.all Ck=true)∧Kept W2 wr) (fun t _=>(4-intOf t).toNat)
 case atStart=>exact ⟨0,Nat.zero_le _,rfl,fun i a hi=>absurd hi (Nat.not_lt_zero _),Below.refl _ _⟩
 case round =>
  obtain ⟨k,hk,rfl,hall,hKr⟩:=hrel;have KR:=hid hKr;have AL:=hid hall;clear hKr hall;by_cases hlt:k<4
  ·obtain ⟨r,hr⟩:∃ r,rows[k]?=some r:=⟨_,List.getElem?_eq_getElem (by omega)⟩;obtain ⟨hs,hll,hln,hcell⟩:=RS.out k r hr;have hc0:=(KR.out.cell (p:=⟨W.heap.size+1,k,none⟩) (Bg hcell)).trans hcell;have HRR:=hid hr;have hm:=T9 (g:=fun a=>!Ck a) (hs.kept KR.out) hln (fun w1 y q a ha hy=>Zr hy (hll a ha));obtain ⟨mb,hmb⟩:∃ mb,mb=r.2.all Ck:=⟨_,rfl⟩;rw [←List.not_all_eq_any_not,←hmb] at hm;have HMB:=hid hmb;have HM:=hid hm;clear hr hs hll hln hcell hm hmb;go_wp2_with fail;refine HM.out.mono ?_;rintro e' w2' ⟨rfl,q⟩;have K2:=hid (KR.out.trans q);clear q hc0;simp only [];cases mb
   ·go_wp2_with fail;go_ret;have e1:(rows.all fun r=>r.2.all Ck)=false:=by
     rw [List.all_eq_false];exact ⟨r,List.mem_of_getElem? HRR.out,by rw [←HMB.out];decide⟩
    exact ⟨by rw [e1];rfl,KK.out.trans K2.out⟩
   ·go_wp2_with fail;go_roundw
    case rel =>
     refine ⟨k+1,by omega,by go_num,fun i a hi ha'=>?_,K2.out⟩;by_cases h2:i=k
     ·subst h2;rw [HRR.out] at ha';cases ha';exact HMB.out.symm
     ·exact AL.out i a (by omega) ha'
    case measure=>simp only [intOf];omega
  ·obtain rfl:k=4:=by omega
   go_wp2_with fail;go_ret;have e1:(rows.all fun r=>r.2.all Ck)=true:=by
    rw [List.all_eq_true];intro r hr;obtain ⟨i,hi,he⟩:=List.mem_iff_getElem.1 hr;exact AL.out i r (by omega) (by rw [List.getElem?_eq_getElem hi,he])
   exact ⟨by rw [e1];rfl,KK.out.trans KR.out⟩
theorem Acd {w:World}{v:Value}{l:List RawI}{g:RawI→Bool}(hv:IvS w v l)(hn:l.length≤1000000000)
 (h:∀ w1 y,Kept w w1→∀ x,x∈l→IvR w1 y x→Calls Tryz.prog 93 #[y] w1 (RetK (.bool (g x)) w1)) :
 Calls Tryz.prog 90 #[v,.func (.func 93) #[] #[]] w (R9 l g w):=by
 obtain ⟨A,c,rfl,hc,hA⟩:=hv;have HG:=hid h;have HA:=hid hA;clear h hA;obtain ⟨n,hn'⟩:∃ n,n=l.length:=⟨_,rfl⟩;rw [←hn'] at hn hc HA ⊢;have HN:=hid hn';clear hn';go_enter Tryz.func90,Tryz.ntmps90;go_wp2_with fail
 go_loopw [8] (fun t wr=>∃ k:Nat,k≤n∧t=.int .i64 k∧(∀ i x,i<k→l[i]?=some x→g x=false)∧Kept w wr) (fun t _=>(n-intOf t).toNat)
 case atStart=>exact ⟨0,Nat.zero_le _,rfl,fun i a hi=>absurd hi (Nat.not_lt_zero _),Below.refl _ _⟩
 case round =>
  obtain ⟨k,hk,rfl,hall,hKr⟩:=hrel;have KR:=hid hKr;have AL:=hid hall;clear hKr hall;by_cases hlt:k<n
  ·obtain ⟨b,off,rfl,hd⟩:=HA.out (by omega);obtain ⟨x,hx⟩:∃ x,l[k]?=some x:=⟨_,List.getElem?_eq_getElem (by have:=HN.out;omega)⟩;obtain ⟨y0,y1,y2,y3,y4,y5,g0,g1,g2,g3,g4,g5,hI⟩:=(hd k x hx).kept KR.out;have HX:=hid hx;have hm:=HG.out wr _ KR.out x (List.mem_of_getElem? hx) hI;obtain ⟨gx,hgx⟩:∃ y,y=g x:=⟨_,rfl⟩;rw [←hgx] at hm;have HM:=hid hm;have HGX:=hid hgx;clear hd hx hm hgx hI;go_wp2_with fail;refine HM.out.mono ?_;rintro e w2 ⟨rfl,q⟩;have K2:=hid (KR.out.trans q);clear q g0 g1 g2 g3 g4 g5;simp only [];cases gx
   ·go_wp2_with fail;go_roundw
    case rel =>
     refine ⟨k+1,by omega,by go_num,fun i a hi ha'=>?_,K2.out⟩;by_cases h2:i=k
     ·subst h2;rw [HX.out] at ha';cases ha';exact HGX.out.symm
     ·exact AL.out i a (by omega) ha'
    case measure=>simp only [intOf];omega
   ·go_wp2_with fail;go_ret;exact ⟨k,rfl,by rw [Mi HX.out HGX.out.symm];simp,K2.out⟩
  ·obtain rfl:k=n:=by omega
   go_wp2_with fail;go_ret;exact ⟨-1,rfl,by rw [Ky (fun i x hi hx=>AL.out i x (by have:=HN.out;omega) hx)];decide,KR.out⟩
theorem T8 {w:World}{v:Value}{l:List RawI}{g:RawI→Bool}(hv:IvS w v l)(hn:l.length≤1000000000)
 (h:∀ w1 y,Kept w w1→∀ x,x∈l→IvR w1 y x→Calls Tryz.prog 93 #[y] w1 (RetK (.bool (g x)) w1)) :
 Calls Tryz.prog 53 #[v,.func (.func 93) #[] #[]] w (RetK (.bool (l.any g)) w):=by
 have C:=hid (Acd hv hn h);obtain ⟨A,c,rfl,-,-⟩:=hv;clear hn h;go_enter Tryz.func53,Tryz.ntmps53;go_wp2_with fail;refine C.out.mono ?_;rintro e w2 ⟨r,rfl,hr,q⟩;have Q:=hid q;have HR:=hid hr;clear q hr C;simp only [];go_wp2_with fail;go_ret;exact ⟨by rw [←HR.out];rfl,Q.out⟩
theorem Zf {w:World}{v:Value}{a:RawI}(hv:IvR w v a)(hl:a.lens 17592186044416):Calls Tryz.prog 93 #[v] w (RetK (.bool (!Ck a)) w):=by
 obtain ⟨x0,x1,x2,x3,x4,x5,rfl,-,-⟩:=(show IvR _ _ _ from hv);obtain ⟨W,hW,kW,hb,-⟩:=Ae4 w x0 x1 x2 x3 x4 x5;have M:=hid (Nl (hv.kept kW) hl);obtain ⟨f,hf⟩:∃ f,Ck a=f:=⟨_,rfl⟩;rw [hf] at M ⊢;obtain ⟨-,c0,c1,c2,c3,c4,c5⟩:=hb.facts;have HW:=hid hW;clear hf hv hl hb hW;go_enter Tryz.func93,Tryz.ntmps93;go_upto_region 1 with fail;rw [←HW.out];go_wp2_with fail;refine M.out.mono ?_;rintro e w2 ⟨rfl,q⟩;simp only [];go_wp2_with fail;go_ret;exact ⟨rfl,kW.trans q⟩
theorem Pa {α:Type}(f:α→Bool):∀ l:List α,l.all f=!(l.any fun a=>!f a)
 | []=>rfl
 | x::l=>by rw [List.all_cons,List.any_cons,Pa f l,Bool.not_or,Bool.not_not]
theorem Ml {w:World}{v:Value}{l:List RawI}(hv:IvS w v l)(hn:l.length≤1000000000)(hl:∀ a∈l,a.lens 17592186044416) :
 Calls Tryz.prog 62 #[v] w (RetK (.bool (l.all Ck)) w):=by
 have C:=hid (T8 (g:=fun a=>!Ck a) hv hn (fun w1 y _ x hx hy=>Zf hy (hl x hx)));obtain ⟨A,c,rfl,-,-⟩:=hv;have e:l.all Ck=!(l.any fun a=>!Ck a):=Pa Ck l;rw [e];generalize (l.any fun a=>!Ck a)=t at *;clear hn hl e;go_enter Tryz.func62,Tryz.ntmps62;go_wp2_with fail;refine C.out.mono ?_;rintro e w2 ⟨rfl,q⟩;simp only [];go_wp2_with fail;go_ret;exact ⟨rfl,q⟩
theorem Vb {w:World}{v:Value}{l:List RawI}(hv:IvS w v l)(hn:l.length≤1000000000)(hl:∀ a∈l,a.lens 17592186044416) :
 Calls Tryz.prog 9 #[v] w (RetK (.bool (l.all Ck)) w):=by
 obtain ⟨A,c,rfl,hc,hA⟩:=hv;have HA:=hid hA;have HLE:=hid hl;clear hA hl;obtain ⟨n,hn'⟩:∃ n,n=l.length:=⟨_,rfl⟩;rw [←hn'] at hn hc HA ⊢;have HN:=hid hn';clear hn';go_enter Tryz.func9,Tryz.ntmps9;go_wp2_with fail
 go_loopw [3] (fun t wr=>∃ k:Nat,k≤n∧t=.int .i64 k∧(∀ i x,i<k→l[i]?=some x→Ck x=true)∧Kept w wr) (fun t _=>(n-intOf t).toNat)
 case atStart=>exact ⟨0,Nat.zero_le _,rfl,fun i a hi=>absurd hi (Nat.not_lt_zero _),Below.refl _ _⟩
 case round =>
  obtain ⟨k,hk,rfl,hall,hKr⟩:=hrel;have KR:=hid hKr;have AL:=hid hall;clear hKr hall;by_cases hlt:k<n
  ·obtain ⟨b,off,rfl,hd⟩:=HA.out (by omega);obtain ⟨x,hx⟩:∃ x,l[k]?=some x:=⟨_,List.getElem?_eq_getElem (by have:=HN.out;omega)⟩;obtain ⟨y0,y1,y2,y3,y4,y5,g0,g1,g2,g3,g4,g5,hI⟩:=(hd k x hx).kept KR.out;have HX:=hid hx;have hm:=Yy hI (HLE.out x (List.mem_of_getElem? hx));obtain ⟨gx,hgx⟩:∃ y,y=Ck x:=⟨_,rfl⟩;rw [←hgx] at hm;have HM:=hid hm;have HGX:=hid hgx;clear hd hx hm hgx hI;go_wp2_with fail;refine HM.out.mono ?_;rintro e w2 ⟨rfl,q⟩;have K2:=hid (KR.out.trans q);clear q g0 g1 g2 g3 g4 g5;simp only [];cases gx
   ·have ef:l.all Ck=false:=by
     rw [←Bool.not_eq_true,List.all_eq_true];intro h;have h2:=h x (List.mem_of_getElem? HX.out);rw [←HGX.out] at h2;exact absurd h2 (by decide)
    have EF:=hid ef;clear ef;go_wp2_with fail;go_ret;exact ⟨by rw [EF.out];rfl,K2.out⟩
   ·go_wp2_with fail;go_roundw
    case rel =>
     refine ⟨k+1,by omega,by go_num,fun i a hi ha'=>?_,K2.out⟩;by_cases h2:i=k
     ·subst h2;rw [HX.out] at ha';cases ha';exact HGX.out.symm
     ·exact AL.out i a (by omega) ha'
    case measure=>simp only [intOf];omega
  ·obtain rfl:k=n:=by omega
   have et:l.all Ck=true:=by
    rw [List.all_eq_true];intro x hx;obtain ⟨i,hi,rfl⟩:=List.getElem_of_mem hx;exact AL.out i _ (by have:=HN.out;omega) (List.getElem?_eq_getElem hi)
   have ET:=hid et;clear et;go_wp2_with fail;go_ret;exact ⟨by rw [ET.out];rfl,KR.out⟩
end Go.Proofs.YtmgaloopddiekaaGreatDoor
