/- Words and contracts, part 34. -/
import Derived.Test.YtabjjdicffcolaaGreatDoorClaimJrootp30
import Derived.Maps.OwnSet
set_option maxRecDepth 100000
set_option maxHeartbeats 0
namespace Go.Proofs.YtabjjdicffcolaaGreatDoor
open Go.RowKit Go.Maps
def Ajn (x u p:Int):DataW Unit:=(((DataW.map []).put (.int .i64 3) (.lit (.int .i64 x))).put (.int .i64 4) (.lit (.int .i64 u))).put (.int .i64 5) (.lit (.int .i64 p))
def MapR (w:World) (v:Value) (x u p:Int):Prop:=∃ b n,v=.map (some b)∧w.ownsMap Tryz.prog 3 (plainElem Tryz.prog 3) b n (Ajn x u p)
def Tj (op x u p:Int):Int:=if op=3 then x else if op=4 then u else if op=5 then p else 0
def isP (op:Int):Bool:=decide (op=3)||decide (op=4)||decide (op=5)
theorem MapR.kept {w w':World}{v:Value}{x u p:Int}(h:MapR w v x u p)(k:Kept w w'):MapR w' v x u p:=by
 obtain ⟨b,n,rfl,h⟩:=h;exact ⟨b,n,rfl,h.kept (row:=none) ⟨k.os,k.tape,k.output,k.size,fun b hb _=>k.block b hb⟩ (by simp)⟩
theorem Ajo (x u p op:Int):(Ajn x u p).atKey (.int .i64 op) (.lit (.int .i64 0))=.lit (.int .i64 (Tj op x u p))∧Maps.has (Ajn x u p) (.int .i64 op)=isP op:=by
 have e:Ajn x u p=.map [(.int .i64 3,.lit (.int .i64 x)),(.int .i64 4,.lit (.int .i64 u)),(.int .i64 5,.lit (.int .i64 p))]:=by rfl
 rw [e];unfold Tj isP;by_cases h3:op=3
 ·subst h3;exact ⟨rfl,rfl⟩
 ·by_cases h4:op=4
  ·subst h4;exact ⟨rfl,rfl⟩
  ·by_cases h5:op=5
   ·subst h5;exact ⟨rfl,rfl⟩
   ·have g3:¬(3:Int)=op:=fun h=>h3 h.symm
    have g4:¬(4:Int)=op:=fun h=>h4 h.symm
    have g5:¬(5:Int)=op:=fun h=>h5 h.symm
    constructor
    ·rw [if_neg h3,if_neg h4,if_neg h5];simp [DataW.atKey,Lit.sameKey,g3,g4,g5]
    ·simp [Maps.has,Lit.sameKey,g3,g4,g5,h3,h4,h5]
theorem MapR.look {w:World}{v:Value}{x u p op:Int}(h:MapR w v x u p)(h1:-9223372036854775808≤op)(h2:op≤9223372036854775807) :
 (Instr.lookup 108 v (.int .i64 op) true).run Tryz.prog w=.ok (.tuple #[.int .i64 (Tj op x u p),.bool (isP op)]) w:=by
 obtain ⟨b,n,rfl,hown⟩:=h;have hz:(zeroValue 3).run Tryz.prog w=.ok (.int .i64 0) w:=by kernel_rfl
 have hw0:(Lit.int .i64 0).wf=true:=by decide
 have hop:(Lit.int .i64 op).wf=true:=WalkArith.wf_i64 ⟨h1,h2⟩;obtain ⟨v,ps,hrun,hv⟩:=hown.look_ok (int_keyed Tryz.underlying3) Tryz.underlying108 hz (plainElem_int Tryz.underlying3 hw0) (keyOf_int_mk Tryz.underlying3 hop);obtain ⟨c,rfl,hc,-⟩:=plainElem_int_inv Tryz.underlying3 hv;obtain ⟨a1,a2⟩:=Ajo x u p op;simp only [Prod.mk.injEq] at hc;rw [a1] at hc;have e:c=Tj op x u p:=by
  have h:=hc.1;simp only [DataW.lit.injEq,Lit.int.injEq,true_and] at h;exact h.symm
 rw [hrun,a2,e]
theorem Ad0 (w:World){x u p:Int}(hx1:-9223372036854775808≤x)(hx2:x≤9223372036854775807)(hu1:-9223372036854775808≤u)(hu2:u≤9223372036854775807)(hp1:-9223372036854775808≤p)(hp2:p≤9223372036854775807) :
 ∃ w1 w2 w3, (Instr.mapUpdate 108 (.map (some w.heap.size)) (.int .i64 3) (.int .i64 x)).run Tryz.prog (w.alloc (.map #[] 0)) = .ok () w1 ∧
   (Instr.mapUpdate 108 (.map (some w.heap.size)) (.int .i64 4) (.int .i64 u)).run Tryz.prog w1=.ok () w2 ∧
   (Instr.mapUpdate 108 (.map (some w.heap.size)) (.int .i64 5) (.int .i64 p)).run Tryz.prog w2=.ok () w3 ∧
   MapR w3 (.map (some w.heap.size)) x u p∧Kept w w3:=by
 have K:Keyed Tryz.prog 3:=int_keyed Tryz.underlying3;have o0:=World.ownsMap_made (H:=Unit) w Tryz.prog 3 (plainElem Tryz.prog 3);obtain ⟨w1,r1,o1,g1⟩:=o0.update K Tryz.underlying108 (by unfold maxLen;decide) (keyOf_int_mk (a:=3) Tryz.underlying3 (by decide)) (plainElem_int Tryz.underlying3 (WalkArith.wf_i64 ⟨hx1,hx2⟩));obtain ⟨w2,r2,o2,g2⟩:=o1.update K Tryz.underlying108 (by unfold maxLen;decide) (keyOf_int_mk (a:=4) Tryz.underlying3 (by decide)) (plainElem_int Tryz.underlying3 (WalkArith.wf_i64 ⟨hu1,hu2⟩));obtain ⟨w3,r3,o3,g3⟩:=o2.update K Tryz.underlying108 (by unfold maxLen;decide) (keyOf_int_mk (a:=5) Tryz.underlying3 (by decide)) (plainElem_int Tryz.underlying3 (WalkArith.wf_i64 ⟨hp1,hp2⟩))
 refine ⟨w1,w2,w3,r1,r2,r3,⟨_,_,rfl,o3⟩,?_⟩;have k0:=Ad w (.map #[] 0);have st:∀ a b:World,Kept w a→a.grownBy b (some w.heap.size)→Kept w b:=fun a b k g =>
  ⟨g.os.trans k.os,g.tape.trans k.tape,g.output.trans k.output,Nat.le_trans k.size g.size,fun i hi=>(g.block i (Nat.lt_of_lt_of_le hi k.size) (by intro h;injection h with h;omega)).trans (k.block i hi)⟩
 exact st _ _ (st _ _ (st _ _ k0 g1) g2) g3
end Go.Proofs.YtabjjdicffcolaaGreatDoor
namespace Go.Proofs.YtabjjdicffcolaaGreatDoor
open Go.Lib (hid)
open Go.RowKit
theorem Pd (n m:Int)(w:World):Calls Tryz.prog 64 #[.int .i64 n,.int .i64 m] w (RetK (.bool (Db n m)) w):=by
 by_cases h:0≤n
 ·have h1:decide (0≤n)=true:=by simp [h]
  have e:Db n m=decide (n<m):=by unfold Db;rw [h1,Bool.true_and]
  rw [e];go_enter Tryz.func64,Tryz.ntmps64;go_wp2;go_ret;exact ⟨rfl,Below.refl _ _⟩
 ·have h1:decide (0≤n)=false:=by simp;omega
  have e:Db n m=false:=by unfold Db;rw [h1,Bool.false_and]
  rw [e];go_enter Tryz.func64,Tryz.ntmps64;go_wp2;go_ret;exact ⟨rfl,Below.refl _ _⟩
theorem Akh (n:Int)(w:World):Calls Tryz.prog 65 #[.int .i64 n] w (RetK (.int .i64 (Lv n)) w):=by
 have lit:∀ m:Int,n≠m→(n==m)=false:=fun m h=>by simp [h]
 by_cases h1:n=1
 ·subst h1;clear lit;go_enter Tryz.func65,Tryz.ntmps65;go_wp2;go_ret;exact ⟨rfl,Below.refl _ _⟩
 by_cases h2:n=2
 ·subst h2;clear lit;go_enter Tryz.func65,Tryz.ntmps65;go_wp2;go_ret;exact ⟨rfl,Below.refl _ _⟩
 by_cases h3:n=3
 ·subst h3;clear lit;go_enter Tryz.func65,Tryz.ntmps65;go_wp2;go_ret;exact ⟨rfl,Below.refl _ _⟩
 by_cases h4:n=4
 ·subst h4;clear lit;go_enter Tryz.func65,Tryz.ntmps65;go_wp2;go_ret;exact ⟨rfl,Below.refl _ _⟩
 by_cases h5:n=5
 ·subst h5;clear lit;go_enter Tryz.func65,Tryz.ntmps65;go_wp2;go_ret;exact ⟨rfl,Below.refl _ _⟩
 by_cases h6:n=6
 ·subst h6;clear lit;go_enter Tryz.func65,Tryz.ntmps65;go_wp2;go_ret;exact ⟨rfl,Below.refl _ _⟩
 by_cases h7:n=7
 ·subst h7;clear lit;go_enter Tryz.func65,Tryz.ntmps65;go_wp2;go_ret;exact ⟨rfl,Below.refl _ _⟩
 by_cases h8:n=8
 ·subst h8;clear lit;go_enter Tryz.func65,Tryz.ntmps65;go_wp2;go_ret;exact ⟨rfl,Below.refl _ _⟩
 by_cases h9:n=9
 ·subst h9;clear lit;go_enter Tryz.func65,Tryz.ntmps65;go_wp2;go_ret;exact ⟨rfl,Below.refl _ _⟩
 by_cases h10:n=10
 ·subst h10;clear lit;go_enter Tryz.func65,Tryz.ntmps65;go_wp2;go_ret;exact ⟨rfl,Below.refl _ _⟩
 by_cases h11:n=11
 ·subst h11;clear lit;go_enter Tryz.func65,Tryz.ntmps65;go_wp2;go_ret;exact ⟨rfl,Below.refl _ _⟩
 by_cases h12:n=12
 ·subst h12;clear lit;go_enter Tryz.func65,Tryz.ntmps65;go_wp2;go_ret;exact ⟨rfl,Below.refl _ _⟩
 by_cases h13:n=13
 ·subst h13;clear lit;go_enter Tryz.func65,Tryz.ntmps65;go_wp2;go_ret;exact ⟨rfl,Below.refl _ _⟩
 have e:Lv n=-1:=by unfold Lv;simp [h1,h2,h3,h4,h5,h6,h7,h8,h9,h10,h11,h12,h13]
 rw [e];replace h1:=lit _ h1;replace h2:=lit _ h2;replace h3:=lit _ h3;replace h4:=lit _ h4;replace h5:=lit _ h5;replace h6:=lit _ h6;replace h7:=lit _ h7;replace h8:=lit _ h8;replace h9:=lit _ h9;replace h10:=lit _ h10;replace h11:=lit _ h11;replace h12:=lit _ h12;replace h13:=lit _ h13;clear e lit;go_enter Tryz.func65,Tryz.ntmps65;go_wp2;go_ret;exact ⟨rfl,Below.refl _ _⟩
theorem Ao3 (w:World)(o a b k0 k1 k2 k3 k4 k5:Value):∃ W,W=w.alloc (.cells #[o,a,b,k0,k1,k2,k3,k4,k5] 52)∧Kept w W∧W.heap[w.heap.size]?=some (.cells #[o,a,b,k0,k1,k2,k3,k4,k5] 52 (0,0))∧w.heap.size<W.heap.size :=
 ⟨_,rfl,Ad _ _,heap_alloc_new _ _,by simp⟩
theorem Dd {w:World}{b:Nat}{x0 x1 x2 x3 x4 x5 x6 x7 x8:Value}{T:TypeId}(h:w.heap[b]?=some (.cells #[x0,x1,x2,x3,x4,x5,x6,x7,x8] T (0,0))):w.cell? ⟨b,0,none⟩=some x0∧w.cell? ⟨b,1,none⟩=some x1∧w.cell? ⟨b,2,none⟩=some x2 ∧
 w.cell? ⟨b,3,none⟩=some x3∧w.cell? ⟨b,4,none⟩=some x4∧w.cell? ⟨b,5,none⟩=some x5∧w.cell? ⟨b,6,none⟩=some x6∧w.cell? ⟨b,7,none⟩=some x7∧w.cell? ⟨b,8,none⟩=some x8 :=
 ⟨Ab h 0 _ rfl,Ab h 1 _ rfl,Ab h 2 _ rfl,Ab h 3 _ rfl,Ab h 4 _ rfl,Ab h 5 _ rfl,Ab h 6 _ rfl,Ab h 7 _ rfl,Ab h 8 _ rfl⟩
theorem Aon (a b i x u p:Int)(k:RawI):Rm ⟨1,a,b,k⟩ i x u p=(Hr k&&(a==0)&&(b==0)):=by
 unfold Rm;rw [if_pos rfl,Bool.and_assoc];rfl
theorem Ad2 {op a b i x u p:Int}{k:RawI}(h1:op≠1)(h:Zy k rzI=false):Rm ⟨op,a,b,k⟩ i x u p=false:=by
 unfold Rm;rw [if_neg h1,if_pos h]
theorem Ad1 {op a b i x u p:Int}{k:RawI}(h1:op≠1)(h:Zy k rzI=true):Rm ⟨op,a,b,k⟩ i x u p =
 if op=2 then (a==0)&&(b==0) else if isP op=true then Db a (Tj op x u p)&&(b==0) else if Lv op=2 then Db a i&&Db b i else if Lv op=1 then Db a i&&(b==0) else false:=by
 unfold Rm;simp only [];rw [if_neg h1,if_neg (by rw [h];decide)];by_cases h2:op=2
 ·rw [if_pos h2,if_pos h2];rfl
 ·rw [if_neg h2, if_neg h2];by_cases h3:op=3
  ·subst h3;rfl
  ·rw [if_neg h3];by_cases h4:op=4
   ·subst h4;rfl
   ·rw [if_neg h4];by_cases h5:op=5
    ·subst h5;rfl
    ·rw [if_neg h5];have e:isP op=false:=by unfold isP;simp [h3,h4,h5]
     rw [e];simp only [Bool.false_eq_true,if_false];have d0:¬(op=1∨op=2∨op=3∨op=4∨op=5):=by omega
     unfold Lv;rw [if_neg d0];by_cases h6:op=6∨op=7∨op=8∨op=9
     ·rw [if_pos h6,if_pos h6,if_pos rfl]
     ·rw [if_neg h6,if_neg h6];by_cases h10:op=10∨op=11∨op=12∨op=13
      ·rw [if_pos h10,if_pos h10,if_neg (by decide),if_pos rfl];rfl
      ·rw [if_neg h10,if_neg h10,if_neg (by decide),if_neg (by decide)]
theorem Ad3 {w:World}{op a b i x u p:Int}{k:RawI}{z0 z1 z2 z3 z4 z5 m:Value}(hk:IvR w (.agg #[z0,z1,z2,z3,z4,z5]) k)(hl:k.lens 17592186044416)(hm:MapR w m x u p)
 (o1:-9223372036854775808≤op) (o2:op≤9223372036854775807) :
 Calls Tryz.prog 84 #[.agg #[.int .i64 op,.int .i64 a,.int .i64 b,z0,z1,z2,z3,z4,z5],.int .i64 i,m] w (RetK (.bool (Rm ⟨op,a,b,k⟩ i x u p)) w):=by
 have MK:=hid (fun w1 (q:Kept w w1)=>W8 (hk.kept q) hl);have MS:=hid (fun w1 (q:Kept w w1)=>Ajf (hk.kept q) (Cr w1) hl);have ML:=hid (fun w1 (q:Kept w w1)=>(hm.kept q).look o1 o2);obtain ⟨bm,n,rfl,-⟩:=hm;obtain ⟨W,hW,kW,BL,lW⟩:=Ao3 w (.int .i64 op) (.int .i64 a) (.int .i64 b) z0 z1 z2 z3 z4 z5;have HW:=hid hW;have K:=hid kW;have HB:=hid BL;clear hk hl o1 o2 hW kW BL;obtain ⟨fa,hfa⟩:∃ f,(a==0)=f:=⟨_,rfl⟩;obtain ⟨fb,hfb⟩:∃ f,(b==0)=f:=⟨_,rfl⟩;by_cases h1:op=1
 ·subst h1;rw [Aon,hfa,hfb];obtain ⟨mk,hmk⟩:∃ f,Hr k=f:=⟨_,rfl⟩;rw [hmk] at MK ⊢;have FA:=hid hfa;have FB:=hid hfb;clear hmk hfa hfb MS ML;go_enter Tryz.func84,Tryz.ntmps84;go_upto_region 1 with fail;rw [←HW.out];obtain ⟨c0,c1,c2,c3,c4,c5,c6,c7,c8⟩:=Dd HB.out;go_upto_region 2 with fail;clear c0 c1 c2 c3 c4 c5 c6 c7 c8
  refine rS 14 ([(vP w.heap.size 3),(vE (.agg #[z0,z1,z2,z3,z4,z5])),(vE (.bool mk)),(vE (.bool mk)),(fun v wv=>(mk=true→(fun v _=>v=(.pointer (some ⟨w.heap.size,1,none⟩))) v wv)∧(mk=false→v=undef)),(fun v wv=>(mk=true→(fun v _=>v=(.int .i64 a)) v wv)∧(mk=false→v=undef)),(fun v wv=>(mk=true→(fun v _=>v=(.bool fa)) v wv)∧(mk=false→v=undef)),(vE (.bool (mk&&fa))),(vE (.bool (mk&&fa))),(fun v wv=>((mk&&fa)=true→(fun v _=>v=(.pointer (some ⟨w.heap.size,2,none⟩))) v wv)∧((mk&&fa)=false→v=undef)),(fun v wv=>((mk&&fa)=true→(fun v _=>v=(.int .i64 b)) v wv)∧((mk&&fa)=false→v=undef)),(fun v wv=>((mk&&fa)=true→(fun v _=>v=(.bool fb)) v wv)∧((mk&&fa)=false→v=undef)),(vE (.bool (mk&&fa&&fb))),(vE (.bool (mk&&fa&&fb)))])
   ⟨
    (gq 3),(fun aF wF F=>by have s13:=F.v 0 13;have c0:=Ai HB.out F.kept 3 _ rfl;have c1:=Ai HB.out F.kept 4 _ rfl;have c2:=Ai HB.out F.kept 5 _ rfl;have c3:=Ai HB.out F.kept 6 _ rfl;have c4:=Ai HB.out F.kept 7 _ rfl;have c5:=Ai HB.out F.kept 8 _ rfl;exact sv rfl),(fun aF wF F=>by have s14:=F.v 1 14;exact sK (MK.out _ (K.out.trans F.kept)) fun _ _ h=>h),(gv 2 15),
    (fun aF wF F=>by
   have sg:=F.v 3 16;have s3:=F.q 3 (.pointer (some ⟨w.heap.size,0,none⟩));rcases Cq mk with hC | hC
   ·refine sIm hC (vE (.pointer (some ⟨w.heap.size,1,none⟩))) ?_;exact sVc rfl rfl sg (by first | rfl | simp [hC])
   ·exact sOc rfl rfl sg (by first | rfl | simp [hC]) (nW hC)),
    (fun aF wF F=>by
   have sg:=F.v 3 16;have s17:(mk=true→aF.tmps.getD 17 undef=(.pointer (some ⟨w.heap.size,1,none⟩)))∧(mk=false→aF.tmps.getD 17 undef=undef):=F.done 4 17 (by kernel_rfl) rfl;have c0:=Ai HB.out F.kept 1 _ rfl;rcases Cq mk with hC | hC
   ·refine sIm hC (vE (.int .i64 a)) ?_;replace s17:=s17.1 hC;exact sVc rfl rfl sg (by first | rfl | simp [hC])
   ·exact sOc rfl rfl sg (by first | rfl | simp [hC]) (nW hC)),
    (fun aF wF F=>by
   have sg:=F.v 3 16;have s18:(mk=true→aF.tmps.getD 18 undef=(.int .i64 a))∧(mk=false→aF.tmps.getD 18 undef=undef):=F.done 5 18 (by kernel_rfl) rfl;rcases Cq mk with hC | hC
   ·refine sIm hC (vE (.bool fa)) ?_;replace s18:=s18.1 hC;exact Ak ((Af rfl rfl sg).trans (by first | rfl | simp [hC])) (by (go_simp;exact FA.out)) rfl
   ·exact sOc rfl rfl sg (by first | rfl | simp [hC]) (nW hC)),
    (fun aF wF F=>by
   have s16:=F.v 3 16;have s19:(mk=true→aF.tmps.getD 19 undef=(.bool fa))∧(mk=false→aF.tmps.getD 19 undef=undef):=F.done 6 19 (by kernel_rfl) rfl;rcases Cq mk with hE | hE
   ·replace s19:=s19.1 hE;exact sw (by first | (go_simp;done) | (go_simp;simp_all;done) | (simp_all;done)) rfl
   ·exact sw (by first | (go_simp;done) | (go_simp;simp_all;done) | (simp_all;done)) rfl),(gv 7 20),
    (fun aF wF F=>by
   have sg:=F.v 8 21;have s3:=F.q 3 (.pointer (some ⟨w.heap.size,0,none⟩));rcases Cq (mk&&fa) with hC | hC
   ·refine sIm hC (vE (.pointer (some ⟨w.heap.size,2,none⟩))) ?_;exact sVc rfl rfl sg (by first | rfl | simp [hC])
   ·exact sOc rfl rfl sg (by first | rfl | simp [hC]) (nW hC)),
    (fun aF wF F=>by
   have sg:=F.v 8 21;have s22:((mk&&fa)=true→aF.tmps.getD 22 undef=(.pointer (some ⟨w.heap.size,2,none⟩)))∧((mk&&fa)=false→aF.tmps.getD 22 undef=undef):=F.done 9 22 (by kernel_rfl) rfl;have c0:=Ai HB.out F.kept 2 _ rfl;rcases Cq (mk&&fa) with hC | hC
   ·refine sIm hC (vE (.int .i64 b)) ?_;replace s22:=s22.1 hC;exact sVc rfl rfl sg (by first | rfl | simp [hC])
   ·exact sOc rfl rfl sg (by first | rfl | simp [hC]) (nW hC)),
    (fun aF wF F=>by
   have sg:=F.v 8 21;have s23:((mk&&fa)=true→aF.tmps.getD 23 undef=(.int .i64 b))∧((mk&&fa)=false→aF.tmps.getD 23 undef=undef):=F.done 10 23 (by kernel_rfl) rfl;rcases Cq (mk&&fa) with hC | hC
   ·refine sIm hC (vE (.bool fb)) ?_;replace s23:=s23.1 hC;exact Ak ((Af rfl rfl sg).trans (by first | rfl | simp [hC])) (by (go_simp;exact FB.out)) rfl
   ·exact sOc rfl rfl sg (by first | rfl | simp [hC]) (nW hC)),
    (fun aF wF F=>by
   have s21:=F.v 8 21;have s24:((mk&&fa)=true→aF.tmps.getD 24 undef=(.bool fb))∧((mk&&fa)=false→aF.tmps.getD 24 undef=undef):=F.done 11 24 (by kernel_rfl) rfl;rcases Cq (mk&&fa) with hE | hE
   ·replace s24:=s24.1 hE;exact sw (by first | (go_simp;done) | (go_simp;simp_all;done) | (simp_all;done)) rfl
   ·exact sw (by first | (go_simp;done) | (go_simp;simp_all;done) | (simp_all;done)) rfl),(gv 12 25),
    trivial⟩ ?_
  intro u w1 k1 hu;have p17:=hp hu 4;have p18:=hp hu 5;have p19:=hp hu 6;have p22:=hp hu 9;have p23:=hp hu 10;have p24:=hp hu 11;simp only [Av,An,if_true,Act.put,zlA,zlB,zlC,zlD,zlE,zlF,zlG,hv hu 0,hv hu 1,hv hu 2,hv hu 3,hv hu 7,hv hu 8,hv hu 12,hv hu 13];clear hu;generalize u 4=v17,u 5=v18,u 6=v19,u 9=v22,u 10=v23,u 11=v24 at *;go_wp2_with fail;go_ret;exact ⟨rfl,K.out.trans k1⟩
 have g1:(op==1)=false:=by simp [h1]
 obtain ⟨fs,hfs⟩:∃ f,Zy k rzI=f:=⟨_,rfl⟩;have MS2:=hid (fun w1 (q:Kept w w1)=>show Calls Tryz.prog 119 _ w1 (RetK (.bool fs) w1) by rw [←hfs];exact MS.out w1 q);have em:Rm ⟨op,a,b,k⟩ i x u p=if fs=false then false else if op=2 then fa&&fb else if isP op=true then Db a (Tj op x u p)&&fb else if Lv op=2 then Db a i&&Db b i else if Lv op=1 then Db a i&&fb else false:=by
  rw [←hfs,←hfa,←hfb];cases hs:Zy k rzI
  ·rw [Ad2 h1 hs,if_pos rfl]
  ·rw [Ad1 h1 hs];rfl
 have FA:=hid hfa;have FB:=hid hfb;clear hfs hfa hfb MK MS h1;obtain ⟨ip,hip⟩:∃ f,isP op=f:=⟨_,rfl⟩;obtain ⟨mm,hmm⟩:∃ f,Tj op x u p=f:=⟨_,rfl⟩;obtain ⟨pp,hpp⟩:∃ f,Lv op=f:=⟨_,rfl⟩;rw [hip,hmm] at ML;rw [hip,hmm,hpp] at em;have HP:=hid (fun w1=>show Calls Tryz.prog 65 #[.int .i64 op] w1 (RetK (.int .i64 pp) w1) by rw [←hpp];exact Akh op w1);clear hip hmm hpp;cases fs
 ·rw [if_pos rfl] at em;rw [em];clear em;go_enter Tryz.func84,Tryz.ntmps84;go_upto_region 1 with fail;rw [←HW.out];obtain ⟨c0,c1,c2,c3,c4,c5,c6,c7,c8⟩:=Dd HB.out;go_wp2_with fail;refine (MS2.out _ K.out).mono ?_;rintro e w1 ⟨rfl,q⟩;replace K:=hid (K.out.trans q);have hb1:=(q.block _ (Array.getElem?_eq_some_iff.1 HB.out).1).trans HB.out;replace HB:=hid hb1;clear c0 c1 c2 c3 c4 c5 c6 c7 c8 q hb1 HW MS2;obtain ⟨c0,c1,c2,c3,c4,c5,c6,c7,c8⟩:=Dd HB.out;simp only [];go_wp2_with fail;go_ret;exact ⟨rfl,K.out⟩
 rw [if_neg (by decide)] at em;by_cases h2:op=2
 ·subst h2;rw [if_pos rfl] at em;rw [em];clear em;go_enter Tryz.func84,Tryz.ntmps84;go_upto_region 1 with fail;rw [←HW.out];obtain ⟨c0,c1,c2,c3,c4,c5,c6,c7,c8⟩:=Dd HB.out;go_wp2_with fail;refine (MS2.out _ K.out).mono ?_;rintro e w1 ⟨rfl,q⟩;replace K:=hid (K.out.trans q);have hb1:=(q.block _ (Array.getElem?_eq_some_iff.1 HB.out).1).trans HB.out;replace HB:=hid hb1;clear c0 c1 c2 c3 c4 c5 c6 c7 c8 q hb1 HW MS2;obtain ⟨c0,c1,c2,c3,c4,c5,c6,c7,c8⟩:=Dd HB.out;simp only [];have hlk:=ML.out w1 K.out;clear ML;go_wp2_with fail;refine (HP.out w1).mono ?_;rintro e w2 ⟨rfl,q⟩;replace K:=hid (K.out.trans q)
  have hb1:=(q.block _ (Array.getElem?_eq_some_iff.1 HB.out).1).trans HB.out;replace HB:=hid hb1;clear c0 c1 c2 c3 c4 c5 c6 c7 c8 q hb1 HP hlk;obtain ⟨c0,c1,c2,c3,c4,c5,c6,c7,c8⟩:=Dd HB.out;simp only [];go_upto_region 8 with fail;clear c0 c1 c2 c3 c4 c5 c6 c7 c8
  refine rS 9 ([(vP w.heap.size 1),(vE (.int .i64 a)),(vE (.bool fa)),(vE (.bool fa)),(fun v wv=>(fa=true→(fun v _=>v=(.pointer (some ⟨w.heap.size,2,none⟩))) v wv)∧(fa=false→v=undef)),(fun v wv=>(fa=true→(fun v _=>v=(.int .i64 b)) v wv)∧(fa=false→v=undef)),(fun v wv=>(fa=true→(fun v _=>v=(.bool fb)) v wv)∧(fa=false→v=undef)),(vE (.bool (fa&&fb))),(vE (.bool (fa&&fb)))])
   ⟨
    (gq 3),(gvl 0 45 fun _ k=>Ai HB.out k 1 _ rfl),(fun aF wF F=>by have s46:=F.v 1 46;exact sw (by (go_simp;exact FA.out)) rfl),(gv 2 47),
    (fun aF wF F=>by
   have sg:=F.v 3 48;have s3:=F.q 3 (.pointer (some ⟨w.heap.size,0,none⟩));rcases Cq fa with hC | hC
   ·refine sIm hC (vE (.pointer (some ⟨w.heap.size,2,none⟩))) ?_;exact sVc rfl rfl sg (by first | rfl | simp [hC])
   ·exact sOc rfl rfl sg (by first | rfl | simp [hC]) (nW hC)),
    (fun aF wF F=>by
   have sg:=F.v 3 48;have s49:(fa=true→aF.tmps.getD 49 undef=(.pointer (some ⟨w.heap.size,2,none⟩)))∧(fa=false→aF.tmps.getD 49 undef=undef):=F.done 4 49 (by kernel_rfl) rfl;have c0:=Ai HB.out F.kept 2 _ rfl;rcases Cq fa with hC | hC
   ·refine sIm hC (vE (.int .i64 b)) ?_;replace s49:=s49.1 hC;exact sVc rfl rfl sg (by first | rfl | simp [hC])
   ·exact sOc rfl rfl sg (by first | rfl | simp [hC]) (nW hC)),
    (fun aF wF F=>by
   have sg:=F.v 3 48;have s50:(fa=true→aF.tmps.getD 50 undef=(.int .i64 b))∧(fa=false→aF.tmps.getD 50 undef=undef):=F.done 5 50 (by kernel_rfl) rfl;rcases Cq fa with hC | hC
   ·refine sIm hC (vE (.bool fb)) ?_;replace s50:=s50.1 hC;exact Ak ((Af rfl rfl sg).trans (by first | rfl | simp [hC])) (by (go_simp;exact FB.out)) rfl
   ·exact sOc rfl rfl sg (by first | rfl | simp [hC]) (nW hC)),
    (fun aF wF F=>by
   have s48:=F.v 3 48;have s51:(fa=true→aF.tmps.getD 51 undef=(.bool fb))∧(fa=false→aF.tmps.getD 51 undef=undef):=F.done 6 51 (by kernel_rfl) rfl;rcases Cq fa with hE | hE
   ·replace s51:=s51.1 hE;exact sw (by first | (go_simp;done) | (go_simp;simp_all;done) | (simp_all;done)) rfl
   ·exact sw (by first | (go_simp;done) | (go_simp;simp_all;done) | (simp_all;done)) rfl),(gv 7 52),
    trivial⟩ ?_
  intro u w1 k1 hu;have p49:=hp hu 4;have p50:=hp hu 5;have p51:=hp hu 6;simp only [Av,An,if_true,Act.put,zlA,zlB,zlC,zlD,zlE,zlF,zlG,hv hu 0,hv hu 1,hv hu 2,hv hu 3,hv hu 7,hv hu 8];clear hu;generalize u 4=v49,u 5=v50,u 6=v51 at *;go_wp2_with fail;go_ret;exact ⟨rfl,K.out.trans k1⟩
 have g2:(op==2)=false:=by simp [h2]
 rw [if_neg h2] at em;clear h2;cases ip
 ·rw [if_neg (by decide)] at em;by_cases p2:pp=2
  ·subst p2;rw [if_pos rfl] at em;rw [em];clear em;obtain ⟨ba,hba⟩:∃ f,Db a i=f:=⟨_,rfl⟩;obtain ⟨bb,hbb⟩:∃ f,Db b i=f:=⟨_,rfl⟩;have BA:=hid (fun w1=>Pd a i w1);have BB:=hid (fun w1=>Pd b i w1);rw [hba] at BA ⊢;rw [hbb] at BB ⊢;clear hba hbb;go_enter Tryz.func84,Tryz.ntmps84;go_upto_region 1 with fail;rw [←HW.out];obtain ⟨c0,c1,c2,c3,c4,c5,c6,c7,c8⟩:=Dd HB.out;go_wp2_with fail;refine (MS2.out _ K.out).mono ?_;rintro e w1 ⟨rfl,q⟩;replace K:=hid (K.out.trans q);have hb1:=(q.block _ (Array.getElem?_eq_some_iff.1 HB.out).1).trans HB.out;replace HB:=hid hb1;clear c0 c1 c2 c3 c4 c5 c6 c7 c8 q hb1 HW MS2
   obtain ⟨c0,c1,c2,c3,c4,c5,c6,c7,c8⟩:=Dd HB.out;simp only [];have hlk:=ML.out w1 K.out;clear ML;go_wp2_with fail;refine (HP.out w1).mono ?_;rintro e w2 ⟨rfl,q⟩;replace K:=hid (K.out.trans q);have hb1:=(q.block _ (Array.getElem?_eq_some_iff.1 HB.out).1).trans HB.out;replace HB:=hid hb1;clear c0 c1 c2 c3 c4 c5 c6 c7 c8 q hb1 HP hlk;obtain ⟨c0,c1,c2,c3,c4,c5,c6,c7,c8⟩:=Dd HB.out;simp only [];go_upto_region 12 with fail;clear c0 c1 c2 c3 c4 c5 c6 c7 c8
   refine rS 11 ([(vP w.heap.size 1),(vE (.int .i64 a)),(vE (.int .i64 i)),(vE (.bool ba)),(vE (.bool ba)),(fun v wv=>(ba=true→(fun v _=>v=(.pointer (some ⟨w.heap.size,2,none⟩))) v wv)∧(ba=false→v=undef)),(fun v wv=>(ba=true→(fun v _=>v=(.int .i64 b)) v wv)∧(ba=false→v=undef)),(fun v wv=>(ba=true→(fun v _=>v=(.int .i64 i)) v wv)∧(ba=false→v=undef)),(fun v wv=>(ba=true→(fun v _=>v=(.bool bb)) v wv)∧(ba=false→v=undef)),(vE (.bool (ba&&bb))),(vE (.bool (ba&&bb)))])
    ⟨
     (gq 3),(gvl 0 67 fun _ k=>Ai HB.out k 1 _ rfl),(gq 1),(fun aF wF F=>by have s68:=F.v 1 68;have s69:=F.v 2 69;exact sK (BA.out _) fun _ _ h=>h),(gv 3 70),
     (fun aF wF F=>by
    have sg:=F.v 4 71;have s3:=F.q 3 (.pointer (some ⟨w.heap.size,0,none⟩));rcases Cq ba with hC | hC
    ·refine sIm hC (vE (.pointer (some ⟨w.heap.size,2,none⟩))) ?_;exact sVc rfl rfl sg (by first | rfl | simp [hC])
    ·exact sOc rfl rfl sg (by first | rfl | simp [hC]) (nW hC)),
     (fun aF wF F=>by
    have sg:=F.v 4 71;have s72:(ba=true→aF.tmps.getD 72 undef=(.pointer (some ⟨w.heap.size,2,none⟩)))∧(ba=false→aF.tmps.getD 72 undef=undef):=F.done 5 72 (by kernel_rfl) rfl;have c0:=Ai HB.out F.kept 2 _ rfl;rcases Cq ba with hC | hC
    ·refine sIm hC (vE (.int .i64 b)) ?_;replace s72:=s72.1 hC;exact sVc rfl rfl sg (by first | rfl | simp [hC])
    ·exact sOc rfl rfl sg (by first | rfl | simp [hC]) (nW hC)),
     (fun aF wF F=>by
    have sg:=F.v 4 71;have s1:=F.q 1 (.int .i64 i);rcases Cq ba with hC | hC
    ·refine sIm hC (vE (.int .i64 i)) ?_;exact sVc rfl rfl sg (by first | rfl | simp [hC])
    ·exact sOc rfl rfl sg (by first | rfl | simp [hC]) (nW hC)),
     (fun aF wF F=>by
    have sg:=F.v 4 71;have s73:(ba=true→aF.tmps.getD 73 undef=(.int .i64 b))∧(ba=false→aF.tmps.getD 73 undef=undef):=F.done 6 73 (by kernel_rfl) rfl;have s74:(ba=true→aF.tmps.getD 74 undef=(.int .i64 i))∧(ba=false→aF.tmps.getD 74 undef=undef):=F.done 7 74 (by kernel_rfl) rfl;rcases Cq ba with hC | hC
    ·refine sIm hC (vE (.bool bb)) ?_;replace s73:=s73.1 hC;replace s74:=s74.1 hC;exact Ar ((Af rfl rfl sg).trans (by first | rfl | simp [hC])) (by go_simp) (BB.out _) (fun _ _ h=>RetK.good h) (fun _ _ h=>h)
    ·exact sOc rfl rfl sg (by first | rfl | simp [hC]) (nW hC)),
     (fun aF wF F=>by
    have s71:=F.v 4 71;have s75:(ba=true→aF.tmps.getD 75 undef=(.bool bb))∧(ba=false→aF.tmps.getD 75 undef=undef):=F.done 8 75 (by kernel_rfl) rfl;rcases Cq ba with hE | hE
    ·replace s75:=s75.1 hE;exact sw (by first | (go_simp;done) | (go_simp;simp_all;done) | (simp_all;done)) rfl
    ·exact sw (by first | (go_simp;done) | (go_simp;simp_all;done) | (simp_all;done)) rfl),(gv 9 76),
     trivial⟩ ?_
   intro u w1 k1 hu;have p72:=hp hu 5;have p73:=hp hu 6;have p74:=hp hu 7;have p75:=hp hu 8;simp only [Av,An,if_true,Act.put,zlA,zlB,zlC,zlD,zlE,zlF,zlG,hv hu 0,hv hu 1,hv hu 2,hv hu 3,hv hu 4,hv hu 9,hv hu 10];clear hu;generalize u 5=v72,u 6=v73,u 7=v74,u 8=v75 at *;go_wp2_with fail;go_ret;exact ⟨rfl,K.out.trans k1⟩
  have q2:(pp==2)=false:=by simp [p2]
  rw [if_neg p2] at em;clear p2;by_cases p1:pp=1
  ·subst p1;rw [if_pos rfl] at em;rw [em];clear em;obtain ⟨ba,hba⟩:∃ f,Db a i=f:=⟨_,rfl⟩;have BA:=hid (fun w1=>Pd a i w1);rw [hba] at BA ⊢;clear hba;go_enter Tryz.func84,Tryz.ntmps84;go_upto_region 1 with fail;rw [←HW.out];obtain ⟨c0,c1,c2,c3,c4,c5,c6,c7,c8⟩:=Dd HB.out;go_wp2_with fail;refine (MS2.out _ K.out).mono ?_;rintro e w1 ⟨rfl,q⟩;replace K:=hid (K.out.trans q);have hb1:=(q.block _ (Array.getElem?_eq_some_iff.1 HB.out).1).trans HB.out;replace HB:=hid hb1;clear c0 c1 c2 c3 c4 c5 c6 c7 c8 q hb1 HW MS2;obtain ⟨c0,c1,c2,c3,c4,c5,c6,c7,c8⟩:=Dd HB.out;simp only [];have hlk:=ML.out w1 K.out
   clear ML;go_wp2_with fail;refine (HP.out w1).mono ?_;rintro e w2 ⟨rfl,q⟩;replace K:=hid (K.out.trans q);have hb1:=(q.block _ (Array.getElem?_eq_some_iff.1 HB.out).1).trans HB.out;replace HB:=hid hb1;clear c0 c1 c2 c3 c4 c5 c6 c7 c8 q hb1 HP hlk;obtain ⟨c0,c1,c2,c3,c4,c5,c6,c7,c8⟩:=Dd HB.out;simp only [];go_upto_region 14 with fail;clear c0 c1 c2 c3 c4 c5 c6 c7 c8
   refine rS 10 ([(vP w.heap.size 1),(vE (.int .i64 a)),(vE (.int .i64 i)),(vE (.bool ba)),(vE (.bool ba)),(fun v wv=>(ba=true→(fun v _=>v=(.pointer (some ⟨w.heap.size,2,none⟩))) v wv)∧(ba=false→v=undef)),(fun v wv=>(ba=true→(fun v _=>v=(.int .i64 b)) v wv)∧(ba=false→v=undef)),(fun v wv=>(ba=true→(fun v _=>v=(.bool fb)) v wv)∧(ba=false→v=undef)),(vE (.bool (ba&&fb))),(vE (.bool (ba&&fb)))])
    ⟨
     (gq 3),(gvl 0 80 fun _ k=>Ai HB.out k 1 _ rfl),(gq 1),(fun aF wF F=>by have s81:=F.v 1 81;have s82:=F.v 2 82;exact sK (BA.out _) fun _ _ h=>h),(gv 3 83),
     (fun aF wF F=>by
    have sg:=F.v 4 84;have s3:=F.q 3 (.pointer (some ⟨w.heap.size,0,none⟩));rcases Cq ba with hC | hC
    ·refine sIm hC (vE (.pointer (some ⟨w.heap.size,2,none⟩))) ?_;exact sVc rfl rfl sg (by first | rfl | simp [hC])
    ·exact sOc rfl rfl sg (by first | rfl | simp [hC]) (nW hC)),
     (fun aF wF F=>by
    have sg:=F.v 4 84;have s85:(ba=true→aF.tmps.getD 85 undef=(.pointer (some ⟨w.heap.size,2,none⟩)))∧(ba=false→aF.tmps.getD 85 undef=undef):=F.done 5 85 (by kernel_rfl) rfl;have c0:=Ai HB.out F.kept 2 _ rfl;rcases Cq ba with hC | hC
    ·refine sIm hC (vE (.int .i64 b)) ?_;replace s85:=s85.1 hC;exact sVc rfl rfl sg (by first | rfl | simp [hC])
    ·exact sOc rfl rfl sg (by first | rfl | simp [hC]) (nW hC)),
     (fun aF wF F=>by
    have sg:=F.v 4 84;have s86:(ba=true→aF.tmps.getD 86 undef=(.int .i64 b))∧(ba=false→aF.tmps.getD 86 undef=undef):=F.done 6 86 (by kernel_rfl) rfl;rcases Cq ba with hC | hC
    ·refine sIm hC (vE (.bool fb)) ?_;replace s86:=s86.1 hC;exact Ak ((Af rfl rfl sg).trans (by first | rfl | simp [hC])) (by (go_simp;exact FB.out)) rfl
    ·exact sOc rfl rfl sg (by first | rfl | simp [hC]) (nW hC)),
     (fun aF wF F=>by
    have s84:=F.v 4 84;have s87:(ba=true→aF.tmps.getD 87 undef=(.bool fb))∧(ba=false→aF.tmps.getD 87 undef=undef):=F.done 7 87 (by kernel_rfl) rfl;rcases Cq ba with hE | hE
    ·replace s87:=s87.1 hE;exact sw (by first | (go_simp;done) | (go_simp;simp_all;done) | (simp_all;done)) rfl
    ·exact sw (by first | (go_simp;done) | (go_simp;simp_all;done) | (simp_all;done)) rfl),(gv 8 88),
     trivial⟩ ?_
   intro u w1 k1 hu;have p85:=hp hu 5;have p86:=hp hu 6;have p87:=hp hu 7;simp only [Av,An,if_true,Act.put,zlA,zlB,zlC,zlD,zlE,zlF,zlG,hv hu 0,hv hu 1,hv hu 2,hv hu 3,hv hu 4,hv hu 8,hv hu 9];clear hu;generalize u 5=v85,u 6=v86,u 7=v87 at *;go_wp2_with fail;go_ret;exact ⟨rfl,K.out.trans k1⟩
  have q1:(pp==1)=false:=by simp [p1]
  rw [if_neg p1] at em;rw [em];clear em;go_enter Tryz.func84,Tryz.ntmps84;go_upto_region 1 with fail;rw [←HW.out];obtain ⟨c0,c1,c2,c3,c4,c5,c6,c7,c8⟩:=Dd HB.out;go_wp2_with fail;refine (MS2.out _ K.out).mono ?_;rintro e w1 ⟨rfl,q⟩;replace K:=hid (K.out.trans q);have hb1:=(q.block _ (Array.getElem?_eq_some_iff.1 HB.out).1).trans HB.out;replace HB:=hid hb1;clear c0 c1 c2 c3 c4 c5 c6 c7 c8 q hb1 HW MS2;obtain ⟨c0,c1,c2,c3,c4,c5,c6,c7,c8⟩:=Dd HB.out;simp only [];have hlk:=ML.out w1 K.out;clear ML;go_wp2_with fail;refine (HP.out w1).mono ?_;rintro e w2 ⟨rfl,q⟩;replace K:=hid (K.out.trans q)
  have hb1:=(q.block _ (Array.getElem?_eq_some_iff.1 HB.out).1).trans HB.out;replace HB:=hid hb1;clear c0 c1 c2 c3 c4 c5 c6 c7 c8 q hb1 HP hlk;obtain ⟨c0,c1,c2,c3,c4,c5,c6,c7,c8⟩:=Dd HB.out;simp only [];go_wp2_with fail;go_ret;exact ⟨rfl,K.out⟩
 ·rw [if_pos rfl] at em;rw [em];clear em;obtain ⟨ba,hba⟩:∃ f,Db a mm=f:=⟨_,rfl⟩;have BA:=hid (fun w1=>Pd a mm w1);rw [hba] at BA ⊢;clear hba;go_enter Tryz.func84,Tryz.ntmps84;go_upto_region 1 with fail;rw [←HW.out];obtain ⟨c0,c1,c2,c3,c4,c5,c6,c7,c8⟩:=Dd HB.out;go_wp2_with fail;refine (MS2.out _ K.out).mono ?_;rintro e w1 ⟨rfl,q⟩;replace K:=hid (K.out.trans q);have hb1:=(q.block _ (Array.getElem?_eq_some_iff.1 HB.out).1).trans HB.out;replace HB:=hid hb1;clear c0 c1 c2 c3 c4 c5 c6 c7 c8 q hb1 HW MS2;obtain ⟨c0,c1,c2,c3,c4,c5,c6,c7,c8⟩:=Dd HB.out;simp only [];have hlk:=ML.out w1 K.out
  clear ML;go_wp2_with fail;refine (HP.out w1).mono ?_;rintro e w2 ⟨rfl,q⟩;replace K:=hid (K.out.trans q);have hb1:=(q.block _ (Array.getElem?_eq_some_iff.1 HB.out).1).trans HB.out;replace HB:=hid hb1;clear c0 c1 c2 c3 c4 c5 c6 c7 c8 q hb1 HP hlk;obtain ⟨c0,c1,c2,c3,c4,c5,c6,c7,c8⟩:=Dd HB.out;simp only [];go_upto_region 10 with fail;clear c0 c1 c2 c3 c4 c5 c6 c7 c8
  refine rS 10 ([(vP w.heap.size 1),(vE (.int .i64 a)),(vE (.int .i64 mm)),(vE (.bool ba)),(vE (.bool ba)),(fun v wv=>(ba=true→(fun v _=>v=(.pointer (some ⟨w.heap.size,2,none⟩))) v wv)∧(ba=false→v=undef)),(fun v wv=>(ba=true→(fun v _=>v=(.int .i64 b)) v wv)∧(ba=false→v=undef)),(fun v wv=>(ba=true→(fun v _=>v=(.bool fb)) v wv)∧(ba=false→v=undef)),(vE (.bool (ba&&fb))),(vE (.bool (ba&&fb)))])
   ⟨
    (gq 3),(gvl 0 55 fun _ k=>Ai HB.out k 1 _ rfl),(gq 7),(fun aF wF F=>by have s56:=F.v 1 56;have s57:=F.v 2 57;exact sK (BA.out _) fun _ _ h=>h),(gv 3 58),
    (fun aF wF F=>by
   have sg:=F.v 4 59;have s3:=F.q 3 (.pointer (some ⟨w.heap.size,0,none⟩));rcases Cq ba with hC | hC
   ·refine sIm hC (vE (.pointer (some ⟨w.heap.size,2,none⟩))) ?_;exact sVc rfl rfl sg (by first | rfl | simp [hC])
   ·exact sOc rfl rfl sg (by first | rfl | simp [hC]) (nW hC)),
    (fun aF wF F=>by
   have sg:=F.v 4 59;have s60:(ba=true→aF.tmps.getD 60 undef=(.pointer (some ⟨w.heap.size,2,none⟩)))∧(ba=false→aF.tmps.getD 60 undef=undef):=F.done 5 60 (by kernel_rfl) rfl;have c0:=Ai HB.out F.kept 2 _ rfl;rcases Cq ba with hC | hC
   ·refine sIm hC (vE (.int .i64 b)) ?_;replace s60:=s60.1 hC;exact sVc rfl rfl sg (by first | rfl | simp [hC])
   ·exact sOc rfl rfl sg (by first | rfl | simp [hC]) (nW hC)),
    (fun aF wF F=>by
   have sg:=F.v 4 59;have s61:(ba=true→aF.tmps.getD 61 undef=(.int .i64 b))∧(ba=false→aF.tmps.getD 61 undef=undef):=F.done 6 61 (by kernel_rfl) rfl;rcases Cq ba with hC | hC
   ·refine sIm hC (vE (.bool fb)) ?_;replace s61:=s61.1 hC;exact Ak ((Af rfl rfl sg).trans (by first | rfl | simp [hC])) (by (go_simp;exact FB.out)) rfl
   ·exact sOc rfl rfl sg (by first | rfl | simp [hC]) (nW hC)),
    (fun aF wF F=>by
   have s59:=F.v 4 59;have s62:(ba=true→aF.tmps.getD 62 undef=(.bool fb))∧(ba=false→aF.tmps.getD 62 undef=undef):=F.done 7 62 (by kernel_rfl) rfl;rcases Cq ba with hE | hE
   ·replace s62:=s62.1 hE;exact sw (by first | (go_simp;done) | (go_simp;simp_all;done) | (simp_all;done)) rfl
   ·exact sw (by first | (go_simp;done) | (go_simp;simp_all;done) | (simp_all;done)) rfl),(gv 8 63),
    trivial⟩ ?_
  intro u w1 k1 hu;have p60:=hp hu 5;have p61:=hp hu 6;have p62:=hp hu 7;simp only [Av,An,if_true,Act.put,zlA,zlB,zlC,zlD,zlE,zlF,zlG,hv hu 0,hv hu 1,hv hu 2,hv hu 3,hv hu 4,hv hu 8,hv hu 9];clear hu;generalize u 5=v60,u 6=v61,u 7=v62 at *;go_wp2_with fail;go_ret;exact ⟨rfl,K.out.trans k1⟩
def Ae8 {α:Type} (l:List α) (g:α→Bool) (w:World) (e:Ending) (w':World):Prop:=∃ r:Int,e=.returned (.int .i64 r)∧decide (0≤r)=l.any g∧Kept w w'
theorem Vb {α:Type}{l:List α}{g:α→Bool}(h:∀ i x,i<l.length→l[i]?=some x→g x=false):l.any g=false:=by
 rw [List.any_eq_false];intro x hx;obtain ⟨i,hi,he⟩:=List.mem_iff_getElem.1 hx;rw [h i x hi (by rw [List.getElem?_eq_getElem hi,he])]
 decide
theorem Ya {α:Type}{l:List α}{g:α→Bool}{i:Nat}{x:α}(h:l[i]?=some x)(hg:g x=true):l.any g=true:=List.any_eq_true.2 ⟨x,List.mem_of_getElem? h,hg⟩
theorem Aje {w:World}{v:Value}{l:List Int}{g:Int→Bool}{bt:Nat}(hv:InS w v l)(hn:l.length≤1000000000)
 (h:∀ w1,Kept w w1→∀ x,x∈l→Calls Tryz.prog 86 #[.int .i64 x,.pointer (some ⟨bt,0,none⟩)] w1 (RetK (.bool (g x)) w1)) :
 Calls Tryz.prog 120 #[v,.func (.func 86) #[] #[.pointer (some ⟨bt,0,none⟩)]] w (Ae8 l g w):=by
 obtain ⟨A,c,rfl,hc,hA⟩:=hv;have HG:=hid h;have HA:=hid hA;clear h hA;obtain ⟨n,hn'⟩:∃ n,n=l.length:=⟨_,rfl⟩;rw [←hn'] at hn hc HA ⊢;have HN:=hid hn';clear hn';go_enter Tryz.func120,Tryz.ntmps120;go_wp2_with fail
 go_loopw [8] (fun t wr=>∃ k:Nat,k≤n∧t=.int .i64 k∧(∀ i x,i<k→l[i]?=some x→g x=false)∧Kept w wr) (fun t _=>(n-intOf t).toNat)
 case atStart=>exact ⟨0,Nat.zero_le _,rfl,fun i a hi=>absurd hi (Nat.not_lt_zero _),Below.refl _ _⟩
 case round =>
  obtain ⟨k,hk,rfl,hall,hKr⟩:=hrel;have KR:=hid hKr;have AL:=hid hall;clear hKr hall;by_cases hlt:k<n
  ·obtain ⟨b,off,rfl,hd⟩:=HA.out (by omega);obtain ⟨x,hx⟩:∃ x,l[k]?=some x:=⟨_,List.getElem?_eq_getElem (by have:=HN.out;omega)⟩;have hcell:=hd k x hx;have hc0:=(KR.out.cell (p:=⟨b,off+k,none⟩) (Aq hcell)).trans hcell;have HX:=hid hx;have hm:=HG.out wr KR.out x (List.mem_of_getElem? hx);obtain ⟨gx,hgx⟩:∃ y,y=g x:=⟨_,rfl⟩;rw [←hgx] at hm;have HM:=hid hm;have HGX:=hid hgx;clear hd hcell hx hm hgx;go_wp2_with fail;refine HM.out.mono ?_;rintro e w2 ⟨rfl,q⟩;have K2:=hid (KR.out.trans q);clear q hc0;simp only [];cases gx
   ·go_wp2_with fail;go_roundw
    case rel =>
     refine ⟨k+1,by omega,by go_num,fun i a hi ha'=>?_,K2.out⟩;by_cases h2:i=k
     ·subst h2;rw [HX.out] at ha';cases ha';exact HGX.out.symm
     ·exact AL.out i a (by omega) ha'
    case measure=>simp only [intOf];omega
   ·go_wp2_with fail;go_ret;exact ⟨k,rfl,by rw [Ya HX.out HGX.out.symm];simp,K2.out⟩
  ·obtain rfl:k=n:=by omega
   go_wp2_with fail;go_ret;exact ⟨-1,rfl,by rw [Vb (fun i x hi hx=>AL.out i x (by have:=HN.out;omega) hx)];decide,KR.out⟩
theorem Aaz {w:World}{v:Value}{l:List Int}{g:Int→Bool}{bt:Nat}(hv:InS w v l)(hn:l.length≤1000000000)
 (h:∀ w1,Kept w w1→∀ x,x∈l→Calls Tryz.prog 86 #[.int .i64 x,.pointer (some ⟨bt,0,none⟩)] w1 (RetK (.bool (g x)) w1)) :
 Calls Tryz.prog 85 #[v,.func (.func 86) #[] #[.pointer (some ⟨bt,0,none⟩)]] w (RetK (.bool (l.any g)) w):=by
 have C:=hid (Aje hv hn h);obtain ⟨A,c,rfl,-,-⟩:=hv;clear hn h;go_enter Tryz.func85,Tryz.ntmps85;go_wp2_with fail;refine C.out.mono ?_;rintro e w2 ⟨r,rfl,hr,q⟩;have Q:=hid q;have HR:=hid hr;clear q hr C;simp only [];go_wp2_with fail;go_ret;exact ⟨by rw [←HR.out];rfl,Q.out⟩
theorem Qk (x u p:Int):∀ (ls:List Ln) (i:Nat),Tk x u p i ls=true↔∀ j l,ls[j]?=some l→Rm l ((i+j:Nat):Int) x u p=true
 | [],i=>by simp [Tk]
 | l :: ls, i => by
   rw [Tk,Bool.and_eq_true,Qk x u p ls (i+1)];constructor
   ·rintro ⟨h1,h2⟩ j m hm;rcases j with _ | j
    ·simp at hm;subst hm;exact h1
    ·simp at hm;have:=h2 j m hm;rw [show i+(j+1)=i+1+j by omega];exact this
   ·intro h;refine ⟨h 0 l (by simp),fun j m hm=>?_⟩;have:=h (j+1) m (by simpa using hm);rw [show i+1+j=i+(j+1) by omega];exact this
theorem J9 {w:World}{b:Nat}{x y:Value}{T:TypeId}(h:w.heap[b]?=some (.cells #[x,y] T (0,0))):w.cell? ⟨b,0,none⟩=some x∧w.cell? ⟨b,1,none⟩=some y:=⟨Ab h 0 _ rfl,Ab h 1 _ rfl⟩
theorem Ao {w w':World}{b:Nat}{o:Obj}(h:w.heap[b]?=some o)(k:Kept w w'):w'.heap[b]?=some o:=(k.block b (Array.getElem?_eq_some_iff.1 h).1).trans h
theorem Ajp {w:World}{bt ln c:Nat}{n:Int}{A:Option Addr}{so:Value}(hb:w.heap[bt]?=some (.cells #[.slice A ln c,so] 25 (0,0))) :
 Calls Tryz.prog 86 #[.int .i64 n,.pointer (some ⟨bt,0,none⟩)] w (RetK (.bool (!Db n ln)) w):=by
 obtain ⟨c0,c1⟩:=J9 hb;have B:=hid (Pd n ln w);obtain ⟨f,hf⟩:∃ f,Db n ln=f:=⟨_,rfl⟩;rw [hf] at B ⊢;clear hf hb;go_enter Tryz.func86,Tryz.ntmps86;go_wp2_with fail;refine B.out.mono ?_;rintro e w2 ⟨rfl,q⟩;simp only [];go_wp2_with fail;go_ret;exact ⟨rfl,q⟩
theorem Ao4 (w:World)(s o:Value):∃ W,W=w.alloc (.cells #[s,o] 25)∧Kept w W∧W.heap[w.heap.size]?=some (.cells #[s,o] 25 (0,0))∧w.heap.size<W.heap.size :=
 ⟨_,rfl,Ad _ _,heap_alloc_new _ _,by simp⟩
def Wj (ls:List Ln):Prop:=∀ l∈ls,-9223372036854775808≤l.op∧l.op≤9223372036854775807∧l.k.lens 17592186044416
theorem Abh {w:World}{v:Value}{ls:List Ln}{outs:List Int}{x u p:Int}(hv:TpR w v ls outs)(hok:Wj ls)(hn:ls.length≤1000000000)(hno:outs.length≤1000000000)
 (hx:-9223372036854775808≤x∧x≤9223372036854775807) (hu:-9223372036854775808≤u∧u≤9223372036854775807) (hp:-9223372036854775808≤p∧p≤9223372036854775807) :
 Calls Tryz.prog 47 #[v,.int .i64 x,.int .i64 u,.int .i64 p] w (RetK (.bool (Pp ls outs x u p)) w):=by
 obtain ⟨s,o,rfl,hls,hou⟩:=hv;have HL:=hid hls;have HO:=hid hou;obtain ⟨A,c,rfl,hc,hA⟩:=hls;obtain ⟨B,d,rfl,hd,-⟩:=hou;have HA:=hid hA;have OK:=hid hok;obtain ⟨W,hW,kW,hb,lW⟩:=Ao4 w (.slice A ls.length c) (.slice B outs.length d);have HW:=hid hW;have K:=hid kW;have HB:=hid hb;obtain ⟨c0,c1⟩:=J9 hb;clear hA hok hW kW hb;by_cases h1:ls.length≤200
 ·by_cases h2:outs.length≤200
  ·obtain ⟨w1,w2,w3,r1,r2,r3,hm,k3⟩:=Ad0 W hx.1 hx.2 hu.1 hu.2 hp.1 hp.2;have hmm:=@run_makeMap Tryz.prog;have em:Pp ls outs x u p=(Tk x u p 0 ls&&!(outs.any fun n=>!Db n ls.length)):=by
    unfold Pp;rw [show decide (ls.length≤200)=true by simpa using h1,show decide (outs.length≤200)=true by simpa using h2,Bool.true_and,Bool.true_and,List.all_eq_not_any_not]
   rw [em];obtain ⟨m1,hm1⟩:∃ m1,Tk x u p 0 ls=m1:=⟨_,rfl⟩;rw [hm1];have HM1:=hid hm1;generalize hn':ls.length=n at *;have HN:=hid hn';have HM:=hid hm;have K3:=hid k3;have CC:=hid (fun w1 (k:Kept W w1)=>Aaz (w:=w1) (g:=fun y=>!Db y n) (bt:=w.heap.size) (HO.out.kept (K.out.trans k)) hno (fun w2 q y _=>Ajp (Ao HB.out (k.trans q))));obtain ⟨m2,hm2⟩:∃ m2,(outs.any fun n'=>!Db n' n)=m2:=⟨_,rfl⟩;rw [hm2] at CC ⊢;clear hm1 hn' hm k3 hm2 em;have t1:decide ((200:Int)<(n:Int))=false:=by simp;omega
   have t2:decide ((200:Int)<(outs.length:Int))=false:=by simp;omega
   go_enter Tryz.func47,Tryz.ntmps47;go_upto_region 1 with fail;rw [←HW.out];obtain ⟨e0,e1⟩:=J9 (Ao HB.out K3.out);go_wp2_with fail;clear c0 c1 e0 e1 r1 r2 r3 hmm t1 t2
   go_loopw [30] (fun t wr=>∃ k:Nat,k≤n∧t=.int .i64 k∧(∀ i l,i<k→ls[i]?=some l→Rm l (i:Int) x u p=true)∧Kept w3 wr) (fun t _=>(n-intOf t).toNat)
   case atStart=>exact ⟨0,Nat.zero_le _,rfl,fun i a hi=>absurd hi (Nat.not_lt_zero _),Below.refl _ _⟩
   case round =>
    obtain ⟨k,hk,rfl,hall,hKr⟩:=hrel;have KR:=hid hKr;have AL:=hid hall;clear hKr hall;by_cases hlt:k<n
    ·obtain ⟨b,off,rfl,hd⟩:=HA.out (by omega);obtain ⟨l,hl⟩:∃ l,ls[k]?=some l:=⟨_,List.getElem?_eq_getElem (by have:=HN.out;omega)⟩;have hat:=(hd k l hl).kept (K.out.trans (K3.out.trans KR.out));obtain ⟨a0,a1,a2,y0,y1,y2,y3,y4,y5,g0,g1,g2,g3,g4,g5,hI⟩:=hat;obtain ⟨A1,l1,q1,A2,l2,q2,ei,-,-⟩:=Au hI;injection ei with ei;injection ei with ei
     simp only [List.cons.injEq,and_true] at ei;obtain ⟨rfl,rfl,rfl,rfl,rfl,rfl⟩:=ei;obtain ⟨o1,o2,ol⟩:=OK.out l (List.mem_of_getElem? hl);have hm:=fun w2 (q:Kept wr w2)=>Ad3 (a:=l.a) (b:=l.b) (i:=k) (hI.kept q) ol (HM.out.kept (KR.out.trans q)) o1 o2
     have HLK:=hid hl;obtain ⟨mb,hmb⟩:∃ mb,mb=Rm l (k:Int) x u p:=⟨_,rfl⟩;have hm2:=fun w2 (q:Kept wr w2)=>show Calls _ _ _ _ (RetK (.bool mb) w2) by rw [hmb];exact hm w2 q
     have HMB:=hid hmb;have HMM:=hid hm2;clear hd hl hI ol hm hm2 hmb o1 o2;go_wp2_with fail;refine (HMM.out _ (Ad _ _)).mono ?_;rintro e w2' ⟨rfl,q⟩;have K2:=hid (KR.out.trans ((Ad _ _).trans q));clear q a0 a1 a2 g0 g1 g2 g3 g4 g5 HMM;simp only [];cases mb
     ·go_wp2_with fail;go_ret;have e1:m1=false:=by
       cases hm:m1
       ·rfl
       ·have h1:=(Qk x u p ls 0).1 (HM1.out.trans hm) k l HLK.out;rw [Nat.zero_add] at h1;rw [←HMB.out] at h1;cases h1
      exact ⟨by rw [e1];rfl,K.out.trans (K3.out.trans K2.out)⟩
     ·go_wp2_with fail;go_roundw
      case rel =>
       refine ⟨k+1,by omega,by go_num,fun i a hi ha'=>?_,K2.out⟩;by_cases h2:i=k
       ·subst h2;rw [HLK.out] at ha';cases ha';exact HMB.out.symm
       ·exact AL.out i a (by omega) ha'
      case measure=>simp only [intOf];omega
    ·obtain rfl:k=n:=by omega
     have e1:m1=true:=by
      rw [←HM1.out];refine (Qk x u p ls 0).2 fun j m hm=>?_
      rw [Nat.zero_add];exact AL.out j m (by have:=(List.getElem?_eq_some_iff.1 hm).1;have:=HN.out;omega) hm
     obtain ⟨f0,f1⟩:=J9 (Ao HB.out (K3.out.trans KR.out));have hmf:=Gn;go_wp2_with fail;refine (CC.out _ (K3.out.trans KR.out)).mono ?_;rintro e w2' ⟨rfl,q⟩;have K2:=hid (KR.out.trans q);clear q f0 f1;simp only [];go_wp2_with fail;go_ret;exact ⟨by rw [e1];rfl,K.out.trans (K3.out.trans K2.out)⟩
  ·have em:Pp ls outs x u p=false:=by
    unfold Pp;rw [show decide (outs.length≤200)=false by simpa using h2];simp
   rw [em];have t1:decide ((200:Int)<(ls.length:Int))=false:=by simp;omega
   have t2:decide ((200:Int)<(outs.length:Int))=true:=by simp;omega
   clear em;go_enter Tryz.func47,Tryz.ntmps47;go_upto_region 1 with fail;rw [←HW.out];go_wp2_with fail;go_ret;exact ⟨rfl,K.out⟩
 ·have em:Pp ls outs x u p=false:=by
   unfold Pp;rw [show decide (ls.length≤200)=false by simpa using h1];simp
  rw [em];have t1:decide ((200:Int)<(ls.length:Int))=true:=by simp;omega
  clear em;go_enter Tryz.func47,Tryz.ntmps47;go_upto_region 1 with fail;rw [←HW.out];go_wp2_with fail;go_ret;exact ⟨rfl,K.out⟩
theorem Ao5 (w:World)(x y z x' y' z':Value):∃ V,V=w.alloc (.cells #[x,y,z,x',y',z'] 30)∧Kept w V∧BlkI V w.heap.size x y z x' y' z'∧w.heap.size<V.heap.size :=
 ⟨_,rfl,Ad _ _,Fs _ _ _ _ _ _ _,by simp⟩
theorem OwnI.base {w:World}{base:Nat}{v:Value}{l:List RawI}{xs:List Value}(h:OwnI w base v l xs):∀ g,v.ownBlock=some g→base≤g:=by
 intro g hg;rcases h.row.2 with ⟨rfl,-⟩ | ⟨g',cap,cur,rfl,hb,-⟩
 ·simp [Value.ownBlock] at hg
 ·simp [Value.ownBlock] at hg;subst hg;exact hb
theorem OwnI.grown_kept {W w w':World}{v:Value}{l:List RawI}{xs:List Value}(h:OwnI w W.heap.size v l xs)(k:Kept W w)(hg:w.grownBy w' v.ownBlock):Kept W w' :=
 Below.grown k hg k.size (fun g hg'=>h.base g hg')
theorem Aji (w:World):IvS w (.slice none 0 0) []:=⟨none,0,rfl,Nat.le_refl _,fun h=>absurd h (by simp)⟩
def OvC (ov:Iv→Nat→Outc Iv):Prop:=(∀ a p,a.Ok→1≤p→p≤300→OkI (ov a p)) ∧
 ∀ w v a p,IvC w v a→a.Ok→Tab w→1≤p→p≤300→Calls Tryz.prog 102 #[v,.int .i64 (p:Nat)] w (RetIE (Br (ov a p)) w)
def Rws (w:World) (v:Value) (rows:List (List RawI)):Prop:=∃ A c,v=.slice A rows.length c∧rows.length≤c∧(0<rows.length→∃ b off,A=some ⟨b,off,none⟩∧∀ (i:Nat) (r:List RawI),rows[i]?=some r→∃ s:Value,w.cell? ⟨b,off+i,none⟩=some s∧IvS w s r)
theorem Pz (w:World):Rws w (.slice none 0 0) []:=⟨none,0,rfl,Nat.le_refl _,fun h=>absurd h (by simp)⟩
theorem Rws.kept {w w':World}{v:Value}{rows:List (List RawI)}(h:Rws w v rows)(k:Kept w w'):Rws w' v rows:=by
 obtain ⟨A,c,e,hc,h⟩:=h;refine ⟨A,c,e,hc,fun h0=>?_⟩;obtain ⟨b,off,rfl,hd⟩:=h h0;exact ⟨b,off,rfl,fun i r hi=>(hd i r hi).imp fun s hs=>⟨(k.cell (p:=⟨b,off+i,none⟩) (Aq hs.1)).trans hs.1,hs.2.kept k⟩⟩
def SlC (u:Value):Prop:=∃ A a c,u=.slice A a c
theorem SlC.nl {u:Value}(h:SlC u):Bl u:=by
 obtain ⟨A,a,c,rfl⟩:=h;exact Ae _ _ _
theorem AllC.nol {w:World}{g:Nat}(h:AllC SlC w g):NoL w g:=by
 obtain ⟨cur,e,h1,h2⟩:=h;exact ⟨cur,e,h1,fun u hu=>(h2 u hu).nl⟩
theorem IvAt.grownR {w w':World}{b o:Nat}{a:RawI}{row:Option Nat}(h:IvAt w b o a)(hg:w.grownBy w' row)(hN:∀ g,row=some g→AllC SlC w g):IvAt w' b o a:=by
 obtain ⟨x,y,z,x',y',z',h0,h1,h2,h3,h4,h5,hI⟩:=h;have hb:=Aq h0;have hne:row≠some b:=by
  intro hr;obtain ⟨cur,e,q1,q2⟩:=hN b hr;obtain ⟨A1,l1,c1,A2,l2,c2,ei,-,-⟩:=Au hI;injection ei with ei;injection ei with ei
  simp only [List.cons.injEq,and_true] at ei;obtain ⟨rfl,rfl,rfl,rfl,rfl,rfl⟩:=ei;simp only [World.cell?,q1] at h0;have h6:cur[o]?=some (.bool a.lo.neg):=by simpa using h0
  rw [←Array.getElem?_toList] at h6;obtain ⟨A,x,c,e⟩:=q2 _ (List.mem_of_getElem? h6);cases e
 have hc:∀ k v,w.cell? ⟨b,k,none⟩=some v→w'.cell? ⟨b,k,none⟩=some v:=by
  intro k v hv;have:=hg.block b hb (Ne.symm hne);simp only [World.cell?,this];simpa only [World.cell?] using hv
 exact ⟨x,y,z,x',y',z',hc _ _ h0,hc _ _ h1,hc _ _ h2,hc _ _ h3,hc _ _ h4,hc _ _ h5,hI.grown hg fun g hg'=>(hN g hg').nol⟩
theorem IvS.grownR {w w':World}{v:Value}{l:List RawI}{row:Option Nat}(h:IvS w v l)(hg:w.grownBy w' row)(hN:∀ g,row=some g→AllC SlC w g):IvS w' v l:=by
 obtain ⟨A,c,e,hc,h⟩:=h;refine ⟨A,c,e,hc,fun h0=>?_⟩;obtain ⟨b,off,rfl,hd⟩:=h h0;exact ⟨b,off,rfl,fun i a hi=>(hd i a hi).grownR hg hN⟩
structure OwnR (w:World) (base:Nat) (v:Value) (l:List (List RawI)) (xs:List Value):Prop where
 row:w.ownsRow base 31 1 v l.length xs
 sl:∀ u∈xs,SlC u
 blk:∀ g,v.ownBlock=some g→AllC SlC w g
 rws:∀ (i:Nat) (r:List RawI),l[i]?=some r→∃ s:Value,xs[i]?=some s∧IvS w s r
theorem OwnR.nil (w:World)(base:Nat):OwnR w base (.slice none 0 0) [] [] :=
 ⟨World.ownsRow_nil _ _ _ _,by simp,(by intro g h;simp [Value.ownBlock] at h),by simp⟩
theorem OwnR.kept {w w':World}{base:Nat}{v:Value}{l:List (List RawI)}{xs:List Value}(h:OwnR w base v l xs)(k:Kept w w'):OwnR w' base v l xs:=by
 obtain ⟨h1,h2,h3,h4⟩:=h;refine ⟨⟨h1.1,?_⟩,h2,?_,?_⟩
 ·rcases h1.2 with hn | ⟨g,cap,cur,rfl,hb,hg,rest⟩
  ·exact .inl hn
  ·exact .inr ⟨g,cap,cur,rfl,hb,(k.block g (Array.getElem?_eq_some_iff.1 hg).1).trans hg,rest⟩
 ·intro g hg;obtain ⟨cur,e,q1,q2⟩:=h3 g hg;exact ⟨cur,e,(k.block g (Array.getElem?_eq_some_iff.1 q1).1).trans q1,q2⟩
 ·intro i d hi;obtain ⟨s,a0,hd⟩:=h4 i d hi;exact ⟨s,a0,hd.kept k⟩
theorem OwnR.all {w:World}{base:Nat}{v:Value}{l:List (List RawI)}{xs:List Value}(h:OwnR w base v l xs):Rws w v l:=by
 obtain ⟨h1,h2,h3,h4⟩:=h;have hc:=h1.2;rcases hc with ⟨rfl,h0⟩ | ⟨g,cap,cur,rfl,hb,hg,hn,-⟩
 ·obtain rfl:l=[]:=List.eq_nil_of_length_eq_zero h0;exact Pz _
 ·refine ⟨_,cap,rfl,hn,fun _=>⟨g,0,rfl,fun i d hi=>?_⟩⟩;obtain ⟨s,a0,hd⟩:=h4 i d hi;have cl:=h1.cells (g:=g) rfl;have ad:∀ j,(⟨g,0,none⟩:Addr).add j=⟨g,j,none⟩:=by intro j;unfold Addr.add;split<;>simp_all
  refine ⟨s,?_,hd⟩;have:=cl _ _ a0;rw [ad] at this;simpa using this
theorem OwnR.snoc {w w':World}{base:Nat}{v v' s:Value}{l:List (List RawI)}{xs:List Value}{a:List RawI}{g':Nat}(h:OwnR w base v l xs)
 (hd:IvS w s a) (hr:w'.ownsRow base 31 1 v' (l.length+1) (xs++[s])) (hg:w.grownBy w' v.ownBlock) (hv':v'.ownBlock=some g') (hN:AllC SlC w' g') :
 OwnR w' base v' (l++[a]) (xs++[s]):=by
 obtain ⟨h1,h2,h3,h4⟩:=h;refine ⟨by simpa using hr,?_,?_,?_⟩
 ·intro u hu;rcases List.mem_append.1 hu with hu | hu
  ·exact h2 u hu
  ·simp only [List.mem_singleton] at hu;subst hu;obtain ⟨A,c,rfl,-⟩:=hd;exact ⟨_,_,_,rfl⟩
 ·intro g hg;rw [hv'] at hg;cases hg;exact hN
 ·intro i e hi;have hxl:=h1.1;by_cases hlt:i<l.length
  ·rw [List.getElem?_append_left hlt] at hi;obtain ⟨s0,a0,hd'⟩:=h4 i e hi;refine ⟨s0,?_,hd'.grownR hg h3⟩;rw [List.getElem?_append_left (by omega)];exact a0
  ·rw [List.getElem?_append_right (by omega)] at hi;obtain ⟨hz,he⟩:=List.getElem?_eq_some_iff.1 hi;simp at hz;have hi':i=l.length:=by omega
   subst hi';simp at he;subst he;refine ⟨s,?_,hd.grownR hg h3⟩;rw [List.getElem?_append_right (by omega),hxl,show l.length-l.length*1=0 by omega];rfl
theorem OwnR.base {w:World}{base:Nat}{v:Value}{l:List (List RawI)}{xs:List Value}(h:OwnR w base v l xs):∀ g,v.ownBlock=some g→base≤g:=by
 intro g hg;rcases h.row.2 with ⟨rfl,-⟩ | ⟨g',cap,cur,rfl,hb,-⟩
 ·simp [Value.ownBlock] at hg
 ·simp [Value.ownBlock] at hg;subst hg;exact hb
theorem OwnR.grown_kept {W w w':World}{v:Value}{l:List (List RawI)}{xs:List Value}(h:OwnR w W.heap.size v l xs)(k:Kept W w)(hg:w.grownBy w' v.ownBlock):Kept W w' :=
 Below.grown k hg k.size (fun g hg'=>h.base g hg')
theorem Aor:(Tryz.prog.info? 31).map (fun i=>(i.zero,i.size,i.bytes))=some (some (.slice none 0 0),1,24):=by kernel_rfl
theorem IvAt.word {w:World}{b b' o:Nat}{a:RawI}{x:Value}{T:TypeId}(h:IvAt w b' o a)(hb:w.heap[b]?=some (.cells #[x] T (0,0)))(hx:Bl x)(y:Value):IvAt (w.setCell ⟨b,0,none⟩ y) b' o a:=by
 obtain ⟨p,q,r,p',q',r',h0,h1,h2,h3,h4,h5,hI⟩:=h;have hne:¬b'=b:=by
  rintro rfl;simp only [World.cell?,hb] at h5;simp at h5
 have k:KB w [b] (w.setCell ⟨b,0,none⟩ y):=(KB.refl w [b]).setCell (by simp) (Ab hb 0 x rfl) hx y;exact IvAt.kb ⟨p,q,r,p',q',r',h0,h1,h2,h3,h4,h5,hI⟩ k (by simpa using hne)
theorem IvS.word {w:World}{b:Nat}{v:Value}{l:List RawI}{x:Value}{T:TypeId}(h:IvS w v l)(hb:w.heap[b]?=some (.cells #[x] T (0,0)))(hx:Bl x)(y:Value):IvS (w.setCell ⟨b,0,none⟩ y) v l:=by
 obtain ⟨A,c,e,hc,h⟩:=h;refine ⟨A,c,e,hc,fun h0=>?_⟩;obtain ⟨b',off,rfl,hd⟩:=h h0;exact ⟨b',off,rfl,fun i a hi=>(hd i a hi).word hb hx y⟩
theorem Rws.word {w:World}{b:Nat}{v:Value}{l:List (List RawI)}{x:Value}{T:TypeId}(h:Rws w v l)(hv:v.ownBlock≠some b∨l=[])(hb:w.heap[b]?=some (.cells #[x] T (0,0)))(hx:Bl x)(y:Value):Rws (w.setCell ⟨b,0,none⟩ y) v l:=by
 obtain ⟨A,c,e,hc,h⟩:=h;refine ⟨A,c,e,hc,fun h0=>?_⟩;obtain ⟨b',off,rfl,hd⟩:=h h0;have hne:¬b'=b:=by
  rcases hv with hv | rfl
  ·rintro rfl;rw [e] at hv;exact hv rfl
  ·exact absurd h0 (by simp)
 have k:KB w [b] (w.setCell ⟨b,0,none⟩ y):=(KB.refl w [b]).setCell (by simp) (Ab hb 0 x rfl) hx y;exact ⟨b',off,rfl,fun i r hi=>(hd i r hi).imp fun s hs=>⟨k.cell hs.1 (by simpa using hne),hs.2.word hb hx y⟩⟩
theorem Agx (k:Int)(w:World):Calls Tryz.prog 45 #[.bool true,.int .i64 k] w fun e w'=>e=.returned (.tuple #[])∧w=w':=by
 go_enter Tryz.func45,Tryz.ntmps45;go_wp2
 go_end0
 exact ⟨rfl,rfl⟩
theorem Ad7 (k:Int)(w:World):Calls Tryz.prog 45 #[.bool false,.int .i64 k] w fun e w'=>e=.panicked (Bs 106 k)∧w=w':=by
 go_enter Tryz.func45,Tryz.ntmps45;go_wp2;exact ⟨rfl,rfl,rfl⟩
theorem Xh (b:Bool)(k:Int)(w:World):Calls Tryz.prog 45 #[.bool b,.int .i64 k] w fun e w'=>e=Y9 106 b k∧w=w':=by
 cases b
 ·exact Ad7 k w
 ·exact Agx k w
theorem Ox (k:Int)(w:World):Calls Tryz.prog 45 #[.bool true,.int .i64 k] w (RetK (.tuple #[]) w):=(Xh true k w).mono fun _ _ ⟨he,hw⟩=>⟨he,hw▸Below.refl _ _⟩
theorem Za (b:Bool)(k:Int)(w:World):Calls Tryz.prog 45 #[.bool b,.int .i64 k] w fun e w'=>(∃ v,e=.returned v∧Kept w w'∧(b=true∧v=.tuple #[]))∨(∃ c,e=.panicked c∧(b=false∧c=Bs 106 k∧w=w')) :=
 (Xh b k w).mono fun e w' ⟨he,hw⟩=>by
   subst hw;cases b
   ·exact .inr ⟨_,he,rfl,rfl,rfl⟩
   ·exact .inl ⟨_,he,Below.refl _ _,rfl,rfl⟩
theorem Qv (k:Int)(w:World):(Instr.typeAssert (.iface 106 (.agg #[.int .i64 k])) 20 106 true).run Tryz.prog w=.ok (.tuple #[.agg #[.int .i64 k],.bool true]) w:=by
 kernel_rfl
theorem Rr (w:World):(Instr.typeAssert .nilIface 20 106 true).run Tryz.prog w=.ok (.tuple #[.agg #[.int .i64 0],.bool false]) w:=by
 kernel_rfl
def Jm (w:World) (b2 b3:Nat) (x q:Value) (o:Obj):World:=((w.setCell ⟨b2,0,none⟩ x).setCell ⟨b3,0,none⟩ q).alloc o
theorem Yd (b2 b3:Nat)(w:World)(k:Int)(x q:Value)
 (h0:w.heap[b2]?=some (.cells #[x] 38 (0,0))) (h1:w.heap[b3]?=some (.cells #[q] 3 (0,0))) (hne:¬b2=b3) :
 CallsD Tryz.prog 83 #[.pointer (some ⟨b2,0,none⟩),.pointer (some ⟨b3,0,none⟩)] (.panicking (Bs 106 k)) w fun e u' w' =>
  e=.returned (.tuple #[])∧u'=.panicking [{ v:=.iface 106 (.agg #[.int .i64 k]),recovered:=true }]∧w'=(Jm w b2 b3 (.slice none 0 0) (.int .i64 k) (.cells #[.int .i64 k] 106)).drew:=by
 have ha:=Qv k;have l2:b2<w.heap.size:=(Array.getElem?_eq_some_iff.1 h0).1;have l3:b3<w.heap.size:=(Array.getElem?_eq_some_iff.1 h1).1;have n2:¬b2=w.heap.size:=by omega
 have n3:¬b3=w.heap.size:=by omega
 have n2':¬w.heap.size=b2:=by omega
 have n3':¬w.heap.size=b3:=by omega
 have hne':¬b3=b2:=fun h=>hne h.symm
 have c20:=Ab h0 0 x rfl;have c30:=Ab h1 0 q rfl;have f20:=Ap h0 0;have f30:=Ap h1 0;refine callsD_of_wpS Tryz.func83 rfl fun c₀ cs hu=>?_
 simp only [Tryz.ntmps83,List.size_toArray,List.length_cons,List.length_nil,Nat.reduceAdd,Nat.reduceSub,Array.replicate_succ,
  Array.replicate_zero,List.push_toArray,List.append_toArray,List.nil_append,List.cons_append]
 refine Ed (v:=.iface 106 (.agg #[.int .i64 k])) (cs':={ c₀ with mode:=.panicking [{ v:=.iface 106 (.agg #[.int .i64 k]),recovered:=true }] }::cs) (w':=w) rfl ?_ ?_ ?_
 ·simp [go_sem]
 ·rw [recoverD,hu];exact ⟨rfl,rfl⟩
 go_wp2_with fail;go_region;exact ⟨rfl,_,rfl,_,results_none rfl _ _ _,rfl,rfl,rfl⟩
theorem Ye (b2 b3:Nat)(w:World) :
 CallsD Tryz.prog 83 #[.pointer (some ⟨b2,0,none⟩),.pointer (some ⟨b3,0,none⟩)] .returning w fun e u' w' =>
  e=.returned (.tuple #[])∧u'=.returning∧w'=w.alloc (.cells #[.int .i64 0] 106):=by
 have ha:=Rr;refine callsD_of_wpS Tryz.func83 rfl fun c₀ cs hu=>?_
 simp only [Tryz.ntmps83,List.size_toArray,List.length_cons,List.length_nil,Nat.reduceAdd,Nat.reduceSub,Array.replicate_succ,
  Array.replicate_zero,List.push_toArray,List.append_toArray,List.nil_append,List.cons_append]
 refine Ed (v:=.nilIface) (cs':=c₀::cs) (w':=w) rfl ?_ ?_ ?_
 ·simp [go_sem]
 ·rw [recoverD,hu];exact ⟨rfl,rfl⟩
 go_wp2_with fail;exact ⟨rfl,.returning,by rw [←hu],_,results_none rfl _ _ _,rfl,rfl,rfl⟩
def Bz (o:Outc Iv) (w:World) (e:Ending) (w':World):Prop:=Kept w w'∧((o.k=0∧∃ v,e=.returned v∧IvR w' v o.v.raw)∨(o.k≠0∧e=.panicked (Bs 106 o.k)))
def Sh (o:Outc (List RawI)) (w:World) (e:Ending) (w':World):Prop:=Kept w w'∧((o.k=0∧∃ v,e=.returned v∧IvS w' v o.v∧∀ g,v.ownBlock=some g→w.heap.size≤g)∨(o.k≠0∧e=.panicked (Bs 106 o.k)))
def Gu (o:Outc (List (List RawI))) (w:World) (e:Ending) (w':World):Prop:=Kept w w'∧((o.k=0∧∃ v,e=.returned v∧Rws w' v o.v∧∀ g,v.ownBlock=some g→w.heap.size≤g)∨(o.k≠0∧e=.panicked (Bs 106 o.k)))
def Mf (o:Outc (List (List RawI))) (w:World) (e:Ending) (w':World):Prop:=Kept w w'∧∃ v,e=.returned (.tuple #[v,.int .i64 o.k])∧Rws w' v o.v
theorem Aco {w:World}{K:Nat}{cap:Array Value}{o:Outc (List (List RawI))}(h:∀ w1,Kept w w1→Calls Tryz.prog K cap w1 (Gu o w1))(hz:o.k≠0→o.v=[])
 (hk:∀ w,(callFunc K cap).run Tryz.prog w=.ok (.enter K cap) w) :
 Calls Tryz.prog 43 #[.func (.func K) #[] cap] w (Mf o w):=by
 have hmf:=Gn;have HH:=hid h;clear h
 go_enter_defers Tryz.func43,Tryz.ntmps43
 go_wp2_with fail;have k1:Kept w ((w.alloc (.cells #[.slice none 0 0] 38)).alloc (.cells #[.int .i64 0] 3)):=(Ad _ _).trans (Ad _ _);refine (HH.out _ k1).mono ?_;have b0:((w.alloc (.cells #[.slice none 0 0] 38)).alloc (.cells #[.int .i64 0] 3)).heap[w.heap.size]?=some (.cells #[.slice none 0 0] 38 (0,0)):=by
  rw [Below.heap_alloc _ _ _ (by simp)];exact heap_alloc_new _ _
 have b1:((w.alloc (.cells #[.slice none 0 0] 38)).alloc (.cells #[.int .i64 0] 3)).heap[w.heap.size+1]?=some (.cells #[.int .i64 0] 3 (0,0)):=by
  have:=heap_alloc_new (w.alloc (.cells #[.slice none 0 0] 38)) (.cells #[.int .i64 0] 3);simpa using this
 rintro e w1 ⟨q,hq⟩;have c0:=(q.block w.heap.size (by simp;omega)).trans b0;have c1:=(q.block (w.heap.size+1) (by simp)).trans b1;have k2:=k1.trans q;clear q b0 b1 k1 HH;have hs1:w.heap.size+1<w1.heap.size:=(Array.getElem?_eq_some_iff.1 c1).1;have hs0:w.heap.size<w1.heap.size:=by omega
 have n1:¬w.heap.size=w1.heap.size:=by omega
 have n2:¬w.heap.size+1=w1.heap.size:=by omega
 have n3:¬w.heap.size=w.heap.size+1:=by omega
 have n4:¬w.heap.size+1=w.heap.size:=by omega
 have c20:w1.cell? ⟨w.heap.size,0,none⟩=some (.slice none 0 0):=Ab c0 0 _ rfl;have c30:w1.cell? ⟨w.heap.size+1,0,none⟩=some (.int .i64 0):=Ab c1 0 _ rfl;have f20:=Ap c0 0;have f30:=Ap c1 0;have KK:=hid k2;have HQ:=hid hq;clear k2 hq;have fin:∀ (x q:Value) (o:Obj),(Jm w1 w.heap.size (w.heap.size+1) x q o).cell? ⟨w.heap.size,0,none⟩=some x∧(Jm w1 w.heap.size (w.heap.size+1) x q o).cell? ⟨w.heap.size+1,0,none⟩=some q∧Kept w (Jm w1 w.heap.size (w.heap.size+1) x q o):=by
  intro x q o;have g0:(Jm w1 w.heap.size (w.heap.size+1) x q o).heap[w.heap.size]?=some (.cells #[x] 38 (0,0)):=by
   unfold Jm;rw [Below.heap_alloc _ _ _ (by simp [World.setCell];omega)];exact Ba (Bi c0 _) n3 _
  have g1:(Jm w1 w.heap.size (w.heap.size+1) x q o).heap[w.heap.size+1]?=some (.cells #[q] 3 (0,0)):=by
   unfold Jm;rw [Below.heap_alloc _ _ _ (by simp [World.setCell];omega)];exact Bi (Ba c1 n4 _) _
  exact ⟨Ab g0 0 _ rfl,Ab g1 0 _ rfl,((KK.out.setCell (p:=⟨w.heap.size,0,none⟩) (Nat.le_refl _) x).setCell (p:=⟨w.heap.size+1,0,none⟩) (Nat.le_succ _) q).alloc (by simpa [World.setCell] using KK.out.size) o⟩
 have FF:=hid fin;clear fin;rcases HQ.out with ⟨h0,v,rfl,hv,hf⟩ | ⟨h0,rfl⟩
 ·have hv':=hv;obtain ⟨A,c,rfl,-⟩:=hv';have HS:=hid hv;have HF:=hid hf;have HC:=hid (And.intro c0 c1);clear HQ hv hf c0 c1;simp only [];go_wp2_with fail;refine leaves_cons (f:=83) (args:=#[.pointer (some ⟨w.heap.size,0,none⟩),.pointer (some ⟨w.heap.size+1,0,none⟩)]) (by simp) (by simp [go_sem]) ?_;refine (Ye _ _ _).mono ?_;rintro e u' w2 ⟨rfl,rfl,rfl⟩;obtain ⟨d0,d1,kk⟩:=FF.out (.slice A o.v.length c) (.int .i64 0) (.cells #[.int .i64 0] 106);have hr:Rws (Jm w1 w.heap.size (w.heap.size+1) (.slice A o.v.length c) (.int .i64 0) (.cells #[.int .i64 0] 106)) (.slice A o.v.length c) o.v:=by
   have q0:=HS.out.word (T:=38) (x:=.slice none 0 0) (b:=w.heap.size) (.inl fun hh=>by have:=HF.out _ hh;simp at this;omega) HC.out.1 (Ae _ _ _) (.slice A o.v.length c);have q1:=q0.word (T:=3) (x:=.int .i64 0) (b:=w.heap.size+1) (.inl fun hh=>by have:=HF.out _ hh;simp at this;omega) (Ba HC.out.2 n4 _) (Ah _) (.int .i64 0);exact q1.kept (Ad _ _)
  have HR:=hid hr;have HKK:=hid kk;clear hr kk;refine ⟨.tuple #[.slice A o.v.length c,.int .i64 0],?_,?_⟩
  ·change (results Tryz.f43 _).run Tryz.prog (Jm w1 w.heap.size (w.heap.size+1) (.slice A o.v.length c) (.int .i64 0) (.cells #[.int .i64 0] 106))=.ok _ (Jm w1 w.heap.size (w.heap.size+1) (.slice A o.v.length c) (.int .i64 0) (.cells #[.int .i64 0] 106));generalize Jm w1 w.heap.size (w.heap.size+1) (.slice A o.v.length c) (.int .i64 0) (.cells #[.int .i64 0] 106)=W at *;simp [results,Tryz.results43,go_sem,d0,d1]
  ·exact ⟨HKK.out,_,by rw [h0],HR.out⟩
 ·clear HQ;simp only [];refine leaves_cons (f:=83) (args:=#[.pointer (some ⟨w.heap.size,0,none⟩),.pointer (some ⟨w.heap.size+1,0,none⟩)]) (by simp) (by simp [go_sem]) ?_;refine (Yd _ _ _ _ _ _ c0 c1 n3).mono ?_;rintro e u' w2 ⟨rfl,rfl,rfl⟩;obtain ⟨d0,d1,kk⟩:=FF.out (.slice none 0 0) (.int .i64 o.k) (.cells #[.int .i64 o.k] 106);refine ⟨.tuple #[.slice none 0 0,.int .i64 o.k],?_,?_⟩
  ·change (results Tryz.f43 _).run Tryz.prog (Jm w1 w.heap.size (w.heap.size+1) (.slice none 0 0) (.int .i64 o.k) (.cells #[.int .i64 o.k] 106)).drew=.ok _ (Jm w1 w.heap.size (w.heap.size+1) (.slice none 0 0) (.int .i64 o.k) (.cells #[.int .i64 o.k] 106)).drew;generalize Jm w1 w.heap.size (w.heap.size+1) (.slice none 0 0) (.int .i64 o.k) (.cells #[.int .i64 o.k] 106)=W at *;simp [results,Tryz.results43,go_sem,d0,d1]
  ·exact ⟨kk.drew,_,rfl,by rw [hz h0];exact Pz _⟩
end Go.Proofs.YtabjjdicffcolaaGreatDoor
