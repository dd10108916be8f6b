/- Words and contracts, part 30. -/
import Derived.Test.YtabjjdicffcolaaGreatDoorClaimSevalp29
import Derived.Maps.OwnSet
set_option maxRecDepth 100000
set_option maxHeartbeats 0
namespace Go.Proofs.YtabjjdicffcolaaGreatDoor
open Go.RowKit Go.Maps
def Agx (x u p:Int):DataW Unit:=(((DataW.map []).put (.int .i64 3) (.lit (.int .i64 x))).put (.int .i64 4) (.lit (.int .i64 u))).put (.int .i64 5) (.lit (.int .i64 p))
def MapR (w:World) (v:Value) (x u p:Int):Prop:=∃ b n,v=.map (some b)∧w.ownsMap Tryz.prog 3 (plainElem Tryz.prog 3) b n (Agx x u p)
def Q9 (op x u p:Int):Int:=if op=3 then x else if op=4 then u else if op=5 then p else 0
def isP (op:Int):Bool:=decide (op=3)||decide (op=4)||decide (op=5)
theorem MapR.kept {w w':World}{v:Value}{x u p:Int}(h:MapR w v x u p)(k:Kept w w'):MapR w' v x u p:=by
 obtain ⟨b,n,rfl,h⟩:=h;exact ⟨b,n,rfl,h.kept (row:=none) ⟨k.os,k.tape,k.output,k.size,fun b hb _=>k.block b hb⟩ (by simp)⟩
theorem Agy (x u p op:Int):(Agx x u p).atKey (.int .i64 op) (.lit (.int .i64 0))=.lit (.int .i64 (Q9 op x u p))∧Maps.has (Agx x u p) (.int .i64 op)=isP op:=by
 have e:Agx x u p=.map [(.int .i64 3,.lit (.int .i64 x)),(.int .i64 4,.lit (.int .i64 u)),(.int .i64 5,.lit (.int .i64 p))]:=by rfl
 rw [e];unfold Q9 isP;by_cases h3:op=3
 ·subst h3;exact ⟨rfl,rfl⟩
 ·by_cases h4:op=4
  ·subst h4;exact ⟨rfl,rfl⟩
  ·by_cases h5:op=5
   ·subst h5;exact ⟨rfl,rfl⟩
   ·have g3:¬(3:Int)=op:=fun h=>h3 h.symm
    have g4:¬(4:Int)=op:=fun h=>h4 h.symm
    have g5:¬(5:Int)=op:=fun h=>h5 h.symm
    constructor
    ·rw [if_neg h3,if_neg h4,if_neg h5];simp [DataW.atKey,Lit.sameKey,g3,g4,g5]
    ·simp [Maps.has,Lit.sameKey,g3,g4,g5,h3,h4,h5]
theorem MapR.look {w:World}{v:Value}{x u p op:Int}(h:MapR w v x u p)(h1:-9223372036854775808≤op)(h2:op≤9223372036854775807) :
 (Instr.lookup 108 v (.int .i64 op) true).run Tryz.prog w=.ok (.tuple #[.int .i64 (Q9 op x u p),.bool (isP op)]) w:=by
 obtain ⟨b,n,rfl,hown⟩:=h;have hz:(zeroValue 3).run Tryz.prog w=.ok (.int .i64 0) w:=by kernel_rfl
 have hw0:(Lit.int .i64 0).wf=true:=by decide
 have hop:(Lit.int .i64 op).wf=true:=WalkArith.wf_i64 ⟨h1,h2⟩;obtain ⟨v,ps,hrun,hv⟩:=hown.look_ok (int_keyed Tryz.underlying3) Tryz.underlying108 hz (plainElem_int Tryz.underlying3 hw0) (keyOf_int_mk Tryz.underlying3 hop);obtain ⟨c,rfl,hc,-⟩:=plainElem_int_inv Tryz.underlying3 hv;obtain ⟨a1,a2⟩:=Agy x u p op;simp only [Prod.mk.injEq] at hc;rw [a1] at hc;have e:c=Q9 op x u p:=by
  have h:=hc.1;simp only [DataW.lit.injEq,Lit.int.injEq,true_and] at h;exact h.symm
 rw [hrun,a2,e]
theorem Abh (w:World){x u p:Int}(hx1:-9223372036854775808≤x)(hx2:x≤9223372036854775807)(hu1:-9223372036854775808≤u)(hu2:u≤9223372036854775807)(hp1:-9223372036854775808≤p)(hp2:p≤9223372036854775807) :
 ∃ w1 w2 w3, (Instr.mapUpdate 108 (.map (some w.heap.size)) (.int .i64 3) (.int .i64 x)).run Tryz.prog (w.alloc (.map #[] 0)) = .ok () w1 ∧
   (Instr.mapUpdate 108 (.map (some w.heap.size)) (.int .i64 4) (.int .i64 u)).run Tryz.prog w1=.ok () w2 ∧
   (Instr.mapUpdate 108 (.map (some w.heap.size)) (.int .i64 5) (.int .i64 p)).run Tryz.prog w2=.ok () w3 ∧
   MapR w3 (.map (some w.heap.size)) x u p∧Kept w w3:=by
 have K:Keyed Tryz.prog 3:=int_keyed Tryz.underlying3;have o0:=World.ownsMap_made (H:=Unit) w Tryz.prog 3 (plainElem Tryz.prog 3);obtain ⟨w1,r1,o1,g1⟩:=o0.update K Tryz.underlying108 (by unfold maxLen;decide) (keyOf_int_mk (a:=3) Tryz.underlying3 (by decide)) (plainElem_int Tryz.underlying3 (WalkArith.wf_i64 ⟨hx1,hx2⟩));obtain ⟨w2,r2,o2,g2⟩:=o1.update K Tryz.underlying108 (by unfold maxLen;decide) (keyOf_int_mk (a:=4) Tryz.underlying3 (by decide)) (plainElem_int Tryz.underlying3 (WalkArith.wf_i64 ⟨hu1,hu2⟩));obtain ⟨w3,r3,o3,g3⟩:=o2.update K Tryz.underlying108 (by unfold maxLen;decide) (keyOf_int_mk (a:=5) Tryz.underlying3 (by decide)) (plainElem_int Tryz.underlying3 (WalkArith.wf_i64 ⟨hp1,hp2⟩))
 refine ⟨w1,w2,w3,r1,r2,r3,⟨_,_,rfl,o3⟩,?_⟩;have k0:=Ad w (.map #[] 0);have st:∀ a b:World,Kept w a→a.grownBy b (some w.heap.size)→Kept w b:=fun a b k g =>
  ⟨g.os.trans k.os,g.tape.trans k.tape,g.output.trans k.output,Nat.le_trans k.size g.size,fun i hi=>(g.block i (Nat.lt_of_lt_of_le hi k.size) (by intro h;injection h with h;omega)).trans (k.block i hi)⟩
 exact st _ _ (st _ _ (st _ _ k0 g1) g2) g3
end Go.Proofs.YtabjjdicffcolaaGreatDoor
namespace Go.Proofs.YtabjjdicffcolaaGreatDoor
open Go.Lib (hid)
open Go.RowKit
theorem Np (n m:Int)(w:World):Calls Tryz.prog 64 #[.int .i64 n,.int .i64 m] w (RetK (.bool (Bv n m)) w):=by
 by_cases h:0≤n
 ·have h1:decide (0≤n)=true:=by simp [h]
  have e:Bv n m=decide (n<m):=by unfold Bv;rw [h1,Bool.true_and]
  rw [e];go_enter Tryz.func64,Tryz.ntmps64;go_wp2;go_ret;exact ⟨rfl,Below.refl _ _⟩
 ·have h1:decide (0≤n)=false:=by simp;omega
  have e:Bv n m=false:=by unfold Bv;rw [h1,Bool.false_and]
  rw [e];go_enter Tryz.func64,Tryz.ntmps64;go_wp2;go_ret;exact ⟨rfl,Below.refl _ _⟩
theorem Ahb (n:Int)(w:World):Calls Tryz.prog 65 #[.int .i64 n] w (RetK (.int .i64 (E2 n)) w):=by
 have lit:∀ m:Int,n≠m→(n==m)=false:=fun m h=>by simp [h]
 by_cases h1:n=1
 ·subst h1;clear lit;go_enter Tryz.func65,Tryz.ntmps65;go_wp2;go_ret;exact ⟨rfl,Below.refl _ _⟩
 by_cases h2:n=2
 ·subst h2;clear lit;go_enter Tryz.func65,Tryz.ntmps65;go_wp2;go_ret;exact ⟨rfl,Below.refl _ _⟩
 by_cases h3:n=3
 ·subst h3;clear lit;go_enter Tryz.func65,Tryz.ntmps65;go_wp2;go_ret;exact ⟨rfl,Below.refl _ _⟩
 by_cases h4:n=4
 ·subst h4;clear lit;go_enter Tryz.func65,Tryz.ntmps65;go_wp2;go_ret;exact ⟨rfl,Below.refl _ _⟩
 by_cases h5:n=5
 ·subst h5;clear lit;go_enter Tryz.func65,Tryz.ntmps65;go_wp2;go_ret;exact ⟨rfl,Below.refl _ _⟩
 by_cases h6:n=6
 ·subst h6;clear lit;go_enter Tryz.func65,Tryz.ntmps65;go_wp2;go_ret;exact ⟨rfl,Below.refl _ _⟩
 by_cases h7:n=7
 ·subst h7;clear lit;go_enter Tryz.func65,Tryz.ntmps65;go_wp2;go_ret;exact ⟨rfl,Below.refl _ _⟩
 by_cases h8:n=8
 ·subst h8;clear lit;go_enter Tryz.func65,Tryz.ntmps65;go_wp2;go_ret;exact ⟨rfl,Below.refl _ _⟩
 by_cases h9:n=9
 ·subst h9;clear lit;go_enter Tryz.func65,Tryz.ntmps65;go_wp2;go_ret;exact ⟨rfl,Below.refl _ _⟩
 by_cases h10:n=10
 ·subst h10;clear lit;go_enter Tryz.func65,Tryz.ntmps65;go_wp2;go_ret;exact ⟨rfl,Below.refl _ _⟩
 by_cases h11:n=11
 ·subst h11;clear lit;go_enter Tryz.func65,Tryz.ntmps65;go_wp2;go_ret;exact ⟨rfl,Below.refl _ _⟩
 by_cases h12:n=12
 ·subst h12;clear lit;go_enter Tryz.func65,Tryz.ntmps65;go_wp2;go_ret;exact ⟨rfl,Below.refl _ _⟩
 by_cases h13:n=13
 ·subst h13;clear lit;go_enter Tryz.func65,Tryz.ntmps65;go_wp2;go_ret;exact ⟨rfl,Below.refl _ _⟩
 have e:E2 n=-1:=by unfold E2;simp [h1,h2,h3,h4,h5,h6,h7,h8,h9,h10,h11,h12,h13]
 rw [e];replace h1:=lit _ h1;replace h2:=lit _ h2;replace h3:=lit _ h3;replace h4:=lit _ h4;replace h5:=lit _ h5;replace h6:=lit _ h6;replace h7:=lit _ h7;replace h8:=lit _ h8;replace h9:=lit _ h9;replace h10:=lit _ h10;replace h11:=lit _ h11;replace h12:=lit _ h12;replace h13:=lit _ h13;clear e lit;go_enter Tryz.func65,Tryz.ntmps65;go_wp2;go_ret;exact ⟨rfl,Below.refl _ _⟩
theorem Ake (w:World)(o a b k0 k1 k2 k3 k4 k5:Value):∃ W,W=w.alloc (.cells #[o,a,b,k0,k1,k2,k3,k4,k5] 52)∧Kept w W∧W.heap[w.heap.size]?=some (.cells #[o,a,b,k0,k1,k2,k3,k4,k5] 52 (0,0))∧w.heap.size<W.heap.size :=
 ⟨_,rfl,Ad _ _,heap_alloc_new _ _,by simp⟩
theorem Bn {w:World}{b:Nat}{x0 x1 x2 x3 x4 x5 x6 x7 x8:Value}{T:TypeId}(h:w.heap[b]?=some (.cells #[x0,x1,x2,x3,x4,x5,x6,x7,x8] T (0,0))):w.cell? ⟨b,0,none⟩=some x0∧w.cell? ⟨b,1,none⟩=some x1∧w.cell? ⟨b,2,none⟩=some x2 ∧
 w.cell? ⟨b,3,none⟩=some x3∧w.cell? ⟨b,4,none⟩=some x4∧w.cell? ⟨b,5,none⟩=some x5∧w.cell? ⟨b,6,none⟩=some x6∧w.cell? ⟨b,7,none⟩=some x7∧w.cell? ⟨b,8,none⟩=some x8 :=
 ⟨Ae h 0 _ rfl,Ae h 1 _ rfl,Ae h 2 _ rfl,Ae h 3 _ rfl,Ae h 4 _ rfl,Ae h 5 _ rfl,Ae h 6 _ rfl,Ae h 7 _ rfl,Ae h 8 _ rfl⟩
theorem Adw (a b i x u p:Int)(k:RawI):Fu ⟨1,a,b,k⟩ i x u p=(Fh k&&(a==0)&&(b==0)):=by
 unfold Fu;rw [if_pos rfl,Bool.and_assoc];rfl
theorem Abk {op a b i x u p:Int}{k:RawI}(h1:op≠1)(h:Th k rzI=false):Fu ⟨op,a,b,k⟩ i x u p=false:=by
 unfold Fu;rw [if_neg h1,if_pos h]
theorem Abj {op a b i x u p:Int}{k:RawI}(h1:op≠1)(h:Th k rzI=true):Fu ⟨op,a,b,k⟩ i x u p =
 if op=2 then (a==0)&&(b==0) else if isP op=true then Bv a (Q9 op x u p)&&(b==0) else if E2 op=2 then Bv a i&&Bv b i else if E2 op=1 then Bv a i&&(b==0) else false:=by
 unfold Fu;simp only [];rw [if_neg h1,if_neg (by rw [h];decide)];by_cases h2:op=2
 ·rw [if_pos h2,if_pos h2];rfl
 ·rw [if_neg h2, if_neg h2];by_cases h3:op=3
  ·subst h3;rfl
  ·rw [if_neg h3];by_cases h4:op=4
   ·subst h4;rfl
   ·rw [if_neg h4];by_cases h5:op=5
    ·subst h5;rfl
    ·rw [if_neg h5];have e:isP op=false:=by unfold isP;simp [h3,h4,h5]
     rw [e];simp only [Bool.false_eq_true,if_false];have d0:¬(op=1∨op=2∨op=3∨op=4∨op=5):=by omega
     unfold E2;rw [if_neg d0];by_cases h6:op=6∨op=7∨op=8∨op=9
     ·rw [if_pos h6,if_pos h6,if_pos rfl]
     ·rw [if_neg h6,if_neg h6];by_cases h10:op=10∨op=11∨op=12∨op=13
      ·rw [if_pos h10,if_pos h10,if_neg (by decide),if_pos rfl];rfl
      ·rw [if_neg h10,if_neg h10,if_neg (by decide),if_neg (by decide)]
theorem Abl {w:World}{op a b i x u p:Int}{k:RawI}{z0 z1 z2 z3 z4 z5 m:Value}(hk:IvR w (.agg #[z0,z1,z2,z3,z4,z5]) k)(hl:k.lens 17592186044416)(hm:MapR w m x u p)
 (o1:-9223372036854775808≤op) (o2:op≤9223372036854775807) :
 Calls Tryz.prog 84 #[.agg #[.int .i64 op,.int .i64 a,.int .i64 b,z0,z1,z2,z3,z4,z5],.int .i64 i,m] w (RetK (.bool (Fu ⟨op,a,b,k⟩ i x u p)) w):=by
 have MK:=hid (fun w1 (q:Kept w w1)=>Uj (hk.kept q) hl);have MS:=hid (fun w1 (q:Kept w w1)=>Agl (hk.kept q) (Ed w1) hl);have ML:=hid (fun w1 (q:Kept w w1)=>(hm.kept q).look o1 o2);obtain ⟨bm,n,rfl,-⟩:=hm;obtain ⟨W,hW,kW,BL,lW⟩:=Ake w (.int .i64 op) (.int .i64 a) (.int .i64 b) z0 z1 z2 z3 z4 z5;have HW:=hid hW;have K:=hid kW;have HB:=hid BL;clear hk hl o1 o2 hW kW BL;obtain ⟨fa,hfa⟩:∃ f,(a==0)=f:=⟨_,rfl⟩;obtain ⟨fb,hfb⟩:∃ f,(b==0)=f:=⟨_,rfl⟩;by_cases h1:op=1
 ·subst h1;rw [Adw,hfa,hfb];obtain ⟨mk,hmk⟩:∃ f,Fh k=f:=⟨_,rfl⟩;rw [hmk] at MK ⊢;have FA:=hid hfa;have FB:=hid hfb;clear hmk hfa hfb MS ML;go_enter Tryz.func84,Tryz.ntmps84;go_upto_region 1 with fail;rw [←HW.out];obtain ⟨c0,c1,c2,c3,c4,c5,c6,c7,c8⟩:=Bn HB.out;go_upto_region 2 with fail;clear c0 c1 c2 c3 c4 c5 c6 c7 c8
  refine rS 14 ([(vP w.heap.size 3),(vE (.agg #[z0,z1,z2,z3,z4,z5])),(vE (.bool mk)),(vE (.bool mk)),(fun v wv=>(mk=true→(fun v _=>v=(.pointer (some ⟨w.heap.size,1,none⟩))) v wv)∧(mk=false→v=undef)),(fun v wv=>(mk=true→(fun v _=>v=(.int .i64 a)) v wv)∧(mk=false→v=undef)),(fun v wv=>(mk=true→(fun v _=>v=(.bool fa)) v wv)∧(mk=false→v=undef)),(vE (.bool (mk&&fa))),(vE (.bool (mk&&fa))),(fun v wv=>((mk&&fa)=true→(fun v _=>v=(.pointer (some ⟨w.heap.size,2,none⟩))) v wv)∧((mk&&fa)=false→v=undef)),(fun v wv=>((mk&&fa)=true→(fun v _=>v=(.int .i64 b)) v wv)∧((mk&&fa)=false→v=undef)),(fun v wv=>((mk&&fa)=true→(fun v _=>v=(.bool fb)) v wv)∧((mk&&fa)=false→v=undef)),(vE (.bool (mk&&fa&&fb))),(vE (.bool (mk&&fa&&fb)))])
   ⟨
    (gq 3),(fun aF wF F=>by have s13:=F.v 0 13;have c0:=Aj HB.out F.kept 3 _ rfl;have c1:=Aj HB.out F.kept 4 _ rfl;have c2:=Aj HB.out F.kept 5 _ rfl;have c3:=Aj HB.out F.kept 6 _ rfl;have c4:=Aj HB.out F.kept 7 _ rfl;have c5:=Aj HB.out F.kept 8 _ rfl;exact sv rfl),(fun aF wF F=>by have s14:=F.v 1 14;exact sK (MK.out _ (K.out.trans F.kept)) fun _ _ h=>h),(gv 2 15),
    (fun aF wF F=>by
   have sg:=F.v 3 16;have s3:=F.q 3 (.pointer (some ⟨w.heap.size,0,none⟩));rcases Bs mk with hC | hC
   ·refine sIm hC (vE (.pointer (some ⟨w.heap.size,1,none⟩))) ?_;exact sVc rfl rfl sg (by first | rfl | simp [hC])
   ·exact sOc rfl rfl sg (by first | rfl | simp [hC]) (nW hC)),
    (fun aF wF F=>by
   have sg:=F.v 3 16;have s17:(mk=true→aF.tmps.getD 17 undef=(.pointer (some ⟨w.heap.size,1,none⟩)))∧(mk=false→aF.tmps.getD 17 undef=undef):=F.done 4 17 (by kernel_rfl) rfl;have c0:=Aj HB.out F.kept 1 _ rfl;rcases Bs mk with hC | hC
   ·refine sIm hC (vE (.int .i64 a)) ?_;replace s17:=s17.1 hC;exact sVc rfl rfl sg (by first | rfl | simp [hC])
   ·exact sOc rfl rfl sg (by first | rfl | simp [hC]) (nW hC)),
    (fun aF wF F=>by
   have sg:=F.v 3 16;have s18:(mk=true→aF.tmps.getD 18 undef=(.int .i64 a))∧(mk=false→aF.tmps.getD 18 undef=undef):=F.done 5 18 (by kernel_rfl) rfl;rcases Bs mk with hC | hC
   ·refine sIm hC (vE (.bool fa)) ?_;replace s18:=s18.1 hC;exact Ar ((Ak rfl rfl sg).trans (by first | rfl | simp [hC])) (by (go_simp;exact FA.out)) rfl
   ·exact sOc rfl rfl sg (by first | rfl | simp [hC]) (nW hC)),
    (fun aF wF F=>by
   have s16:=F.v 3 16;have s19:(mk=true→aF.tmps.getD 19 undef=(.bool fa))∧(mk=false→aF.tmps.getD 19 undef=undef):=F.done 6 19 (by kernel_rfl) rfl;rcases Bs mk with hE | hE
   ·replace s19:=s19.1 hE;exact sw (by first | (go_simp;done) | (go_simp;simp_all;done) | (simp_all;done)) rfl
   ·exact sw (by first | (go_simp;done) | (go_simp;simp_all;done) | (simp_all;done)) rfl),(gv 7 20),
    (fun aF wF F=>by
   have sg:=F.v 8 21;have s3:=F.q 3 (.pointer (some ⟨w.heap.size,0,none⟩));rcases Bs (mk&&fa) with hC | hC
   ·refine sIm hC (vE (.pointer (some ⟨w.heap.size,2,none⟩))) ?_;exact sVc rfl rfl sg (by first | rfl | simp [hC])
   ·exact sOc rfl rfl sg (by first | rfl | simp [hC]) (nW hC)),
    (fun aF wF F=>by
   have sg:=F.v 8 21;have s22:((mk&&fa)=true→aF.tmps.getD 22 undef=(.pointer (some ⟨w.heap.size,2,none⟩)))∧((mk&&fa)=false→aF.tmps.getD 22 undef=undef):=F.done 9 22 (by kernel_rfl) rfl;have c0:=Aj HB.out F.kept 2 _ rfl;rcases Bs (mk&&fa) with hC | hC
   ·refine sIm hC (vE (.int .i64 b)) ?_;replace s22:=s22.1 hC;exact sVc rfl rfl sg (by first | rfl | simp [hC])
   ·exact sOc rfl rfl sg (by first | rfl | simp [hC]) (nW hC)),
    (fun aF wF F=>by
   have sg:=F.v 8 21;have s23:((mk&&fa)=true→aF.tmps.getD 23 undef=(.int .i64 b))∧((mk&&fa)=false→aF.tmps.getD 23 undef=undef):=F.done 10 23 (by kernel_rfl) rfl;rcases Bs (mk&&fa) with hC | hC
   ·refine sIm hC (vE (.bool fb)) ?_;replace s23:=s23.1 hC;exact Ar ((Ak rfl rfl sg).trans (by first | rfl | simp [hC])) (by (go_simp;exact FB.out)) rfl
   ·exact sOc rfl rfl sg (by first | rfl | simp [hC]) (nW hC)),
    (fun aF wF F=>by
   have s21:=F.v 8 21;have s24:((mk&&fa)=true→aF.tmps.getD 24 undef=(.bool fb))∧((mk&&fa)=false→aF.tmps.getD 24 undef=undef):=F.done 11 24 (by kernel_rfl) rfl;rcases Bs (mk&&fa) with hE | hE
   ·replace s24:=s24.1 hE;exact sw (by first | (go_simp;done) | (go_simp;simp_all;done) | (simp_all;done)) rfl
   ·exact sw (by first | (go_simp;done) | (go_simp;simp_all;done) | (simp_all;done)) rfl),(gv 12 25),
    trivial⟩ ?_
  intro u w1 k1 hu;have p17:=hp hu 4;have p18:=hp hu 5;have p19:=hp hu 6;have p22:=hp hu 9;have p23:=hp hu 10;have p24:=hp hu 11;simp only [Ay,An,if_true,Act.put,zlA,zlB,zlC,zlD,zlE,zlF,zlG,hv hu 0,hv hu 1,hv hu 2,hv hu 3,hv hu 7,hv hu 8,hv hu 12,hv hu 13];clear hu;generalize u 4=v17,u 5=v18,u 6=v19,u 9=v22,u 10=v23,u 11=v24 at *;go_wp2_with fail;go_ret;exact ⟨rfl,K.out.trans k1⟩
 have g1:(op==1)=false:=by simp [h1]
 obtain ⟨fs,hfs⟩:∃ f,Th k rzI=f:=⟨_,rfl⟩;have MS2:=hid (fun w1 (q:Kept w w1)=>show Calls Tryz.prog 119 _ w1 (RetK (.bool fs) w1) by rw [←hfs];exact MS.out w1 q);have em:Fu ⟨op,a,b,k⟩ i x u p=if fs=false then false else if op=2 then fa&&fb else if isP op=true then Bv a (Q9 op x u p)&&fb else if E2 op=2 then Bv a i&&Bv b i else if E2 op=1 then Bv a i&&fb else false:=by
  rw [←hfs,←hfa,←hfb];cases hs:Th k rzI
  ·rw [Abk h1 hs,if_pos rfl]
  ·rw [Abj h1 hs];rfl
 have FA:=hid hfa;have FB:=hid hfb;clear hfs hfa hfb MK MS h1;obtain ⟨ip,hip⟩:∃ f,isP op=f:=⟨_,rfl⟩;obtain ⟨mm,hmm⟩:∃ f,Q9 op x u p=f:=⟨_,rfl⟩;obtain ⟨pp,hpp⟩:∃ f,E2 op=f:=⟨_,rfl⟩;rw [hip,hmm] at ML;rw [hip,hmm,hpp] at em;have HP:=hid (fun w1=>show Calls Tryz.prog 65 #[.int .i64 op] w1 (RetK (.int .i64 pp) w1) by rw [←hpp];exact Ahb op w1);clear hip hmm hpp;cases fs
 ·rw [if_pos rfl] at em;rw [em];clear em;go_enter Tryz.func84,Tryz.ntmps84;go_upto_region 1 with fail;rw [←HW.out];obtain ⟨c0,c1,c2,c3,c4,c5,c6,c7,c8⟩:=Bn HB.out;go_wp2_with fail;refine (MS2.out _ K.out).mono ?_;rintro e w1 ⟨rfl,q⟩;replace K:=hid (K.out.trans q);have hb1:=(q.block _ (Array.getElem?_eq_some_iff.1 HB.out).1).trans HB.out;replace HB:=hid hb1;clear c0 c1 c2 c3 c4 c5 c6 c7 c8 q hb1 HW MS2;obtain ⟨c0,c1,c2,c3,c4,c5,c6,c7,c8⟩:=Bn HB.out;simp only [];go_wp2_with fail;go_ret;exact ⟨rfl,K.out⟩
 rw [if_neg (by decide)] at em;by_cases h2:op=2
 ·subst h2;rw [if_pos rfl] at em;rw [em];clear em;go_enter Tryz.func84,Tryz.ntmps84;go_upto_region 1 with fail;rw [←HW.out];obtain ⟨c0,c1,c2,c3,c4,c5,c6,c7,c8⟩:=Bn HB.out;go_wp2_with fail;refine (MS2.out _ K.out).mono ?_;rintro e w1 ⟨rfl,q⟩;replace K:=hid (K.out.trans q);have hb1:=(q.block _ (Array.getElem?_eq_some_iff.1 HB.out).1).trans HB.out;replace HB:=hid hb1;clear c0 c1 c2 c3 c4 c5 c6 c7 c8 q hb1 HW MS2;obtain ⟨c0,c1,c2,c3,c4,c5,c6,c7,c8⟩:=Bn HB.out;simp only [];have hlk:=ML.out w1 K.out;clear ML;go_wp2_with fail;refine (HP.out w1).mono ?_;rintro e w2 ⟨rfl,q⟩;replace K:=hid (K.out.trans q)
  have hb1:=(q.block _ (Array.getElem?_eq_some_iff.1 HB.out).1).trans HB.out;replace HB:=hid hb1;clear c0 c1 c2 c3 c4 c5 c6 c7 c8 q hb1 HP hlk;obtain ⟨c0,c1,c2,c3,c4,c5,c6,c7,c8⟩:=Bn HB.out;simp only [];go_upto_region 8 with fail;clear c0 c1 c2 c3 c4 c5 c6 c7 c8
  refine rS 9 ([(vP w.heap.size 1),(vE (.int .i64 a)),(vE (.bool fa)),(vE (.bool fa)),(fun v wv=>(fa=true→(fun v _=>v=(.pointer (some ⟨w.heap.size,2,none⟩))) v wv)∧(fa=false→v=undef)),(fun v wv=>(fa=true→(fun v _=>v=(.int .i64 b)) v wv)∧(fa=false→v=undef)),(fun v wv=>(fa=true→(fun v _=>v=(.bool fb)) v wv)∧(fa=false→v=undef)),(vE (.bool (fa&&fb))),(vE (.bool (fa&&fb)))])
   ⟨
    (gq 3),(gvl 0 45 fun _ k=>Aj HB.out k 1 _ rfl),(fun aF wF F=>by have s46:=F.v 1 46;exact sw (by (go_simp;exact FA.out)) rfl),(gv 2 47),
    (fun aF wF F=>by
   have sg:=F.v 3 48;have s3:=F.q 3 (.pointer (some ⟨w.heap.size,0,none⟩));rcases Bs fa with hC | hC
   ·refine sIm hC (vE (.pointer (some ⟨w.heap.size,2,none⟩))) ?_;exact sVc rfl rfl sg (by first | rfl | simp [hC])
   ·exact sOc rfl rfl sg (by first | rfl | simp [hC]) (nW hC)),
    (fun aF wF F=>by
   have sg:=F.v 3 48;have s49:(fa=true→aF.tmps.getD 49 undef=(.pointer (some ⟨w.heap.size,2,none⟩)))∧(fa=false→aF.tmps.getD 49 undef=undef):=F.done 4 49 (by kernel_rfl) rfl;have c0:=Aj HB.out F.kept 2 _ rfl;rcases Bs fa with hC | hC
   ·refine sIm hC (vE (.int .i64 b)) ?_;replace s49:=s49.1 hC;exact sVc rfl rfl sg (by first | rfl | simp [hC])
   ·exact sOc rfl rfl sg (by first | rfl | simp [hC]) (nW hC)),
    (fun aF wF F=>by
   have sg:=F.v 3 48;have s50:(fa=true→aF.tmps.getD 50 undef=(.int .i64 b))∧(fa=false→aF.tmps.getD 50 undef=undef):=F.done 5 50 (by kernel_rfl) rfl;rcases Bs fa with hC | hC
   ·refine sIm hC (vE (.bool fb)) ?_;replace s50:=s50.1 hC;exact Ar ((Ak rfl rfl sg).trans (by first | rfl | simp [hC])) (by (go_simp;exact FB.out)) rfl
   ·exact sOc rfl rfl sg (by first | rfl | simp [hC]) (nW hC)),
    (fun aF wF F=>by
   have s48:=F.v 3 48;have s51:(fa=true→aF.tmps.getD 51 undef=(.bool fb))∧(fa=false→aF.tmps.getD 51 undef=undef):=F.done 6 51 (by kernel_rfl) rfl;rcases Bs fa with hE | hE
   ·replace s51:=s51.1 hE;exact sw (by first | (go_simp;done) | (go_simp;simp_all;done) | (simp_all;done)) rfl
   ·exact sw (by first | (go_simp;done) | (go_simp;simp_all;done) | (simp_all;done)) rfl),(gv 7 52),
    trivial⟩ ?_
  intro u w1 k1 hu;have p49:=hp hu 4;have p50:=hp hu 5;have p51:=hp hu 6;simp only [Ay,An,if_true,Act.put,zlA,zlB,zlC,zlD,zlE,zlF,zlG,hv hu 0,hv hu 1,hv hu 2,hv hu 3,hv hu 7,hv hu 8];clear hu;generalize u 4=v49,u 5=v50,u 6=v51 at *;go_wp2_with fail;go_ret;exact ⟨rfl,K.out.trans k1⟩
 have g2:(op==2)=false:=by simp [h2]
 rw [if_neg h2] at em;clear h2;cases ip
 ·rw [if_neg (by decide)] at em;by_cases p2:pp=2
  ·subst p2;rw [if_pos rfl] at em;rw [em];clear em;obtain ⟨ba,hba⟩:∃ f,Bv a i=f:=⟨_,rfl⟩;obtain ⟨bb,hbb⟩:∃ f,Bv b i=f:=⟨_,rfl⟩;have BA:=hid (fun w1=>Np a i w1);have BB:=hid (fun w1=>Np b i w1);rw [hba] at BA ⊢;rw [hbb] at BB ⊢;clear hba hbb;go_enter Tryz.func84,Tryz.ntmps84;go_upto_region 1 with fail;rw [←HW.out];obtain ⟨c0,c1,c2,c3,c4,c5,c6,c7,c8⟩:=Bn HB.out;go_wp2_with fail;refine (MS2.out _ K.out).mono ?_;rintro e w1 ⟨rfl,q⟩;replace K:=hid (K.out.trans q);have hb1:=(q.block _ (Array.getElem?_eq_some_iff.1 HB.out).1).trans HB.out;replace HB:=hid hb1;clear c0 c1 c2 c3 c4 c5 c6 c7 c8 q hb1 HW MS2
   obtain ⟨c0,c1,c2,c3,c4,c5,c6,c7,c8⟩:=Bn HB.out;simp only [];have hlk:=ML.out w1 K.out;clear ML;go_wp2_with fail;refine (HP.out w1).mono ?_;rintro e w2 ⟨rfl,q⟩;replace K:=hid (K.out.trans q);have hb1:=(q.block _ (Array.getElem?_eq_some_iff.1 HB.out).1).trans HB.out;replace HB:=hid hb1;clear c0 c1 c2 c3 c4 c5 c6 c7 c8 q hb1 HP hlk;obtain ⟨c0,c1,c2,c3,c4,c5,c6,c7,c8⟩:=Bn HB.out;simp only [];go_upto_region 12 with fail;clear c0 c1 c2 c3 c4 c5 c6 c7 c8
   refine rS 11 ([(vP w.heap.size 1),(vE (.int .i64 a)),(vE (.int .i64 i)),(vE (.bool ba)),(vE (.bool ba)),(fun v wv=>(ba=true→(fun v _=>v=(.pointer (some ⟨w.heap.size,2,none⟩))) v wv)∧(ba=false→v=undef)),(fun v wv=>(ba=true→(fun v _=>v=(.int .i64 b)) v wv)∧(ba=false→v=undef)),(fun v wv=>(ba=true→(fun v _=>v=(.int .i64 i)) v wv)∧(ba=false→v=undef)),(fun v wv=>(ba=true→(fun v _=>v=(.bool bb)) v wv)∧(ba=false→v=undef)),(vE (.bool (ba&&bb))),(vE (.bool (ba&&bb)))])
    ⟨
     (gq 3),(gvl 0 67 fun _ k=>Aj HB.out k 1 _ rfl),(gq 1),(fun aF wF F=>by have s68:=F.v 1 68;have s69:=F.v 2 69;exact sK (BA.out _) fun _ _ h=>h),(gv 3 70),
     (fun aF wF F=>by
    have sg:=F.v 4 71;have s3:=F.q 3 (.pointer (some ⟨w.heap.size,0,none⟩));rcases Bs ba with hC | hC
    ·refine sIm hC (vE (.pointer (some ⟨w.heap.size,2,none⟩))) ?_;exact sVc rfl rfl sg (by first | rfl | simp [hC])
    ·exact sOc rfl rfl sg (by first | rfl | simp [hC]) (nW hC)),
     (fun aF wF F=>by
    have sg:=F.v 4 71;have s72:(ba=true→aF.tmps.getD 72 undef=(.pointer (some ⟨w.heap.size,2,none⟩)))∧(ba=false→aF.tmps.getD 72 undef=undef):=F.done 5 72 (by kernel_rfl) rfl;have c0:=Aj HB.out F.kept 2 _ rfl;rcases Bs ba with hC | hC
    ·refine sIm hC (vE (.int .i64 b)) ?_;replace s72:=s72.1 hC;exact sVc rfl rfl sg (by first | rfl | simp [hC])
    ·exact sOc rfl rfl sg (by first | rfl | simp [hC]) (nW hC)),
     (fun aF wF F=>by
    have sg:=F.v 4 71;have s1:=F.q 1 (.int .i64 i);rcases Bs ba with hC | hC
    ·refine sIm hC (vE (.int .i64 i)) ?_;exact sVc rfl rfl sg (by first | rfl | simp [hC])
    ·exact sOc rfl rfl sg (by first | rfl | simp [hC]) (nW hC)),
     (fun aF wF F=>by
    have sg:=F.v 4 71;have s73:(ba=true→aF.tmps.getD 73 undef=(.int .i64 b))∧(ba=false→aF.tmps.getD 73 undef=undef):=F.done 6 73 (by kernel_rfl) rfl;have s74:(ba=true→aF.tmps.getD 74 undef=(.int .i64 i))∧(ba=false→aF.tmps.getD 74 undef=undef):=F.done 7 74 (by kernel_rfl) rfl;rcases Bs ba with hC | hC
    ·refine sIm hC (vE (.bool bb)) ?_;replace s73:=s73.1 hC;replace s74:=s74.1 hC;exact Av ((Ak rfl rfl sg).trans (by first | rfl | simp [hC])) (by go_simp) (BB.out _) (fun _ _ h=>RetK.good h) (fun _ _ h=>h)
    ·exact sOc rfl rfl sg (by first | rfl | simp [hC]) (nW hC)),
     (fun aF wF F=>by
    have s71:=F.v 4 71;have s75:(ba=true→aF.tmps.getD 75 undef=(.bool bb))∧(ba=false→aF.tmps.getD 75 undef=undef):=F.done 8 75 (by kernel_rfl) rfl;rcases Bs ba with hE | hE
    ·replace s75:=s75.1 hE;exact sw (by first | (go_simp;done) | (go_simp;simp_all;done) | (simp_all;done)) rfl
    ·exact sw (by first | (go_simp;done) | (go_simp;simp_all;done) | (simp_all;done)) rfl),(gv 9 76),
     trivial⟩ ?_
   intro u w1 k1 hu;have p72:=hp hu 5;have p73:=hp hu 6;have p74:=hp hu 7;have p75:=hp hu 8;simp only [Ay,An,if_true,Act.put,zlA,zlB,zlC,zlD,zlE,zlF,zlG,hv hu 0,hv hu 1,hv hu 2,hv hu 3,hv hu 4,hv hu 9,hv hu 10];clear hu;generalize u 5=v72,u 6=v73,u 7=v74,u 8=v75 at *;go_wp2_with fail;go_ret;exact ⟨rfl,K.out.trans k1⟩
  have q2:(pp==2)=false:=by simp [p2]
  rw [if_neg p2] at em;clear p2;by_cases p1:pp=1
  ·subst p1;rw [if_pos rfl] at em;rw [em];clear em;obtain ⟨ba,hba⟩:∃ f,Bv a i=f:=⟨_,rfl⟩;have BA:=hid (fun w1=>Np a i w1);rw [hba] at BA ⊢;clear hba;go_enter Tryz.func84,Tryz.ntmps84;go_upto_region 1 with fail;rw [←HW.out];obtain ⟨c0,c1,c2,c3,c4,c5,c6,c7,c8⟩:=Bn HB.out;go_wp2_with fail;refine (MS2.out _ K.out).mono ?_;rintro e w1 ⟨rfl,q⟩;replace K:=hid (K.out.trans q);have hb1:=(q.block _ (Array.getElem?_eq_some_iff.1 HB.out).1).trans HB.out;replace HB:=hid hb1;clear c0 c1 c2 c3 c4 c5 c6 c7 c8 q hb1 HW MS2;obtain ⟨c0,c1,c2,c3,c4,c5,c6,c7,c8⟩:=Bn HB.out;simp only [];have hlk:=ML.out w1 K.out
   clear ML;go_wp2_with fail;refine (HP.out w1).mono ?_;rintro e w2 ⟨rfl,q⟩;replace K:=hid (K.out.trans q);have hb1:=(q.block _ (Array.getElem?_eq_some_iff.1 HB.out).1).trans HB.out;replace HB:=hid hb1;clear c0 c1 c2 c3 c4 c5 c6 c7 c8 q hb1 HP hlk;obtain ⟨c0,c1,c2,c3,c4,c5,c6,c7,c8⟩:=Bn HB.out;simp only [];go_upto_region 14 with fail;clear c0 c1 c2 c3 c4 c5 c6 c7 c8
   refine rS 10 ([(vP w.heap.size 1),(vE (.int .i64 a)),(vE (.int .i64 i)),(vE (.bool ba)),(vE (.bool ba)),(fun v wv=>(ba=true→(fun v _=>v=(.pointer (some ⟨w.heap.size,2,none⟩))) v wv)∧(ba=false→v=undef)),(fun v wv=>(ba=true→(fun v _=>v=(.int .i64 b)) v wv)∧(ba=false→v=undef)),(fun v wv=>(ba=true→(fun v _=>v=(.bool fb)) v wv)∧(ba=false→v=undef)),(vE (.bool (ba&&fb))),(vE (.bool (ba&&fb)))])
    ⟨
     (gq 3),(gvl 0 80 fun _ k=>Aj HB.out k 1 _ rfl),(gq 1),(fun aF wF F=>by have s81:=F.v 1 81;have s82:=F.v 2 82;exact sK (BA.out _) fun _ _ h=>h),(gv 3 83),
     (fun aF wF F=>by
    have sg:=F.v 4 84;have s3:=F.q 3 (.pointer (some ⟨w.heap.size,0,none⟩));rcases Bs ba with hC | hC
    ·refine sIm hC (vE (.pointer (some ⟨w.heap.size,2,none⟩))) ?_;exact sVc rfl rfl sg (by first | rfl | simp [hC])
    ·exact sOc rfl rfl sg (by first | rfl | simp [hC]) (nW hC)),
     (fun aF wF F=>by
    have sg:=F.v 4 84;have s85:(ba=true→aF.tmps.getD 85 undef=(.pointer (some ⟨w.heap.size,2,none⟩)))∧(ba=false→aF.tmps.getD 85 undef=undef):=F.done 5 85 (by kernel_rfl) rfl;have c0:=Aj HB.out F.kept 2 _ rfl;rcases Bs ba with hC | hC
    ·refine sIm hC (vE (.int .i64 b)) ?_;replace s85:=s85.1 hC;exact sVc rfl rfl sg (by first | rfl | simp [hC])
    ·exact sOc rfl rfl sg (by first | rfl | simp [hC]) (nW hC)),
     (fun aF wF F=>by
    have sg:=F.v 4 84;have s86:(ba=true→aF.tmps.getD 86 undef=(.int .i64 b))∧(ba=false→aF.tmps.getD 86 undef=undef):=F.done 6 86 (by kernel_rfl) rfl;rcases Bs ba with hC | hC
    ·refine sIm hC (vE (.bool fb)) ?_;replace s86:=s86.1 hC;exact Ar ((Ak rfl rfl sg).trans (by first | rfl | simp [hC])) (by (go_simp;exact FB.out)) rfl
    ·exact sOc rfl rfl sg (by first | rfl | simp [hC]) (nW hC)),
     (fun aF wF F=>by
    have s84:=F.v 4 84;have s87:(ba=true→aF.tmps.getD 87 undef=(.bool fb))∧(ba=false→aF.tmps.getD 87 undef=undef):=F.done 7 87 (by kernel_rfl) rfl;rcases Bs ba with hE | hE
    ·replace s87:=s87.1 hE;exact sw (by first | (go_simp;done) | (go_simp;simp_all;done) | (simp_all;done)) rfl
    ·exact sw (by first | (go_simp;done) | (go_simp;simp_all;done) | (simp_all;done)) rfl),(gv 8 88),
     trivial⟩ ?_
   intro u w1 k1 hu;have p85:=hp hu 5;have p86:=hp hu 6;have p87:=hp hu 7;simp only [Ay,An,if_true,Act.put,zlA,zlB,zlC,zlD,zlE,zlF,zlG,hv hu 0,hv hu 1,hv hu 2,hv hu 3,hv hu 4,hv hu 8,hv hu 9];clear hu;generalize u 5=v85,u 6=v86,u 7=v87 at *;go_wp2_with fail;go_ret;exact ⟨rfl,K.out.trans k1⟩
  have q1:(pp==1)=false:=by simp [p1]
  rw [if_neg p1] at em;rw [em];clear em;go_enter Tryz.func84,Tryz.ntmps84;go_upto_region 1 with fail;rw [←HW.out];obtain ⟨c0,c1,c2,c3,c4,c5,c6,c7,c8⟩:=Bn HB.out;go_wp2_with fail;refine (MS2.out _ K.out).mono ?_;rintro e w1 ⟨rfl,q⟩;replace K:=hid (K.out.trans q);have hb1:=(q.block _ (Array.getElem?_eq_some_iff.1 HB.out).1).trans HB.out;replace HB:=hid hb1;clear c0 c1 c2 c3 c4 c5 c6 c7 c8 q hb1 HW MS2;obtain ⟨c0,c1,c2,c3,c4,c5,c6,c7,c8⟩:=Bn HB.out;simp only [];have hlk:=ML.out w1 K.out;clear ML;go_wp2_with fail;refine (HP.out w1).mono ?_;rintro e w2 ⟨rfl,q⟩;replace K:=hid (K.out.trans q)
  have hb1:=(q.block _ (Array.getElem?_eq_some_iff.1 HB.out).1).trans HB.out;replace HB:=hid hb1;clear c0 c1 c2 c3 c4 c5 c6 c7 c8 q hb1 HP hlk;obtain ⟨c0,c1,c2,c3,c4,c5,c6,c7,c8⟩:=Bn HB.out;simp only [];go_wp2_with fail;go_ret;exact ⟨rfl,K.out⟩
 ·rw [if_pos rfl] at em;rw [em];clear em;obtain ⟨ba,hba⟩:∃ f,Bv a mm=f:=⟨_,rfl⟩;have BA:=hid (fun w1=>Np a mm w1);rw [hba] at BA ⊢;clear hba;go_enter Tryz.func84,Tryz.ntmps84;go_upto_region 1 with fail;rw [←HW.out];obtain ⟨c0,c1,c2,c3,c4,c5,c6,c7,c8⟩:=Bn HB.out;go_wp2_with fail;refine (MS2.out _ K.out).mono ?_;rintro e w1 ⟨rfl,q⟩;replace K:=hid (K.out.trans q);have hb1:=(q.block _ (Array.getElem?_eq_some_iff.1 HB.out).1).trans HB.out;replace HB:=hid hb1;clear c0 c1 c2 c3 c4 c5 c6 c7 c8 q hb1 HW MS2;obtain ⟨c0,c1,c2,c3,c4,c5,c6,c7,c8⟩:=Bn HB.out;simp only [];have hlk:=ML.out w1 K.out
  clear ML;go_wp2_with fail;refine (HP.out w1).mono ?_;rintro e w2 ⟨rfl,q⟩;replace K:=hid (K.out.trans q);have hb1:=(q.block _ (Array.getElem?_eq_some_iff.1 HB.out).1).trans HB.out;replace HB:=hid hb1;clear c0 c1 c2 c3 c4 c5 c6 c7 c8 q hb1 HP hlk;obtain ⟨c0,c1,c2,c3,c4,c5,c6,c7,c8⟩:=Bn HB.out;simp only [];go_upto_region 10 with fail;clear c0 c1 c2 c3 c4 c5 c6 c7 c8
  refine rS 10 ([(vP w.heap.size 1),(vE (.int .i64 a)),(vE (.int .i64 mm)),(vE (.bool ba)),(vE (.bool ba)),(fun v wv=>(ba=true→(fun v _=>v=(.pointer (some ⟨w.heap.size,2,none⟩))) v wv)∧(ba=false→v=undef)),(fun v wv=>(ba=true→(fun v _=>v=(.int .i64 b)) v wv)∧(ba=false→v=undef)),(fun v wv=>(ba=true→(fun v _=>v=(.bool fb)) v wv)∧(ba=false→v=undef)),(vE (.bool (ba&&fb))),(vE (.bool (ba&&fb)))])
   ⟨
    (gq 3),(gvl 0 55 fun _ k=>Aj HB.out k 1 _ rfl),(gq 7),(fun aF wF F=>by have s56:=F.v 1 56;have s57:=F.v 2 57;exact sK (BA.out _) fun _ _ h=>h),(gv 3 58),
    (fun aF wF F=>by
   have sg:=F.v 4 59;have s3:=F.q 3 (.pointer (some ⟨w.heap.size,0,none⟩));rcases Bs ba with hC | hC
   ·refine sIm hC (vE (.pointer (some ⟨w.heap.size,2,none⟩))) ?_;exact sVc rfl rfl sg (by first | rfl | simp [hC])
   ·exact sOc rfl rfl sg (by first | rfl | simp [hC]) (nW hC)),
    (fun aF wF F=>by
   have sg:=F.v 4 59;have s60:(ba=true→aF.tmps.getD 60 undef=(.pointer (some ⟨w.heap.size,2,none⟩)))∧(ba=false→aF.tmps.getD 60 undef=undef):=F.done 5 60 (by kernel_rfl) rfl;have c0:=Aj HB.out F.kept 2 _ rfl;rcases Bs ba with hC | hC
   ·refine sIm hC (vE (.int .i64 b)) ?_;replace s60:=s60.1 hC;exact sVc rfl rfl sg (by first | rfl | simp [hC])
   ·exact sOc rfl rfl sg (by first | rfl | simp [hC]) (nW hC)),
    (fun aF wF F=>by
   have sg:=F.v 4 59;have s61:(ba=true→aF.tmps.getD 61 undef=(.int .i64 b))∧(ba=false→aF.tmps.getD 61 undef=undef):=F.done 6 61 (by kernel_rfl) rfl;rcases Bs ba with hC | hC
   ·refine sIm hC (vE (.bool fb)) ?_;replace s61:=s61.1 hC;exact Ar ((Ak rfl rfl sg).trans (by first | rfl | simp [hC])) (by (go_simp;exact FB.out)) rfl
   ·exact sOc rfl rfl sg (by first | rfl | simp [hC]) (nW hC)),
    (fun aF wF F=>by
   have s59:=F.v 4 59;have s62:(ba=true→aF.tmps.getD 62 undef=(.bool fb))∧(ba=false→aF.tmps.getD 62 undef=undef):=F.done 7 62 (by kernel_rfl) rfl;rcases Bs ba with hE | hE
   ·replace s62:=s62.1 hE;exact sw (by first | (go_simp;done) | (go_simp;simp_all;done) | (simp_all;done)) rfl
   ·exact sw (by first | (go_simp;done) | (go_simp;simp_all;done) | (simp_all;done)) rfl),(gv 8 63),
    trivial⟩ ?_
  intro u w1 k1 hu;have p60:=hp hu 5;have p61:=hp hu 6;have p62:=hp hu 7;simp only [Ay,An,if_true,Act.put,zlA,zlB,zlC,zlD,zlE,zlF,zlG,hv hu 0,hv hu 1,hv hu 2,hv hu 3,hv hu 4,hv hu 8,hv hu 9];clear hu;generalize u 5=v60,u 6=v61,u 7=v62 at *;go_wp2_with fail;go_ret;exact ⟨rfl,K.out.trans k1⟩
def Acn {α:Type} (l:List α) (g:α→Bool) (w:World) (e:Ending) (w':World):Prop:=∃ r:Int,e=.returned (.int .i64 r)∧decide (0≤r)=l.any g∧Kept w w'
theorem Su {α:Type}{l:List α}{g:α→Bool}(h:∀ i x,i<l.length→l[i]?=some x→g x=false):l.any g=false:=by
 rw [List.any_eq_false];intro x hx;obtain ⟨i,hi,he⟩:=List.mem_iff_getElem.1 hx;rw [h i x hi (by rw [List.getElem?_eq_getElem hi,he])]
 decide
theorem Vd {α:Type}{l:List α}{g:α→Bool}{i:Nat}{x:α}(h:l[i]?=some x)(hg:g x=true):l.any g=true:=List.any_eq_true.2 ⟨x,List.mem_of_getElem? h,hg⟩
theorem Agk {w:World}{v:Value}{l:List Int}{g:Int→Bool}{bt:Nat}(hv:InS w v l)(hn:l.length≤1000000000)
 (h:∀ w1,Kept w w1→∀ x,x∈l→Calls Tryz.prog 86 #[.int .i64 x,.pointer (some ⟨bt,0,none⟩)] w1 (RetK (.bool (g x)) w1)) :
 Calls Tryz.prog 120 #[v,.func (.func 86) #[] #[.pointer (some ⟨bt,0,none⟩)]] w (Acn l g w):=by
 obtain ⟨A,c,rfl,hc,hA⟩:=hv;have HG:=hid h;have HA:=hid hA;clear h hA;obtain ⟨n,hn'⟩:∃ n,n=l.length:=⟨_,rfl⟩;rw [←hn'] at hn hc HA ⊢;have HN:=hid hn';clear hn';go_enter Tryz.func120,Tryz.ntmps120;go_wp2_with fail
 go_loopw [8] (fun t wr=>∃ k:Nat,k≤n∧t=.int .i64 k∧(∀ i x,i<k→l[i]?=some x→g x=false)∧Kept w wr) (fun t _=>(n-intOf t).toNat)
 case atStart=>exact ⟨0,Nat.zero_le _,rfl,fun i a hi=>absurd hi (Nat.not_lt_zero _),Below.refl _ _⟩
 case round =>
  obtain ⟨k,hk,rfl,hall,hKr⟩:=hrel;have KR:=hid hKr;have AL:=hid hall;clear hKr hall;by_cases hlt:k<n
  ·obtain ⟨b,off,rfl,hd⟩:=HA.out (by omega);obtain ⟨x,hx⟩:∃ x,l[k]?=some x:=⟨_,List.getElem?_eq_getElem (by have:=HN.out;omega)⟩;have hcell:=hd k x hx;have hc0:=(KR.out.cell (p:=⟨b,off+k,none⟩) (Ap hcell)).trans hcell;have HX:=hid hx;have hm:=HG.out wr KR.out x (List.mem_of_getElem? hx);obtain ⟨gx,hgx⟩:∃ y,y=g x:=⟨_,rfl⟩;rw [←hgx] at hm;have HM:=hid hm;have HGX:=hid hgx;clear hd hcell hx hm hgx;go_wp2_with fail;refine HM.out.mono ?_;rintro e w2 ⟨rfl,q⟩;have K2:=hid (KR.out.trans q);clear q hc0;simp only [];cases gx
   ·go_wp2_with fail;go_roundw
    case rel =>
     refine ⟨k+1,by omega,by go_num,fun i a hi ha'=>?_,K2.out⟩;by_cases h2:i=k
     ·subst h2;rw [HX.out] at ha';cases ha';exact HGX.out.symm
     ·exact AL.out i a (by omega) ha'
    case measure=>simp only [intOf];omega
   ·go_wp2_with fail;go_ret;exact ⟨k,rfl,by rw [Vd HX.out HGX.out.symm];simp,K2.out⟩
  ·obtain rfl:k=n:=by omega
   go_wp2_with fail;go_ret;exact ⟨-1,rfl,by rw [Su (fun i x hi hx=>AL.out i x (by have:=HN.out;omega) hx)];decide,KR.out⟩
theorem Xv {w:World}{v:Value}{l:List Int}{g:Int→Bool}{bt:Nat}(hv:InS w v l)(hn:l.length≤1000000000)
 (h:∀ w1,Kept w w1→∀ x,x∈l→Calls Tryz.prog 86 #[.int .i64 x,.pointer (some ⟨bt,0,none⟩)] w1 (RetK (.bool (g x)) w1)) :
 Calls Tryz.prog 85 #[v,.func (.func 86) #[] #[.pointer (some ⟨bt,0,none⟩)]] w (RetK (.bool (l.any g)) w):=by
 have C:=hid (Agk hv hn h);obtain ⟨A,c,rfl,-,-⟩:=hv;clear hn h;go_enter Tryz.func85,Tryz.ntmps85;go_wp2_with fail;refine C.out.mono ?_;rintro e w2 ⟨r,rfl,hr,q⟩;have Q:=hid q;have HR:=hid hr;clear q hr C;simp only [];go_wp2_with fail;go_ret;exact ⟨by rw [←HR.out];rfl,Q.out⟩
theorem Gv (x u p:Int):∀ (ls:List Ln) (i:Nat),N3 x u p i ls=true↔∀ j l,ls[j]?=some l→Fu l ((i+j:Nat):Int) x u p=true
 | [],i=>by simp [N3]
 | l :: ls, i => by
   rw [N3,Bool.and_eq_true,Gv x u p ls (i+1)];constructor
   ·rintro ⟨h1,h2⟩ j m hm;rcases j with _ | j
    ·simp at hm;subst hm;exact h1
    ·simp at hm;have:=h2 j m hm;rw [show i+(j+1)=i+1+j by omega];exact this
   ·intro h;refine ⟨h 0 l (by simp),fun j m hm=>?_⟩;have:=h (j+1) m (by simpa using hm);rw [show i+1+j=i+(j+1) by omega];exact this
theorem Eb {w:World}{b:Nat}{x y:Value}{T:TypeId}(h:w.heap[b]?=some (.cells #[x,y] T (0,0))):w.cell? ⟨b,0,none⟩=some x∧w.cell? ⟨b,1,none⟩=some y:=⟨Ae h 0 _ rfl,Ae h 1 _ rfl⟩
theorem Bl {w w':World}{b:Nat}{o:Obj}(h:w.heap[b]?=some o)(k:Kept w w'):w'.heap[b]?=some o:=(k.block b (Array.getElem?_eq_some_iff.1 h).1).trans h
theorem Agz {w:World}{bt ln c:Nat}{n:Int}{A:Option Addr}{so:Value}(hb:w.heap[bt]?=some (.cells #[.slice A ln c,so] 25 (0,0))) :
 Calls Tryz.prog 86 #[.int .i64 n,.pointer (some ⟨bt,0,none⟩)] w (RetK (.bool (!Bv n ln)) w):=by
 obtain ⟨c0,c1⟩:=Eb hb;have B:=hid (Np n ln w);obtain ⟨f,hf⟩:∃ f,Bv n ln=f:=⟨_,rfl⟩;rw [hf] at B ⊢;clear hf hb;go_enter Tryz.func86,Tryz.ntmps86;go_wp2_with fail;refine B.out.mono ?_;rintro e w2 ⟨rfl,q⟩;simp only [];go_wp2_with fail;go_ret;exact ⟨rfl,q⟩
theorem Akg (w:World)(s o:Value):∃ W,W=w.alloc (.cells #[s,o] 25)∧Kept w W∧W.heap[w.heap.size]?=some (.cells #[s,o] 25 (0,0))∧w.heap.size<W.heap.size :=
 ⟨_,rfl,Ad _ _,heap_alloc_new _ _,by simp⟩
def Tr (ls:List Ln):Prop:=∀ l∈ls,-9223372036854775808≤l.op∧l.op≤9223372036854775807∧l.k.lens 17592186044416
theorem Ajh {w:World}{v:Value}{ls:List Ln}{outs:List Int}{x u p:Int}(hv:TpR w v ls outs)(hok:Tr ls)(hn:ls.length≤1000000000)(hno:outs.length≤1000000000)
 (hx:-9223372036854775808≤x∧x≤9223372036854775807) (hu:-9223372036854775808≤u∧u≤9223372036854775807) (hp:-9223372036854775808≤p∧p≤9223372036854775807) :
 Calls Tryz.prog 47 #[v,.int .i64 x,.int .i64 u,.int .i64 p] w (RetK (.bool (Iu ls outs x u p)) w):=by
 obtain ⟨s,o,rfl,hls,hou⟩:=hv;have HL:=hid hls;have HO:=hid hou;obtain ⟨A,c,rfl,hc,hA⟩:=hls;obtain ⟨B,d,rfl,hd,-⟩:=hou;have HA:=hid hA;have OK:=hid hok;obtain ⟨W,hW,kW,hb,lW⟩:=Akg w (.slice A ls.length c) (.slice B outs.length d);have HW:=hid hW;have K:=hid kW;have HB:=hid hb;obtain ⟨c0,c1⟩:=Eb hb;clear hA hok hW kW hb;by_cases h1:ls.length≤200
 ·by_cases h2:outs.length≤200
  ·obtain ⟨w1,w2,w3,r1,r2,r3,hm,k3⟩:=Abh W hx.1 hx.2 hu.1 hu.2 hp.1 hp.2;have hmm:=@run_makeMap Tryz.prog;have em:Iu ls outs x u p=(N3 x u p 0 ls&&!(outs.any fun n=>!Bv n ls.length)):=by
    unfold Iu;rw [show decide (ls.length≤200)=true by simpa using h1,show decide (outs.length≤200)=true by simpa using h2,Bool.true_and,Bool.true_and,List.all_eq_not_any_not]
   rw [em];obtain ⟨m1,hm1⟩:∃ m1,N3 x u p 0 ls=m1:=⟨_,rfl⟩;rw [hm1];have HM1:=hid hm1;generalize hn':ls.length=n at *;have HN:=hid hn';have HM:=hid hm;have K3:=hid k3;have CC:=hid (fun w1 (k:Kept W w1)=>Xv (w:=w1) (g:=fun y=>!Bv y n) (bt:=w.heap.size) (HO.out.kept (K.out.trans k)) hno (fun w2 q y _=>Agz (Bl HB.out (k.trans q))));obtain ⟨m2,hm2⟩:∃ m2,(outs.any fun n'=>!Bv n' n)=m2:=⟨_,rfl⟩;rw [hm2] at CC ⊢;clear hm1 hn' hm k3 hm2 em;have t1:decide ((200:Int)<(n:Int))=false:=by simp;omega
   have t2:decide ((200:Int)<(outs.length:Int))=false:=by simp;omega
   go_enter Tryz.func47,Tryz.ntmps47;go_upto_region 1 with fail;rw [←HW.out];obtain ⟨e0,e1⟩:=Eb (Bl HB.out K3.out);go_wp2_with fail;clear c0 c1 e0 e1 r1 r2 r3 hmm t1 t2
   go_loopw [30] (fun t wr=>∃ k:Nat,k≤n∧t=.int .i64 k∧(∀ i l,i<k→ls[i]?=some l→Fu l (i:Int) x u p=true)∧Kept w3 wr) (fun t _=>(n-intOf t).toNat)
   case atStart=>exact ⟨0,Nat.zero_le _,rfl,fun i a hi=>absurd hi (Nat.not_lt_zero _),Below.refl _ _⟩
   case round =>
    obtain ⟨k,hk,rfl,hall,hKr⟩:=hrel;have KR:=hid hKr;have AL:=hid hall;clear hKr hall;by_cases hlt:k<n
    ·obtain ⟨b,off,rfl,hd⟩:=HA.out (by omega);obtain ⟨l,hl⟩:∃ l,ls[k]?=some l:=⟨_,List.getElem?_eq_getElem (by have:=HN.out;omega)⟩;have hat:=(hd k l hl).kept (K.out.trans (K3.out.trans KR.out));obtain ⟨a0,a1,a2,y0,y1,y2,y3,y4,y5,g0,g1,g2,g3,g4,g5,hI⟩:=hat;obtain ⟨A1,l1,q1,A2,l2,q2,ei,-,-⟩:=Aq hI;injection ei with ei;injection ei with ei
     simp only [List.cons.injEq,and_true] at ei;obtain ⟨rfl,rfl,rfl,rfl,rfl,rfl⟩:=ei;obtain ⟨o1,o2,ol⟩:=OK.out l (List.mem_of_getElem? hl);have hm:=fun w2 (q:Kept wr w2)=>Abl (a:=l.a) (b:=l.b) (i:=k) (hI.kept q) ol (HM.out.kept (KR.out.trans q)) o1 o2
     have HLK:=hid hl;obtain ⟨mb,hmb⟩:∃ mb,mb=Fu l (k:Int) x u p:=⟨_,rfl⟩;have hm2:=fun w2 (q:Kept wr w2)=>show Calls _ _ _ _ (RetK (.bool mb) w2) by rw [hmb];exact hm w2 q
     have HMB:=hid hmb;have HMM:=hid hm2;clear hd hl hI ol hm hm2 hmb o1 o2;go_wp2_with fail;refine (HMM.out _ (Ad _ _)).mono ?_;rintro e w2' ⟨rfl,q⟩;have K2:=hid (KR.out.trans ((Ad _ _).trans q));clear q a0 a1 a2 g0 g1 g2 g3 g4 g5 HMM;simp only [];cases mb
     ·go_wp2_with fail;go_ret;have e1:m1=false:=by
       cases hm:m1
       ·rfl
       ·have h1:=(Gv x u p ls 0).1 (HM1.out.trans hm) k l HLK.out;rw [Nat.zero_add] at h1;rw [←HMB.out] at h1;cases h1
      exact ⟨by rw [e1];rfl,K.out.trans (K3.out.trans K2.out)⟩
     ·go_wp2_with fail;go_roundw
      case rel =>
       refine ⟨k+1,by omega,by go_num,fun i a hi ha'=>?_,K2.out⟩;by_cases h2:i=k
       ·subst h2;rw [HLK.out] at ha';cases ha';exact HMB.out.symm
       ·exact AL.out i a (by omega) ha'
      case measure=>simp only [intOf];omega
    ·obtain rfl:k=n:=by omega
     have e1:m1=true:=by
      rw [←HM1.out];refine (Gv x u p ls 0).2 fun j m hm=>?_
      rw [Nat.zero_add];exact AL.out j m (by have:=(List.getElem?_eq_some_iff.1 hm).1;have:=HN.out;omega) hm
     obtain ⟨f0,f1⟩:=Eb (Bl HB.out (K3.out.trans KR.out));have hmf:=Gq;go_wp2_with fail;refine (CC.out _ (K3.out.trans KR.out)).mono ?_;rintro e w2' ⟨rfl,q⟩;have K2:=hid (KR.out.trans q);clear q f0 f1;simp only [];go_wp2_with fail;go_ret;exact ⟨by rw [e1];rfl,K.out.trans (K3.out.trans K2.out)⟩
  ·have em:Iu ls outs x u p=false:=by
    unfold Iu;rw [show decide (outs.length≤200)=false by simpa using h2];simp
   rw [em];have t1:decide ((200:Int)<(ls.length:Int))=false:=by simp;omega
   have t2:decide ((200:Int)<(outs.length:Int))=true:=by simp;omega
   clear em;go_enter Tryz.func47,Tryz.ntmps47;go_upto_region 1 with fail;rw [←HW.out];go_wp2_with fail;go_ret;exact ⟨rfl,K.out⟩
 ·have em:Iu ls outs x u p=false:=by
   unfold Iu;rw [show decide (ls.length≤200)=false by simpa using h1];simp
  rw [em];have t1:decide ((200:Int)<(ls.length:Int))=true:=by simp;omega
  clear em;go_enter Tryz.func47,Tryz.ntmps47;go_upto_region 1 with fail;rw [←HW.out];go_wp2_with fail;go_ret;exact ⟨rfl,K.out⟩
theorem Acv (w:World)(x y z x' y' z':Value):∃ V,V=w.alloc (.cells #[x,y,z,x',y',z'] 30)∧Kept w V∧BlkI V w.heap.size x y z x' y' z'∧w.heap.size<V.heap.size :=
 ⟨_,rfl,Ad _ _,Et _ _ _ _ _ _ _,by simp⟩
theorem Adm {w:World}{v:Value}{l:List RawI}{g:RawI→Bool}(hv:IvS w v l)(hn:l.length≤1000000000)
 (h:∀ w1 y,Kept w w1→∀ x,x∈l→IvR w1 y x→Calls Tryz.prog 95 #[y] w1 (RetK (.bool (g x)) w1)) :
 Calls Tryz.prog 121 #[v,.func (.func 95) #[] #[]] w (Acn l g w):=by
 obtain ⟨A,c,rfl,hc,hA⟩:=hv;have HG:=hid h;have HA:=hid hA;clear h hA;obtain ⟨n,hn'⟩:∃ n,n=l.length:=⟨_,rfl⟩;rw [←hn'] at hn hc HA ⊢;have HN:=hid hn';clear hn';go_enter Tryz.func121,Tryz.ntmps121;go_wp2_with fail
 go_loopw [8] (fun t wr=>∃ k:Nat,k≤n∧t=.int .i64 k∧(∀ i x,i<k→l[i]?=some x→g x=false)∧Kept w wr) (fun t _=>(n-intOf t).toNat)
 case atStart=>exact ⟨0,Nat.zero_le _,rfl,fun i a hi=>absurd hi (Nat.not_lt_zero _),Below.refl _ _⟩
 case round =>
  obtain ⟨k,hk,rfl,hall,hKr⟩:=hrel;have KR:=hid hKr;have AL:=hid hall;clear hKr hall;by_cases hlt:k<n
  ·obtain ⟨b,off,rfl,hd⟩:=HA.out (by omega);obtain ⟨x,hx⟩:∃ x,l[k]?=some x:=⟨_,List.getElem?_eq_getElem (by have:=HN.out;omega)⟩;obtain ⟨y0,y1,y2,y3,y4,y5,g0,g1,g2,g3,g4,g5,hI⟩:=(hd k x hx).kept KR.out;have HX:=hid hx;have hm:=HG.out wr _ KR.out x (List.mem_of_getElem? hx) hI;obtain ⟨gx,hgx⟩:∃ y,y=g x:=⟨_,rfl⟩;rw [←hgx] at hm;have HM:=hid hm;have HGX:=hid hgx;clear hd hx hm hgx hI;go_wp2_with fail;refine HM.out.mono ?_;rintro e w2 ⟨rfl,q⟩;have K2:=hid (KR.out.trans q);clear q g0 g1 g2 g3 g4 g5;simp only [];cases gx
   ·go_wp2_with fail;go_roundw
    case rel =>
     refine ⟨k+1,by omega,by go_num,fun i a hi ha'=>?_,K2.out⟩;by_cases h2:i=k
     ·subst h2;rw [HX.out] at ha';cases ha';exact HGX.out.symm
     ·exact AL.out i a (by omega) ha'
    case measure=>simp only [intOf];omega
   ·go_wp2_with fail;go_ret;exact ⟨k,rfl,by rw [Vd HX.out HGX.out.symm];simp,K2.out⟩
  ·obtain rfl:k=n:=by omega
   go_wp2_with fail;go_ret;exact ⟨-1,rfl,by rw [Su (fun i x hi hx=>AL.out i x (by have:=HN.out;omega) hx)];decide,KR.out⟩
theorem Vk {w:World}{v:Value}{l:List RawI}{g:RawI→Bool}(hv:IvS w v l)(hn:l.length≤1000000000)
 (h:∀ w1 y,Kept w w1→∀ x,x∈l→IvR w1 y x→Calls Tryz.prog 95 #[y] w1 (RetK (.bool (g x)) w1)) :
 Calls Tryz.prog 87 #[v,.func (.func 95) #[] #[]] w (RetK (.bool (l.any g)) w):=by
 have C:=hid (Adm hv hn h);obtain ⟨A,c,rfl,-,-⟩:=hv;clear hn h;go_enter Tryz.func87,Tryz.ntmps87;go_wp2_with fail;refine C.out.mono ?_;rintro e w2 ⟨r,rfl,hr,q⟩;have Q:=hid q;have HR:=hid hr;clear q hr C;simp only [];go_wp2_with fail;go_ret;exact ⟨by rw [←HR.out];rfl,Q.out⟩
theorem Abi {w:World}{v:Value}{a:RawI}(hv:IvR w v a)(hl:a.lens 17592186044416):Calls Tryz.prog 95 #[v] w (RetK (.bool (!Fh a)) w):=by
 obtain ⟨x0,x1,x2,x3,x4,x5,rfl,-,-⟩:=(show IvR _ _ _ from hv);obtain ⟨W,hW,kW,hb,-⟩:=Acv w x0 x1 x2 x3 x4 x5;have M:=hid (Uj (hv.kept kW) hl);obtain ⟨f,hf⟩:∃ f,Fh a=f:=⟨_,rfl⟩;rw [hf] at M ⊢;obtain ⟨-,c0,c1,c2,c3,c4,c5⟩:=hb.facts;have HW:=hid hW;clear hf hv hl hb hW;go_enter Tryz.func95,Tryz.ntmps95;go_upto_region 1 with fail;rw [←HW.out];go_wp2_with fail;refine M.out.mono ?_;rintro e w2 ⟨rfl,q⟩;simp only [];go_wp2_with fail;go_ret;exact ⟨rfl,kW.trans q⟩
theorem Ak6 (w:World)(x0 x1 x2 x3 x4 x5 x6 x7 x8:Value):∃ W,W=w.alloc (.cells #[x0,x1,x2,x3,x4,x5,x6,x7,x8] 33)∧Kept w W∧W.heap[w.heap.size]?=some (.cells #[x0,x1,x2,x3,x4,x5,x6,x7,x8] 33 (0,0))∧w.heap.size<W.heap.size :=
 ⟨_,rfl,Ad _ _,heap_alloc_new _ _,by simp⟩
def Lf (e:En):Prop:=e.t.lens 17592186044416∧(∀ a∈e.x,a.lens 17592186044416)∧(∀ a∈e.u,a.lens 17592186044416)∧(∀ a∈e.p,a.lens 17592186044416)∧e.x.length≤1000000000∧e.u.length≤1000000000∧e.p.length≤1000000000
theorem Adv {w:World}{v:Value}{e:En}(hv:EnR w v e)(hl:Lf e):Calls Tryz.prog 62 #[v] w (RetK (.bool (Nd e)) w):=by
 obtain ⟨x0,x1,x2,x3,x4,x5,sx,su,sp,rfl,ht,hx,hu,hp⟩:=hv;obtain ⟨l1,l2,l3,l4,n2,n3,n4⟩:=hl;have HT:=hid ht;have HX:=hid hx;have HU:=hid hu;have HP:=hid hp;obtain ⟨A1,j1,q1,A2,j2,q2,ei,-,-⟩:=Aq ht;injection ei with ei;injection ei with ei
 simp only [List.cons.injEq,and_true] at ei;obtain ⟨rfl,rfl,rfl,rfl,rfl,rfl⟩:=ei;obtain ⟨AX,cx,rfl,-,-⟩:=hx;obtain ⟨AU,cu,rfl,-,-⟩:=hu;obtain ⟨AP,cp,rfl,-,-⟩:=hp;obtain ⟨W,hW,kW,hb,lW⟩:=Ak6 w (.bool e.t.lo.neg) (.slice A1 j1 q1) (.int .i64 e.t.lo.e) (.bool e.t.hi.neg) (.slice A2 j2 q2) (.int .i64 e.t.hi.e) (.slice AX e.x.length cx) (.slice AU e.u.length cu) (.slice AP e.p.length cp);obtain ⟨W1,hW1,kW1,hb1,-⟩:=Acv W (.bool e.t.lo.neg) (.slice A1 j1 q1) (.int .i64 e.t.lo.e) (.bool e.t.hi.neg) (.slice A2 j2 q2) (.int .i64 e.t.hi.e)
 obtain ⟨W2,hW2,kW2,hb2⟩:∃ W2,W2=W1.alloc (.cells #[.slice (some ⟨W.heap.size,0,none⟩) 1 1,.slice AX e.x.length cx,.slice AU e.u.length cu,.slice AP e.p.length cp] 31)∧Kept W1 W2∧W2.heap[W1.heap.size]?=some (.cells #[.slice (some ⟨W.heap.size,0,none⟩) 1 1,.slice AX e.x.length cx,.slice AU e.u.length cu,.slice AP e.p.length cp] 31 (0,0)) :=
  ⟨_,rfl,Ad _ _,heap_alloc_new _ _⟩
 have ew:W1.heap.size=W.heap.size+1:=by rw [hW1];simp
 rw [ew] at hb2;have kk:=kW.trans (kW1.trans kW2);have hT1:IvS W2 (.slice (some ⟨W.heap.size,0,none⟩) 1 1) [e.t]:=Agn (hb1.kept kW2) (HT.out.kept kk);obtain ⟨rows,hrows⟩:∃ rows:List (Value × List RawI),rows=[(.slice (some ⟨W.heap.size,0,none⟩) 1 1,[e.t]),(.slice AX e.x.length cx,e.x),(.slice AU e.u.length cu,e.u),(.slice AP e.p.length cp,e.p)]:=⟨_,rfl⟩;have RS:=hid (show ∀ j r,rows[j]?=some r→IvS W2 r.1 r.2∧(∀ a∈r.2,a.lens 17592186044416)∧r.2.length≤1000000000∧W2.cell? ⟨W.heap.size+1,j,none⟩=some r.1 by
  intro j r hr;subst hrows;rcases j with _ | _ | _ | _ | j
  ·cases hr;exact ⟨hT1,by simpa using l1,by simp,Ae hb2 0 _ rfl⟩
  ·cases hr;exact ⟨HX.out.kept kk,l2,n2,Ae hb2 1 _ rfl⟩
  ·cases hr;exact ⟨HU.out.kept kk,l3,n3,Ae hb2 2 _ rfl⟩
  ·cases hr;exact ⟨HP.out.kept kk,l4,n4,Ae hb2 3 _ rfl⟩
  ·simp at hr)
 have RL:rows.length=4:=by rw [hrows];rfl
 have RE:Nd e=rows.all fun r=>r.2.all Fh:=by
  rw [hrows];unfold Nd;simp [Bool.and_assoc]
 rw [RE];have KK:=hid kk;have HW:=hid hW;have HW1:=hid hW1;have HW2:=hid hW2;obtain ⟨c0,c1,c2,c3,c4,c5,c6,c7,c8⟩:=Bn hb;clear RE hrows hT1 hb hb1 hb2 kk kW kW1 kW2 l1 l2 l3 l4 n2 n3 n4 hW hW1 hW2 HT HX HU HP ht;generalize e.t.lo.neg=z1 at *;generalize e.t.lo.e=z2 at *;generalize e.t.hi.neg=z3 at *;generalize e.t.hi.e=z4 at *;generalize e.x.length=y1 at *;generalize e.u.length=y2 at *;generalize e.p.length=y3 at *;go_enter Tryz.func62,Tryz.ntmps62;go_upto_region 1 with fail;rw [←HW.out];go_wp2_with fail;rw [←HW1.out,←HW2.out];clear c0 c1 c2 c3 c4 c5 c6 c7 c8 HW HW1 HW2
 go_loopw [16] (fun t wr=>∃ k:Nat,k≤4∧t=.int .i64 k∧(∀ i r,i<k→rows[i]?=some r→r.2.all Fh=true)∧Kept W2 wr) (fun t _=>(4-intOf t).toNat)
 case atStart=>exact ⟨0,Nat.zero_le _,rfl,fun i a hi=>absurd hi (Nat.not_lt_zero _),Below.refl _ _⟩
 case round =>
  obtain ⟨k,hk,rfl,hall,hKr⟩:=hrel;have KR:=hid hKr;have AL:=hid hall;clear hKr hall;by_cases hlt:k<4
  ·obtain ⟨r,hr⟩:∃ r,rows[k]?=some r:=⟨_,List.getElem?_eq_getElem (by omega)⟩;obtain ⟨hs,hll,hln,hcell⟩:=RS.out k r hr;have hc0:=(KR.out.cell (p:=⟨W.heap.size+1,k,none⟩) (Ap hcell)).trans hcell;have HRR:=hid hr;have hm:=Vk (g:=fun a=>!Fh a) (hs.kept KR.out) hln (fun w1 y q a ha hy=>Abi hy (hll a ha));obtain ⟨mb,hmb⟩:∃ mb,mb=r.2.all Fh:=⟨_,rfl⟩;rw [←List.not_all_eq_any_not,←hmb] at hm;have HMB:=hid hmb;have HM:=hid hm;clear hr hs hll hln hcell hm hmb;go_wp2_with fail;refine HM.out.mono ?_;rintro e' w2' ⟨rfl,q⟩;have K2:=hid (KR.out.trans q);clear q hc0;simp only [];cases mb
   ·go_wp2_with fail;go_ret;have e1:(rows.all fun r=>r.2.all Fh)=false:=by
     rw [List.all_eq_false];exact ⟨r,List.mem_of_getElem? HRR.out,by rw [←HMB.out];decide⟩
    exact ⟨by rw [e1];rfl,KK.out.trans K2.out⟩
   ·go_wp2_with fail;go_roundw
    case rel =>
     refine ⟨k+1,by omega,by go_num,fun i a hi ha'=>?_,K2.out⟩;by_cases h2:i=k
     ·subst h2;rw [HRR.out] at ha';cases ha';exact HMB.out.symm
     ·exact AL.out i a (by omega) ha'
    case measure=>simp only [intOf];omega
  ·obtain rfl:k=4:=by omega
   go_wp2_with fail;go_ret;have e1:(rows.all fun r=>r.2.all Fh)=true:=by
    rw [List.all_eq_true];intro r hr;obtain ⟨i,hi,he⟩:=List.mem_iff_getElem.1 hr;exact AL.out i r (by omega) (by rw [List.getElem?_eq_getElem hi,he])
   exact ⟨by rw [e1];rfl,KK.out.trans KR.out⟩
theorem Ajn {op:Int}{a b:Iv}(ha:a.Ok)(hb:b.Ok){p:Nat}(hp:1≤p):OkI (opI op a b p):=by
 unfold opI;split
 ·exact Tx ha hb hp
 split
 ·exact Aar ha hb hp
 split
 ·exact Z9 hp
 split
 ·exact Zk hb hp
 ·exact Aac ha hp
theorem Ey {op:Int}{a b:Iv}(ha:a.Ok)(hb:b.Ok){p:Nat}(hp:1≤p)(e:Int):(doI op a b p e).v.Ok:=by
 unfold doI;split
 ·exact (Ajn ha hb hp).1
 ·exact Q4
theorem Pf:two.Ok:=Aah Akl
def OneJ (b14 bw:Nat) (p e k1 k2:Int) (r:RawI) (l1 l2 l3:Bool) (w:World):Prop :=
 (∃ n A l c d n' A' l' c' d',BlkI w b14 (.bool n) (.slice A l c) (.int .i64 d) (.bool n') (.slice A' l' c') (.int .i64 d')∧(l3=true→IvR w (.agg #[.bool n,.slice A l c,.int .i64 d,.bool n',.slice A' l' c',.int .i64 d']) r)) ∧
   Wk w bw p (if l1 then (if l2 then k2 else k1) else e)∧(l2=true→l1=true)
theorem OneJ.parts {b14 bw:Nat}{p e k1 k2:Int}{r:RawI}{l1 l2 l3:Bool}{w:World}(h:OneJ b14 bw p e k1 k2 r l1 l2 l3 w) :
 (∃ n A l c d n' A' l' c' d',BlkI w b14 (.bool n) (.slice A l c) (.int .i64 d) (.bool n') (.slice A' l' c') (.int .i64 d')∧(l3=true→IvR w (.agg #[.bool n,.slice A l c,.int .i64 d,.bool n',.slice A' l' c',.int .i64 d']) r)) ∧
   Wk w bw p (if l1 then (if l2 then k2 else k1) else e)∧(l2=true→l1=true):=h
theorem OneJ.kept {b14 bw:Nat}{p e k1 k2:Int}{r:RawI}{l1 l2 l3:Bool}{w w':World}(q:Kept w w')(h:OneJ b14 bw p e k1 k2 r l1 l2 l3 w):OneJ b14 bw p e k1 k2 r l1 l2 l3 w':=by
 obtain ⟨⟨n,A,l,c,d,n',A',l',c',d',h1,h2⟩,h3,h4⟩:=h;exact ⟨⟨n,A,l,c,d,n',A',l',c',d',h1.kept q,fun hl=>(h2 hl).kept q⟩,h3.kept q,h4⟩
theorem OneJ.first {b14 bw:Nat}{p e k1 k2:Int}{r:RawI}{l1 l2 l3:Bool}{w w':World}(hne:¬b14=bw)(h:OneJ b14 bw p e k1 k2 r l1 l2 l3 w)(hl:l1=false)(k:KB w [bw] w')(hw:Wk w' bw p k1):OneJ b14 bw p e k1 k2 r true l2 l3 w':=by
 obtain ⟨⟨n,A,l,c,d,n',A',l',c',d',h1,h2⟩,h3,h4⟩:=h;refine ⟨⟨n,A,l,c,d,n',A',l',c',d',h1.kb k (by simpa using hne),fun hl=>(h2 hl).kb k⟩,?_,fun _=>rfl⟩;cases l2
 ·exact hw
 ·exact absurd (h4 rfl) (by simp [hl])
theorem OneJ.second {b14 bw:Nat}{p e k1 k2:Int}{r:RawI}{l1 l2 l3:Bool}{w w':World}(hne:¬b14=bw)(h:OneJ b14 bw p e k1 k2 r l1 l2 l3 w)(hl:l1=true)(k:KB w [bw] w')(hw:Wk w' bw p k2):OneJ b14 bw p e k1 k2 r l1 true l3 w':=by
 obtain ⟨⟨n,A,l,c,d,n',A',l',c',d',h1,h2⟩,h3,h4⟩:=h;refine ⟨⟨n,A,l,c,d,n',A',l',c',d',h1.kb k (by simpa using hne),fun hl=>(h2 hl).kb k⟩,?_,fun _=>hl⟩;rw [hl];exact hw
theorem OneJ.laid {b14 bw:Nat}{p e k1 k2:Int}{r:RawI}{l1 l2 l3:Bool}{w:World}(hne:¬b14=bw)(h:OneJ b14 bw p e k1 k2 r l1 l2 l3 w){n n':Bool}{A A':Option Addr}{l c l' c':Nat}{d d':Int}
 (hr:IvR w (.agg #[.bool n,.slice A l c,.int .i64 d,.bool n',.slice A' l' c',.int .i64 d']) r):OneJ b14 bw p e k1 k2 r l1 l2 true (ivW w b14 (.bool n) (.slice A l c) (.int .i64 d) (.bool n') (.slice A' l' c') (.int .i64 d')):=by
 obtain ⟨⟨n1,A1,i1,c1,d1,n1',A1',i1',c1',d1',h1,h2⟩,h3,h4⟩:=h;exact ⟨⟨n,A,l,c,d,n',A',l',c',d',h1.laid _ _ _ _ _ _,fun _=>hr.ivW h1 _ _ _ _ _ _⟩,(Cb _ _ _ _ _ _ _ _ _ (fun h=>hne h.symm)).trans h3,h4⟩
theorem OneJ.done {b14 bw:Nat}{p e k1 k2:Int}{r:RawI}{w:World}(h:OneJ b14 bw p e k1 k2 r true true true w) :
 (∃ n A l c d n' A' l' c' d',BlkI w b14 (.bool n) (.slice A l c) (.int .i64 d) (.bool n') (.slice A' l' c') (.int .i64 d')∧IvR w (.agg #[.bool n,.slice A l c,.int .i64 d,.bool n',.slice A' l' c',.int .i64 d']) r)∧Wk w bw p k2:=by
 obtain ⟨⟨n,A,l,c,d,n',A',l',c',d',h1,h2⟩,h3,h4⟩:=h;exact ⟨⟨n,A,l,c,d,n',A',l',c',d',h1,h2 rfl⟩,h3⟩
theorem Akc (w:World)(a0 a1 a2 a3 a4 a5 b0 b1 b2 b3 b4 b5 c0 c1 c2 c3 c4 c5 d0 d1 d2 d3 d4 d5 e0 e1 e2 e3 e4 e5:Value) :
 ∃ W,W=(((((w.alloc (.cells #[a0,a1,a2,a3,a4,a5] 30)).alloc (.cells #[b0,b1,b2,b3,b4,b5] 30)).alloc (.cells #[c0,c1,c2,c3,c4,c5] 30)).alloc (.cells #[d0,d1,d2,d3,d4,d5] 30)).alloc (.cells #[e0,e1,e2,e3,e4,e5] 30)).alloc (.cells #[.bool false,.slice none 0 0,.int .i64 0,.bool false,.slice none 0 0,.int .i64 0] 30) ∧
 Kept w W∧W.heap.size=w.heap.size+1+1+1+1+1+1∧BlkI W w.heap.size a0 a1 a2 a3 a4 a5∧BlkI W (w.heap.size+1) b0 b1 b2 b3 b4 b5∧BlkI W (w.heap.size+1+1) c0 c1 c2 c3 c4 c5∧BlkI W (w.heap.size+1+1+1) d0 d1 d2 d3 d4 d5∧BlkI W (w.heap.size+1+1+1+1) e0 e1 e2 e3 e4 e5 ∧
 BlkI W (w.heap.size+1+1+1+1+1) (.bool false) (.slice none 0 0) (.int .i64 0) (.bool false) (.slice none 0 0) (.int .i64 0):=by
 have st:∀ (v:World) (n:Nat) (x0 x1 x2 x3 x4 x5:Value),v.heap.size=n→BlkI (v.alloc (.cells #[x0,x1,x2,x3,x4,x5] 30)) n x0 x1 x2 x3 x4 x5∧(v.alloc (.cells #[x0,x1,x2,x3,x4,x5] 30)).heap.size=n+1∧Kept v (v.alloc (.cells #[x0,x1,x2,x3,x4,x5] 30)):=by
  intro v n x0 x1 x2 x3 x4 x5 h;subst h;exact ⟨Et _ _ _ _ _ _ _,by simp,Ad _ _⟩
 obtain ⟨w1,h1⟩:∃ v,v=w.alloc (.cells #[a0,a1,a2,a3,a4,a5] 30):=⟨_,rfl⟩;obtain ⟨p1,q1,k1⟩:=st w _ a0 a1 a2 a3 a4 a5 rfl;rw [←h1] at p1 q1 k1 ⊢;obtain ⟨w2,h2⟩:∃ v,v=w1.alloc (.cells #[b0,b1,b2,b3,b4,b5] 30):=⟨_,rfl⟩;obtain ⟨p2,q2,k2⟩:=st w1 _ b0 b1 b2 b3 b4 b5 q1;rw [←h2] at p2 q2 k2 ⊢;obtain ⟨w3,h3⟩:∃ v,v=w2.alloc (.cells #[c0,c1,c2,c3,c4,c5] 30):=⟨_,rfl⟩;obtain ⟨p3,q3,k3⟩:=st w2 _ c0 c1 c2 c3 c4 c5 q2;rw [←h3] at p3 q3 k3 ⊢;obtain ⟨w4,h4⟩:∃ v,v=w3.alloc (.cells #[d0,d1,d2,d3,d4,d5] 30):=⟨_,rfl⟩;obtain ⟨p4,q4,k4⟩:=st w3 _ d0 d1 d2 d3 d4 d5 q3;rw [←h4] at p4 q4 k4 ⊢;obtain ⟨w5,h5⟩:∃ v,v=w4.alloc (.cells #[e0,e1,e2,e3,e4,e5] 30):=⟨_,rfl⟩
 obtain ⟨p5,q5,k5⟩:=st w4 _ e0 e1 e2 e3 e4 e5 q4;rw [←h5] at p5 q5 k5 ⊢;obtain ⟨p6,q6,k6⟩:=st w5 _ (.bool false) (.slice none 0 0) (.int .i64 0) (.bool false) (.slice none 0 0) (.int .i64 0) q5;exact ⟨_,rfl,((((k1.trans k2).trans k3).trans k4).trans k5).trans k6,q6,((((p1.kept k2).kept k3).kept k4).kept k5).kept k6,(((p2.kept k3).kept k4).kept k5).kept k6,((p3.kept k4).kept k5).kept k6,(p4.kept k5).kept k6,p5.kept k6,p6⟩
theorem Akw {S:Int→Prop}{w:World}{bw:Nat}{va vb vc vd ve:Value}{a b c da db:Iv}{op:Int}{p:Nat}{e:Int}(hw:Wk w bw p e)(ha:IvC w va a)(hb:IvC w vb b)(hc:IvC w vc c)(hd:IvC w vd da)(he:IvC w ve db)
 (oa:a.Ok) (ob:b.Ok) (oc:c.Ok) (od:da.Ok) (oe:db.Ok) (hT:Tab w) (p1:1≤p) (p2:p≤2000) (O:Va S) (hD:Afp S op) :
 Calls Tryz.prog 37 #[.pointer (some ⟨bw,0,none⟩),.int .i64 op,va,vb,vc,vd,ve] w (Zd bw p (Bp (Jl p op a b c da db e)) w):=by
 obtain ⟨a0,a1,a2,a3,a4,a5,rfl,-,-⟩:=(show IvR _ _ _ from ha);obtain ⟨b0,b1,b2,b3,b4,b5,rfl,-,-⟩:=(show IvR _ _ _ from hb);obtain ⟨c0,c1,c2,c3,c4,c5,rfl,-,-⟩:=(show IvR _ _ _ from hc);obtain ⟨d0,d1,d2,d3,d4,d5,rfl,-,-⟩:=(show IvR _ _ _ from hd);obtain ⟨e0,e1,e2,e3,e4,e5,rfl,-,-⟩:=(show IvR _ _ _ from he);have OPS:=hid O;have DER:=hid hD;clear O hD;have OA:=hid oa;have OB:=hid ob;have OC:=hid oc;have OD:=hid od;have OE:=hid oe;have lw:=hw.lt;have gl:=hT.lt;have gn:0≠bw:=hT.ne (Ae hw 0 _ rfl) (by intro y h;cases h);obtain ⟨W,hW,kW,lW,B9,B10,B11,B12,B13,B14⟩:=Akc w a0 a1 a2 a3 a4 a5 b0 b1 b2 b3 b4 b5 c0 c1 c2 c3 c4 c5 d0 d1 d2 d3 d4 d5 e0 e1 e2 e3 e4 e5
 have PC:=hid (show Calls Tryz.prog 36 #[.int .i64 2] W (RetI (pt (Bt false 2 0).v).raw W) from Xb (n:=2) (by decide) (hT.kept kW));rw [Ako] at PC;have HW:=hid hW;go_enter Tryz.func37,Tryz.ntmps37;go_upto_region 1 with fail;rw [←HW.out];clear HW hW oa ob oc od oe;go_wp2_with fail;refine PC.out.mono ?_;rintro e' w2 ⟨q,u,rfl,hp⟩;obtain ⟨T1,jt,yt,T2,js,ys,rfl,-,-⟩:=Aq hp;simp only [];obtain ⟨t0,ht0⟩:∃ x,x=(pt dt).raw.lo.neg:=⟨_,rfl⟩;obtain ⟨t2,ht2⟩:∃ x,x=(pt dt).raw.lo.e:=⟨_,rfl⟩;obtain ⟨t3,ht3⟩:∃ x,x=(pt dt).raw.hi.neg:=⟨_,rfl⟩;obtain ⟨t5,ht5⟩:∃ x,x=(pt dt).raw.hi.e:=⟨_,rfl⟩;rw [←ht0,←ht2,←ht3,←ht5] at hp ⊢
 clear ht0 ht2 ht3 ht5;obtain ⟨V,hV,kV,B15,lV⟩:=Acv w2 (.bool t0) (.slice T1 jt yt) (.int .i64 t2) (.bool t3) (.slice T2 js ys) (.int .i64 t5);have kk:=q.trans kV;have K:=hid (kW.trans kk);have H9:=hid (B9.kept kk);have H10:=hid (B10.kept kk);have H11:=hid (B11.kept kk);have H12:=hid (B12.kept kk);have H13:=hid (B13.kept kk);have H14:=hid (B14.kept kk);have H15:=hid B15;have IA:=hid (IvC.kept ha K.out);have IB:=hid (IvC.kept hb K.out);have IC:=hid (IvC.kept hc K.out);have ID:=hid (IvC.kept hd K.out);have IE:=hid (IvC.kept he K.out);have IT:=hid (show IvC V _ two from hp.kept kV);have WK:=hid (hw.kept K.out)
 have T:=hid (hT.kept K.out);have lq:=q.size;have NG:0∉[bw]:=by simpa using gn
 go_upto_region 2 with fail;rw [←hV];clear hV kW q kk kV B9 B10 B11 B12 B13 B14 B15 ha hb hc hd he hp hw hT PC;have N9:w.heap.size∉[bw]:=by simp;omega
 have N10:w.heap.size+1∉[bw]:=by simp;omega
 have N11:w.heap.size+1+1∉[bw]:=by simp;omega
 have N12:w.heap.size+1+1+1∉[bw]:=by simp;omega
 have N13:w.heap.size+1+1+1+1∉[bw]:=by simp;omega
 have N14:w.heap.size+1+1+1+1+1∉[bw]:=by simp;omega
 have N15:w2.heap.size∉[bw]:=by simp;omega
 have M9:w.heap.size∉[w.heap.size+1+1+1+1+1,bw]:=by simp;omega
 have M10:w.heap.size+1∉[w.heap.size+1+1+1+1+1,bw]:=by simp;omega
 have M11:w.heap.size+1+1∉[w.heap.size+1+1+1+1+1,bw]:=by simp;omega
 have M12:w.heap.size+1+1+1∉[w.heap.size+1+1+1+1+1,bw]:=by simp;omega
 have M13:w.heap.size+1+1+1+1∉[w.heap.size+1+1+1+1+1,bw]:=by simp;omega
 have M15:w2.heap.size∉[w.heap.size+1+1+1+1+1,bw]:=by simp;omega
 have MG:0∉[w.heap.size+1+1+1+1+1,bw]:=by simp;omega
 have NE:¬w.heap.size+1+1+1+1+1=bw:=by omega
 generalize g14:w.heap.size+1+1+1+1+1=b14 at *;generalize g13:w.heap.size+1+1+1+1=b13 at *;generalize g12:w.heap.size+1+1+1=b12 at *;generalize g11:w.heap.size+1+1=b11 at *;generalize g10:w.heap.size+1=b10 at *;generalize g9:w.heap.size=b9 at *;generalize g15:w2.heap.size=b15 at *;by_cases h67:op=6∨op=7∨op=10
 ·have ho:Jl p op a b c da db e=doI op da db p e:=by unfold Jl;rw [if_pos h67]
  rw [ho];rcases h67 with rfl | rfl | rfl
  ·
   have D:=hid (Nw (op:=6) WK.out ID.out IE.out OD.out OE.out T.out p1 p2 OPS.out (DER.out 6 (by decide)));clear ho H9 H10 H11 H15 IT IA IB IC;obtain ⟨-,f0,f1,f2,f3,f4,f5⟩:=H12.out.facts;obtain ⟨-,g0,g1,g2,g3,g4,g5⟩:=H13.out.facts;go_wp2_with fail;refine D.out.mono ?_;rintro e' w3 ⟨kb,hwk,u,rfl,hv⟩;obtain ⟨P1,i1,q1,P2,i2,q2,rfl,z1,z2⟩:=Aq hv;have h14:=H14.out.kb kb N14;obtain ⟨-,r0,r1,r2,r3,r4,r5⟩:=h14.facts;obtain ⟨x0,x1,x2,x3,x4,x5⟩:=h14.free;have HB:=hid h14;have Z:=hid hv;have KK:=hid ((K.out.kb [bw]).trans kb (by intro y hy;exact .inl hy));have WW:=hid hwk;clear h14 hv z1 z2 kb hwk D f0 f1 f2 f3 f4 f5 g0 g1 g2 g3 g4 g5 T WK
   simp only [];go_wp2_with fail;refine Fc (HB.out.laid _ _ _ _ _ _) rfl rfl rfl ⟨KK.out.trans ((KB.refl w3 [b14]).ivW HB.out (by simp) _ _ _ _ _ _) (by intro y hy;simp at hy;exact .inr (by omega)),(Cb _ _ _ _ _ _ _ _ _ (by omega)).trans WW.out,_,rfl,Z.out.ivW HB.out _ _ _ _ _ _⟩
  ·
   have D:=hid (Nw (op:=7) WK.out ID.out IE.out OD.out OE.out T.out p1 p2 OPS.out (DER.out 7 (by decide)));clear ho H9 H10 H11 H15 IT IA IB IC;obtain ⟨-,f0,f1,f2,f3,f4,f5⟩:=H12.out.facts;obtain ⟨-,g0,g1,g2,g3,g4,g5⟩:=H13.out.facts;go_wp2_with fail;refine D.out.mono ?_;rintro e' w3 ⟨kb,hwk,u,rfl,hv⟩;obtain ⟨P1,i1,q1,P2,i2,q2,rfl,z1,z2⟩:=Aq hv;have h14:=H14.out.kb kb N14;obtain ⟨-,r0,r1,r2,r3,r4,r5⟩:=h14.facts;obtain ⟨x0,x1,x2,x3,x4,x5⟩:=h14.free;have HB:=hid h14;have Z:=hid hv;have KK:=hid ((K.out.kb [bw]).trans kb (by intro y hy;exact .inl hy));have WW:=hid hwk;clear h14 hv z1 z2 kb hwk D f0 f1 f2 f3 f4 f5 g0 g1 g2 g3 g4 g5 T WK
   simp only [];go_wp2_with fail;refine Fc (HB.out.laid _ _ _ _ _ _) rfl rfl rfl ⟨KK.out.trans ((KB.refl w3 [b14]).ivW HB.out (by simp) _ _ _ _ _ _) (by intro y hy;simp at hy;exact .inr (by omega)),(Cb _ _ _ _ _ _ _ _ _ (by omega)).trans WW.out,_,rfl,Z.out.ivW HB.out _ _ _ _ _ _⟩
  ·
   have D:=hid (Nw (op:=10) WK.out ID.out IE.out OD.out OE.out T.out p1 p2 OPS.out (DER.out 10 (by decide)));clear ho H9 H10 H11 H15 IT IA IB IC;obtain ⟨-,f0,f1,f2,f3,f4,f5⟩:=H12.out.facts;obtain ⟨-,g0,g1,g2,g3,g4,g5⟩:=H13.out.facts;go_wp2_with fail;refine D.out.mono ?_;rintro e' w3 ⟨kb,hwk,u,rfl,hv⟩;obtain ⟨P1,i1,q1,P2,i2,q2,rfl,z1,z2⟩:=Aq hv;have h14:=H14.out.kb kb N14;obtain ⟨-,r0,r1,r2,r3,r4,r5⟩:=h14.facts;obtain ⟨x0,x1,x2,x3,x4,x5⟩:=h14.free;have HB:=hid h14;have Z:=hid hv;have KK:=hid ((K.out.kb [bw]).trans kb (by intro y hy;exact .inl hy));have WW:=hid hwk;clear h14 hv z1 z2 kb hwk D f0 f1 f2 f3 f4 f5 g0 g1 g2 g3 g4 g5 T WK
   simp only [];go_wp2_with fail;refine Fc (HB.out.laid _ _ _ _ _ _) rfl rfl rfl ⟨KK.out.trans ((KB.refl w3 [b14]).ivW HB.out (by simp) _ _ _ _ _ _) (by intro y hy;simp at hy;exact .inr (by omega)),(Cb _ _ _ _ _ _ _ _ _ (by omega)).trans WW.out,_,rfl,Z.out.ivW HB.out _ _ _ _ _ _⟩
 by_cases h13:op=13
 ·obtain rfl:=h13;have ho:Jl p 13 a b c da db e=doI 8 c da p e:=rfl;rw [ho];have D:=hid (Nw (op:=8) WK.out IC.out ID.out OC.out OD.out T.out p1 p2 OPS.out (DER.out 8 (by decide)));clear ho H9 H10 H13 H15 IT IA IB IE;obtain ⟨-,f0,f1,f2,f3,f4,f5⟩:=H11.out.facts;obtain ⟨-,g0,g1,g2,g3,g4,g5⟩:=H12.out.facts;go_wp2_with fail;refine D.out.mono ?_;rintro e' w3 ⟨kb,hwk,u,rfl,hv⟩;obtain ⟨P1,i1,q1,P2,i2,q2,rfl,z1,z2⟩:=Aq hv;have h14:=H14.out.kb kb N14;obtain ⟨-,r0,r1,r2,r3,r4,r5⟩:=h14.facts;obtain ⟨x0,x1,x2,x3,x4,x5⟩:=h14.free;have HB:=hid h14;have Z:=hid hv;have KK:=hid ((K.out.kb [bw]).trans kb (by intro y hy;exact .inl hy))
  have WW:=hid hwk;clear h14 hv z1 z2 kb hwk D f0 f1 f2 f3 f4 f5 g0 g1 g2 g3 g4 g5 T WK;simp only [];go_wp2_with fail;refine Fc (HB.out.laid _ _ _ _ _ _) rfl rfl rfl ⟨KK.out.trans ((KB.refl w3 [b14]).ivW HB.out (by simp) _ _ _ _ _ _) (by intro y hy;simp at hy;exact .inr (by omega)),(Cb _ _ _ _ _ _ _ _ _ (by omega)).trans WW.out,_,rfl,Z.out.ivW HB.out _ _ _ _ _ _⟩
 by_cases h8:op=8
 ·obtain rfl:=h8;obtain ⟨o1,ho1⟩:∃ o,o=doI 8 da b p e:=⟨_,rfl⟩;obtain ⟨o2,ho2⟩:∃ o,o=doI 8 a db p o1.k:=⟨_,rfl⟩;obtain ⟨o3,ho3⟩:∃ o,o=doI 6 o1.v o2.v p o2.k:=⟨_,rfl⟩;have ho:Jl p 8 a b c da db e=o3:=by rw [ho3,ho2,ho1];rfl
  have HO:=hid ho;have X1:=hid (show o1.v.Ok by rw [ho1];exact Ey OD.out OB.out p1 _);have X2:=hid (show o2.v.Ok by rw [ho2];exact Ey OA.out OE.out p1 _);have Y1:=hid ho1;have Y2:=hid ho2;have Y3:=hid ho3;clear ho ho1 ho2 ho3;have D:=hid (show Calls _ _ _ V (Zd bw p (Bp o1) V) by rw [Y1.out];exact Nw WK.out ID.out IB.out OD.out OB.out T.out p1 p2 OPS.out (DER.out 8 (by decide)));obtain ⟨-,f0,f1,f2,f3,f4,f5⟩:=H12.out.facts;obtain ⟨-,g0,g1,g2,g3,g4,g5⟩:=H10.out.facts;go_wp2_with fail;refine D.out.mono ?_;rintro e' w3 ⟨kb,hwk,u,rfl,hv⟩;obtain ⟨U1,i1,z1,U2,i2,z2,rfl,-,-⟩:=Aq hv
  simp only [];obtain ⟨u0,hu0⟩:∃ x,x=(Bp o1).v.lo.neg:=⟨_,rfl⟩;obtain ⟨u2,hu2⟩:∃ x,x=(Bp o1).v.lo.e:=⟨_,rfl⟩;obtain ⟨u3,hu3⟩:∃ x,x=(Bp o1).v.hi.neg:=⟨_,rfl⟩;obtain ⟨u5,hu5⟩:∃ x,x=(Bp o1).v.hi.e:=⟨_,rfl⟩;rw [←hu0,←hu2,←hu3,←hu5] at hv ⊢;clear hu0 hu2 hu3 hu5;obtain ⟨V2,hV,kV,B16,lV2⟩:=Acv w3 (.bool u0) (.slice U1 i1 z1) (.int .i64 u2) (.bool u3) (.slice U2 i2 z2) (.int .i64 u5);have k2:=kb.step kV;have l2:=kb.size;replace H9:=hid (H9.out.kb k2 N9);replace H13:=hid (H13.out.kb k2 N13);replace IA:=hid (IA.out.kb k2);replace IE:=hid (IE.out.kb k2);replace H14:=hid (H14.out.kb k2 N14);have H16:=hid B16
  have I16:=hid (show IvC V2 _ o1.v from hv.kept kV);replace WK:=hid (hwk.kept kV);replace T:=hid (T.out.kb k2 NG);have KK:=hid ((K.out.kb [bw]).trans k2 (by intro y hy;exact .inl hy));have M16:w3.heap.size∉[b14,bw]:=by have:=H14.out.facts.1;simp;omega
  go_upto_region 9 with fail;rw [←hV];clear hV kV k2 kb hwk hv B16 D f0 f1 f2 f3 f4 f5 g0 g1 g2 g3 g4 g5 IB ID IC IT H10 H11 H12 H15 N10 N11 N12 N15;generalize g16:w3.heap.size=b16 at *
  refine rK 8 (fun i=>i==5||i==6||i==7) ([b14,bw]) (fun L w=>OneJ b14 bw p o1.k o2.k o3.k o3.v.raw (L 5) (L 6) (L 7) w) ([(vP bw 0),(vE (.agg #[.bool u0,.slice U1 i1 z1,.int .i64 u2,.bool u3,.slice U2 i2 z2,.int .i64 u5])),(vP bw 0),(vE (.agg #[a0,a1,a2,a3,a4,a5])),(vE (.agg #[e0,e1,e2,e3,e4,e5])),(fun v wv=>IvR wv v o2.v.raw),(fun v wv=>IvR wv v o3.v.raw),(fun v _=>True)])
   (fun i hE L w w' kq fj=>by simp only [Hx hE 5,Hx hE 6,Hx hE 7];exact OneJ.kept kq fj) ((by exact ⟨⟨_,_,_,_,_,_,_,_,_,_,H14.out,fun h=>absurd h (by decide)⟩,WK.out,fun h=>absurd h (by decide)⟩)) (by exact ⟨
     (kq 0),(kql 16 fun _ k=>c6X H16.out k M16),(kq 0),(kql 9 fun _ k=>c6X H9.out k M9),(kql 13 fun _ k=>c6X H13.out k M13),(.inr fun LF aF wF F=>by have FK:=F.frame.1;have fj:=F.frame.2;have s37:=F.v 2 37;have s38:=F.v 3 38;have s39:=F.v 4 39;have fw:=(OneJ.parts fj).2.1;simp only [F.yet,Bool.false_eq_true,if_false] at fw;have DD:=Nw (op:=8) fw (IA.out.kb FK) (IE.out.kb FK) OA.out OE.out (T.out.kb FK MG) p1 p2 OPS.out (DER.out 8 (by decide));rw [←Y2.out] at DD;exact Es (by simp [Region.wanted]) (by go_simp) DD (fun e1 w1 he=>by obtain ⟨kb,hwk,u,rfl,hv⟩:=he;exact ⟨u,rfl,⟨⟨FK.trans kb (by simp),OneJ.first NE fj F.yet kb hwk⟩,(Bw _ ⟨vR,vR,vR,vR,vR,.inl rfl,.inr (fun u h=>by exact h.kb kb),.inr fun u h=>h,trivial⟩)⟩,hv⟩)),(.inr fun LF aF wF F=>by have FK:=F.frame.1;have fj:=F.frame.2;have s35:=F.v 0 35;have s36:=F.v 1 36;have s40:=F.p 5 40;have fw:=(OneJ.parts fj).2.1;have f5:=F.wait 5 (by kernel_rfl);simp only [F.yet,f5,Bool.false_eq_true,if_false,if_true] at fw;have DD:=Nw (op:=6) fw (I16.out.kb FK) s40 X1.out X2.out (T.out.kb FK MG) p1 p2 OPS.out (DER.out 6 (by decide));rw [←Y3.out] at DD;exact Es (by simp [Region.wanted]) (by go_simp) DD (fun e1 w1 he=>by obtain ⟨kb,hwk,u,rfl,hv⟩:=he;exact ⟨u,rfl,⟨⟨FK.trans kb (by simp),OneJ.second NE fj f5 kb hwk⟩,(Bw _ ⟨vR,vR,vR,vR,vR,.inr (fun u h=>by exact h.kb kb),.inl rfl,.inr fun u h=>h,trivial⟩)⟩,hv⟩)),(.inr fun LF aF wF F=>by have FK:=F.frame.1;have fj:=F.frame.2;have s14:=F.q 14 (.pointer (some ⟨b14,0,none⟩));have s41:=F.p 6 41;obtain ⟨P1,i1,k1,P2,i2,k2,ee,z1,z2⟩:=Aq s41;simp only [Array.getD_eq_getD_getElem?] at ee;obtain ⟨⟨_,_,_,_,_,_,_,_,_,_,hbb,-⟩,-,-⟩:=OneJ.parts fj;obtain ⟨-,q0,q1,q2,q3,q4,q5⟩:=hbb.facts;obtain ⟨g0,g1,g2,g3,g4,g5⟩:=hbb.free;exact By (w':=ivW wF b14 _ _ _ _ _ _) (by simp [Region.wanted]) (by go_simp;rfl) ⟨FK.ivW hbb (by simp) _ _ _ _ _ _,OneJ.laid NE fj (show IvR wF (.agg #[_,_,_,_,_,_]) o3.v.raw from ⟨_,_,_,_,_,_,rfl,z1,z2⟩)⟩ (Bw _ ⟨vR,vR,vR,vR,vR,.inr (fun u h=>by exact h.ivW hbb _ _ _ _ _ _),.inr (fun u h=>by exact h.ivW hbb _ _ _ _ _ _),.inl rfl,trivial⟩) trivial),
     trivial⟩) ?_
  intro u w1 L1 hL j1 hu;obtain ⟨k1,j1⟩:=j1;have p40:=hp hu 5;have p41:=hp hu 6;simp only [Ay,An,if_true,Act.put,zlA,zlB,zlC,zlD,zlE,zlF,zlG,hv hu 0,hv hu 1,hv hu 2,hv hu 3,hv hu 4];clear hu;generalize u 5=v40,u 6=v41 at *;have jj:OneJ b14 bw p o1.k o2.k o3.k o3.v.raw true true true w1:=by
   have jj:=j1;simp only [hL 5 (by decide),hL 6 (by decide),hL 7 (by decide)] at jj;exact jj
  obtain ⟨⟨_,_,_,_,_,_,_,_,_,_,hb14,hiv⟩,hwk⟩:=jj.done;have Z:=hid hiv;have WW:=hid hwk;have HB:=hid hb14;have KF:=hid (KK.out.trans k1 (by intro y hy;simp at hy;rcases hy with rfl | rfl;exact .inr (by omega);exact .inl (by simp)));clear j1 hL jj hiv hwk hb14 k1;go_simp;go_wp2_with fail;exact Fc HB.out rfl rfl rfl ⟨KF.out,by rw [HO.out];exact WW.out,_,rfl,by rw [HO.out];exact Z.out⟩
 by_cases h9':op=9
 ·obtain rfl:=h9';obtain ⟨o1,ho1⟩:∃ o,o=doI 8 c db p e:=⟨_,rfl⟩;obtain ⟨o2,ho2⟩:∃ o,o=doI 7 da o1.v p o1.k:=⟨_,rfl⟩;obtain ⟨o3,ho3⟩:∃ o,o=doI 9 o2.v b p o2.k:=⟨_,rfl⟩;have ho:Jl p 9 a b c da db e=o3:=by rw [ho3,ho2,ho1];rfl
  have HO:=hid ho;have X1:=hid (show o1.v.Ok by rw [ho1];exact Ey OC.out OE.out p1 _);have X2:=hid (show o2.v.Ok by rw [ho2];exact Ey OD.out X1.out p1 _);have Y1:=hid ho1;have Y2:=hid ho2;have Y3:=hid ho3;clear ho ho1 ho2 ho3;have D:=hid (show Calls _ _ _ V (Zd bw p (Bp o1) V) by rw [Y1.out];exact Nw WK.out IC.out IE.out OC.out OE.out T.out p1 p2 OPS.out (DER.out 8 (by decide)));obtain ⟨-,f0,f1,f2,f3,f4,f5⟩:=H11.out.facts;obtain ⟨-,g0,g1,g2,g3,g4,g5⟩:=H13.out.facts;go_wp2_with fail;refine D.out.mono ?_;rintro e' w3 ⟨kb,hwk,u,rfl,hv⟩;obtain ⟨U1,i1,z1,U2,i2,z2,rfl,-,-⟩:=Aq hv
  simp only [];obtain ⟨u0,hu0⟩:∃ x,x=(Bp o1).v.lo.neg:=⟨_,rfl⟩;obtain ⟨u2,hu2⟩:∃ x,x=(Bp o1).v.lo.e:=⟨_,rfl⟩;obtain ⟨u3,hu3⟩:∃ x,x=(Bp o1).v.hi.neg:=⟨_,rfl⟩;obtain ⟨u5,hu5⟩:∃ x,x=(Bp o1).v.hi.e:=⟨_,rfl⟩;rw [←hu0,←hu2,←hu3,←hu5] at hv ⊢;clear hu0 hu2 hu3 hu5;obtain ⟨V2,hV,kV,B16,lV2⟩:=Acv w3 (.bool u0) (.slice U1 i1 z1) (.int .i64 u2) (.bool u3) (.slice U2 i2 z2) (.int .i64 u5);have k2:=kb.step kV;have l2:=kb.size;replace H10:=hid (H10.out.kb k2 N10);replace H12:=hid (H12.out.kb k2 N12);replace IB:=hid (IB.out.kb k2);replace ID:=hid (ID.out.kb k2);replace H14:=hid (H14.out.kb k2 N14);have H16:=hid B16
  have I16:=hid (show IvC V2 _ o1.v from hv.kept kV);replace WK:=hid (hwk.kept kV);replace T:=hid (T.out.kb k2 NG);have KK:=hid ((K.out.kb [bw]).trans k2 (by intro y hy;exact .inl hy));have M16:w3.heap.size∉[b14,bw]:=by have:=H14.out.facts.1;simp;omega
  go_upto_region 12 with fail;rw [←hV];clear hV kV k2 kb hwk hv B16 D f0 f1 f2 f3 f4 f5 g0 g1 g2 g3 g4 g5 IA IE IC IT H9 H11 H13 H15 N9 N11 N13 N15;generalize g16:w3.heap.size=b16 at *
  refine rK 8 (fun i=>i==4||i==6||i==7) ([b14,bw]) (fun L w=>OneJ b14 bw p o1.k o2.k o3.k o3.v.raw (L 4) (L 6) (L 7) w) ([(vP bw 0),(vP bw 0),(vE (.agg #[d0,d1,d2,d3,d4,d5])),(vE (.agg #[.bool u0,.slice U1 i1 z1,.int .i64 u2,.bool u3,.slice U2 i2 z2,.int .i64 u5])),(fun v wv=>IvR wv v o2.v.raw),(vE (.agg #[b0,b1,b2,b3,b4,b5])),(fun v wv=>IvR wv v o3.v.raw),(fun v _=>True)])
   (fun i hE L w w' kq fj=>by simp only [Hx hE 4,Hx hE 6,Hx hE 7];exact OneJ.kept kq fj) ((by exact ⟨⟨_,_,_,_,_,_,_,_,_,_,H14.out,fun h=>absurd h (by decide)⟩,WK.out,fun h=>absurd h (by decide)⟩)) (by exact ⟨
     (kq 0),(kq 0),(kql 12 fun _ k=>c6X H12.out k M12),(kql 17 fun _ k=>c6X H16.out k M16),(.inr fun LF aF wF F=>by have FK:=F.frame.1;have fj:=F.frame.2;have s49:=F.v 1 49;have s50:=F.v 2 50;have s51:=F.v 3 51;have fw:=(OneJ.parts fj).2.1;simp only [F.yet,Bool.false_eq_true,if_false] at fw;have DD:=Nw (op:=7) fw (ID.out.kb FK) (I16.out.kb FK) OD.out X1.out (T.out.kb FK MG) p1 p2 OPS.out (DER.out 7 (by decide));rw [←Y2.out] at DD;exact Es (by simp [Region.wanted]) (by go_simp) DD (fun e1 w1 he=>by obtain ⟨kb,hwk,u,rfl,hv⟩:=he;exact ⟨u,rfl,⟨⟨FK.trans kb (by simp),OneJ.first NE fj F.yet kb hwk⟩,(Bw _ ⟨vR,vR,vR,vR,.inl rfl,vR,.inr (fun u h=>by exact h.kb kb),.inr fun u h=>h,trivial⟩)⟩,hv⟩)),(kql 10 fun _ k=>c6X H10.out k M10),(.inr fun LF aF wF F=>by have FK:=F.frame.1;have fj:=F.frame.2;have s48:=F.v 0 48;have s52:=F.p 4 52;have s53:=F.v 5 53;have fw:=(OneJ.parts fj).2.1;have f5:=F.wait 4 (by kernel_rfl);simp only [F.yet,f5,Bool.false_eq_true,if_false,if_true] at fw;have DD:=Nw (op:=9) fw s52 (IB.out.kb FK) X2.out OB.out (T.out.kb FK MG) p1 p2 OPS.out (DER.out 9 (by decide));rw [←Y3.out] at DD;exact Es (by simp [Region.wanted]) (by go_simp) DD (fun e1 w1 he=>by obtain ⟨kb,hwk,u,rfl,hv⟩:=he;exact ⟨u,rfl,⟨⟨FK.trans kb (by simp),OneJ.second NE fj f5 kb hwk⟩,(Bw _ ⟨vR,vR,vR,vR,.inr (fun u h=>by exact h.kb kb),vR,.inl rfl,.inr fun u h=>h,trivial⟩)⟩,hv⟩)),(.inr fun LF aF wF F=>by have FK:=F.frame.1;have fj:=F.frame.2;have s14:=F.q 14 (.pointer (some ⟨b14,0,none⟩));have s54:=F.p 6 54;obtain ⟨P1,i1,k1,P2,i2,k2,ee,z1,z2⟩:=Aq s54;simp only [Array.getD_eq_getD_getElem?] at ee;obtain ⟨⟨_,_,_,_,_,_,_,_,_,_,hbb,-⟩,-,-⟩:=OneJ.parts fj;obtain ⟨-,q0,q1,q2,q3,q4,q5⟩:=hbb.facts;obtain ⟨g0,g1,g2,g3,g4,g5⟩:=hbb.free;exact By (w':=ivW wF b14 _ _ _ _ _ _) (by simp [Region.wanted]) (by go_simp;rfl) ⟨FK.ivW hbb (by simp) _ _ _ _ _ _,OneJ.laid NE fj (show IvR wF (.agg #[_,_,_,_,_,_]) o3.v.raw from ⟨_,_,_,_,_,_,rfl,z1,z2⟩)⟩ (Bw _ ⟨vR,vR,vR,vR,.inr (fun u h=>by exact h.ivW hbb _ _ _ _ _ _),vR,.inr (fun u h=>by exact h.ivW hbb _ _ _ _ _ _),.inl rfl,trivial⟩) trivial),
     trivial⟩) ?_
  intro u w1 L1 hL j1 hu;obtain ⟨k1,j1⟩:=j1;have p52:=hp hu 4;have p54:=hp hu 6;simp only [Ay,An,if_true,Act.put,zlA,zlB,zlC,zlD,zlE,zlF,zlG,hv hu 0,hv hu 1,hv hu 2,hv hu 3,hv hu 5];clear hu;generalize u 4=v52,u 6=v54 at *;have jj:OneJ b14 bw p o1.k o2.k o3.k o3.v.raw true true true w1:=by
   have jj:=j1;simp only [hL 4 (by decide),hL 6 (by decide),hL 7 (by decide)] at jj;exact jj
  obtain ⟨⟨_,_,_,_,_,_,_,_,_,_,hb14,hiv⟩,hwk⟩:=jj.done;have Z:=hid hiv;have WW:=hid hwk;have HB:=hid hb14;have KF:=hid (KK.out.trans k1 (by intro y hy;simp at hy;rcases hy with rfl | rfl;exact .inr (by omega);exact .inl (by simp)));clear j1 hL jj hiv hwk hb14 k1;go_simp;go_wp2_with fail;exact Fc HB.out rfl rfl rfl ⟨KF.out,by rw [HO.out];exact WW.out,_,rfl,by rw [HO.out];exact Z.out⟩
 by_cases h11:op=11
 ·obtain rfl:=h11;obtain ⟨o2,ho2⟩:∃ o,o=doI 8 two a p e:=⟨_,rfl⟩;obtain ⟨o3,ho3⟩:∃ o,o=doI 8 o2.v da p o2.k:=⟨_,rfl⟩;have ho:Jl p 11 a b c da db e=o3:=by rw [ho3,ho2];rfl
  have HO:=hid ho;have X2:=hid (show o2.v.Ok by rw [ho2];exact Ey Pf OA.out p1 _);have Y2:=hid ho2;have Y3:=hid ho3;clear ho ho2 ho3;have KK:=hid (K.out.kb [bw]);go_upto_region 14 with fail
  refine rK 8 (fun i=>i==4||i==6||i==7) ([b14,bw]) (fun L w=>OneJ b14 bw p e o2.k o3.k o3.v.raw (L 4) (L 6) (L 7) w) ([(vP bw 0),(vP bw 0),(vE (.agg #[.bool t0,.slice T1 jt yt,.int .i64 t2,.bool t3,.slice T2 js ys,.int .i64 t5])),(vE (.agg #[a0,a1,a2,a3,a4,a5])),(fun v wv=>IvR wv v o2.v.raw),(vE (.agg #[d0,d1,d2,d3,d4,d5])),(fun v wv=>IvR wv v o3.v.raw),(fun v _=>True)])
   (fun i hE L w w' kq fj=>by simp only [Hx hE 4,Hx hE 6,Hx hE 7];exact OneJ.kept kq fj) ((by exact ⟨⟨_,_,_,_,_,_,_,_,_,_,H14.out,fun h=>absurd h (by decide)⟩,WK.out,fun h=>absurd h (by decide)⟩)) (by exact ⟨
     (kq 0),(kq 0),(kql 15 fun _ k=>c6X H15.out k M15),(kql 9 fun _ k=>c6X H9.out k M9),(.inr fun LF aF wF F=>by have FK:=F.frame.1;have fj:=F.frame.2;have s58:=F.v 1 58;have s59:=F.v 2 59;have s60:=F.v 3 60;have fw:=(OneJ.parts fj).2.1;simp only [F.yet,Bool.false_eq_true,if_false] at fw;have DD:=Nw (op:=8) fw (IT.out.kb FK) (IA.out.kb FK) Pf OA.out (T.out.kb FK MG) p1 p2 OPS.out (DER.out 8 (by decide));rw [←Y2.out] at DD;exact Es (by simp [Region.wanted]) (by go_simp) DD (fun e1 w1 he=>by obtain ⟨kb,hwk,u,rfl,hv⟩:=he;exact ⟨u,rfl,⟨⟨FK.trans kb (by simp),OneJ.first NE fj F.yet kb hwk⟩,(Bw _ ⟨vR,vR,vR,vR,.inl rfl,vR,.inr (fun u h=>by exact h.kb kb),.inr fun u h=>h,trivial⟩)⟩,hv⟩)),(kql 12 fun _ k=>c6X H12.out k M12),(.inr fun LF aF wF F=>by have FK:=F.frame.1;have fj:=F.frame.2;have s57:=F.v 0 57;have s61:=F.p 4 61;have s62:=F.v 5 62;have fw:=(OneJ.parts fj).2.1;have f5:=F.wait 4 (by kernel_rfl);simp only [F.yet,f5,Bool.false_eq_true,if_false,if_true] at fw;have DD:=Nw (op:=8) fw s61 (ID.out.kb FK) X2.out OD.out (T.out.kb FK MG) p1 p2 OPS.out (DER.out 8 (by decide));rw [←Y3.out] at DD;exact Es (by simp [Region.wanted]) (by go_simp) DD (fun e1 w1 he=>by obtain ⟨kb,hwk,u,rfl,hv⟩:=he;exact ⟨u,rfl,⟨⟨FK.trans kb (by simp),OneJ.second NE fj f5 kb hwk⟩,(Bw _ ⟨vR,vR,vR,vR,.inr (fun u h=>by exact h.kb kb),vR,.inl rfl,.inr fun u h=>h,trivial⟩)⟩,hv⟩)),(.inr fun LF aF wF F=>by have FK:=F.frame.1;have fj:=F.frame.2;have s14:=F.q 14 (.pointer (some ⟨b14,0,none⟩));have s63:=F.p 6 63;obtain ⟨P1,i1,k1,P2,i2,k2,ee,z1,z2⟩:=Aq s63;simp only [Array.getD_eq_getD_getElem?] at ee;obtain ⟨⟨_,_,_,_,_,_,_,_,_,_,hbb,-⟩,-,-⟩:=OneJ.parts fj;obtain ⟨-,q0,q1,q2,q3,q4,q5⟩:=hbb.facts;obtain ⟨g0,g1,g2,g3,g4,g5⟩:=hbb.free;exact By (w':=ivW wF b14 _ _ _ _ _ _) (by simp [Region.wanted]) (by go_simp;rfl) ⟨FK.ivW hbb (by simp) _ _ _ _ _ _,OneJ.laid NE fj (show IvR wF (.agg #[_,_,_,_,_,_]) o3.v.raw from ⟨_,_,_,_,_,_,rfl,z1,z2⟩)⟩ (Bw _ ⟨vR,vR,vR,vR,.inr (fun u h=>by exact h.ivW hbb _ _ _ _ _ _),vR,.inr (fun u h=>by exact h.ivW hbb _ _ _ _ _ _),.inl rfl,trivial⟩) trivial),
     trivial⟩) ?_
  intro u w1 L1 hL j1 hu;obtain ⟨k1,j1⟩:=j1;have p61:=hp hu 4;have p63:=hp hu 6;simp only [Ay,An,if_true,Act.put,zlA,zlB,zlC,zlD,zlE,zlF,zlG,hv hu 0,hv hu 1,hv hu 2,hv hu 3,hv hu 5];clear hu;generalize u 4=v61,u 6=v63 at *;have jj:OneJ b14 bw p e o2.k o3.k o3.v.raw true true true w1:=by
   have jj:=j1;simp only [hL 4 (by decide),hL 6 (by decide),hL 7 (by decide)] at jj;exact jj
  obtain ⟨⟨_,_,_,_,_,_,_,_,_,_,hb14,hiv⟩,hwk⟩:=jj.done;have Z:=hid hiv;have WW:=hid hwk;have HB:=hid hb14;have KF:=hid (KK.out.trans k1 (by intro y hy;simp at hy;rcases hy with rfl | rfl;exact .inr (by omega);exact .inl (by simp)));clear j1 hL jj hiv hwk hb14 k1;go_simp;go_wp2_with fail;exact Fc HB.out rfl rfl rfl ⟨KF.out,by rw [HO.out];exact WW.out,_,rfl,by rw [HO.out];exact Z.out⟩
 by_cases h12:op=12
 ·obtain rfl:=h12;obtain ⟨o2,ho2⟩:∃ o,o=doI 8 two c p e:=⟨_,rfl⟩;obtain ⟨o3,ho3⟩:∃ o,o=doI 9 da o2.v p o2.k:=⟨_,rfl⟩;have ho:Jl p 12 a b c da db e=o3:=by rw [ho3,ho2];rfl
  have HO:=hid ho;have X2:=hid (show o2.v.Ok by rw [ho2];exact Ey Pf OC.out p1 _);have Y2:=hid ho2;have Y3:=hid ho3;clear ho ho2 ho3;have KK:=hid (K.out.kb [bw]);go_upto_region 16 with fail
  refine rK 8 (fun i=>i==5||i==6||i==7) ([b14,bw]) (fun L w=>OneJ b14 bw p e o2.k o3.k o3.v.raw (L 5) (L 6) (L 7) w) ([(vP bw 0),(vE (.agg #[d0,d1,d2,d3,d4,d5])),(vP bw 0),(vE (.agg #[.bool t0,.slice T1 jt yt,.int .i64 t2,.bool t3,.slice T2 js ys,.int .i64 t5])),(vE (.agg #[c0,c1,c2,c3,c4,c5])),(fun v wv=>IvR wv v o2.v.raw),(fun v wv=>IvR wv v o3.v.raw),(fun v _=>True)])
   (fun i hE L w w' kq fj=>by simp only [Hx hE 5,Hx hE 6,Hx hE 7];exact OneJ.kept kq fj) ((by exact ⟨⟨_,_,_,_,_,_,_,_,_,_,H14.out,fun h=>absurd h (by decide)⟩,WK.out,fun h=>absurd h (by decide)⟩)) (by exact ⟨
     (kq 0),(kql 12 fun _ k=>c6X H12.out k M12),(kq 0),(kql 15 fun _ k=>c6X H15.out k M15),(kql 11 fun _ k=>c6X H11.out k M11),(.inr fun LF aF wF F=>by have FK:=F.frame.1;have fj:=F.frame.2;have s68:=F.v 2 68;have s69:=F.v 3 69;have s70:=F.v 4 70;have fw:=(OneJ.parts fj).2.1;simp only [F.yet,Bool.false_eq_true,if_false] at fw;have DD:=Nw (op:=8) fw (IT.out.kb FK) (IC.out.kb FK) Pf OC.out (T.out.kb FK MG) p1 p2 OPS.out (DER.out 8 (by decide));rw [←Y2.out] at DD;exact Es (by simp [Region.wanted]) (by go_simp) DD (fun e1 w1 he=>by obtain ⟨kb,hwk,u,rfl,hv⟩:=he;exact ⟨u,rfl,⟨⟨FK.trans kb (by simp),OneJ.first NE fj F.yet kb hwk⟩,(Bw _ ⟨vR,vR,vR,vR,vR,.inl rfl,.inr (fun u h=>by exact h.kb kb),.inr fun u h=>h,trivial⟩)⟩,hv⟩)),(.inr fun LF aF wF F=>by have FK:=F.frame.1;have fj:=F.frame.2;have s66:=F.v 0 66;have s67:=F.v 1 67;have s71:=F.p 5 71;have fw:=(OneJ.parts fj).2.1;have f5:=F.wait 5 (by kernel_rfl);simp only [F.yet,f5,Bool.false_eq_true,if_false,if_true] at fw;have DD:=Nw (op:=9) fw (ID.out.kb FK) s71 OD.out X2.out (T.out.kb FK MG) p1 p2 OPS.out (DER.out 9 (by decide));rw [←Y3.out] at DD;exact Es (by simp [Region.wanted]) (by go_simp) DD (fun e1 w1 he=>by obtain ⟨kb,hwk,u,rfl,hv⟩:=he;exact ⟨u,rfl,⟨⟨FK.trans kb (by simp),OneJ.second NE fj f5 kb hwk⟩,(Bw _ ⟨vR,vR,vR,vR,vR,.inr (fun u h=>by exact h.kb kb),.inl rfl,.inr fun u h=>h,trivial⟩)⟩,hv⟩)),(.inr fun LF aF wF F=>by have FK:=F.frame.1;have fj:=F.frame.2;have s14:=F.q 14 (.pointer (some ⟨b14,0,none⟩));have s72:=F.p 6 72;obtain ⟨P1,i1,k1,P2,i2,k2,ee,z1,z2⟩:=Aq s72;simp only [Array.getD_eq_getD_getElem?] at ee;obtain ⟨⟨_,_,_,_,_,_,_,_,_,_,hbb,-⟩,-,-⟩:=OneJ.parts fj;obtain ⟨-,q0,q1,q2,q3,q4,q5⟩:=hbb.facts;obtain ⟨g0,g1,g2,g3,g4,g5⟩:=hbb.free;exact By (w':=ivW wF b14 _ _ _ _ _ _) (by simp [Region.wanted]) (by go_simp;rfl) ⟨FK.ivW hbb (by simp) _ _ _ _ _ _,OneJ.laid NE fj (show IvR wF (.agg #[_,_,_,_,_,_]) o3.v.raw from ⟨_,_,_,_,_,_,rfl,z1,z2⟩)⟩ (Bw _ ⟨vR,vR,vR,vR,vR,.inr (fun u h=>by exact h.ivW hbb _ _ _ _ _ _),.inr (fun u h=>by exact h.ivW hbb _ _ _ _ _ _),.inl rfl,trivial⟩) trivial),
     trivial⟩) ?_
  intro u w1 L1 hL j1 hu;obtain ⟨k1,j1⟩:=j1;have p71:=hp hu 5;have p72:=hp hu 6;simp only [Ay,An,if_true,Act.put,zlA,zlB,zlC,zlD,zlE,zlF,zlG,hv hu 0,hv hu 1,hv hu 2,hv hu 3,hv hu 4];clear hu;generalize u 5=v71,u 6=v72 at *;have jj:OneJ b14 bw p e o2.k o3.k o3.v.raw true true true w1:=by
   have jj:=j1;simp only [hL 5 (by decide),hL 6 (by decide),hL 7 (by decide)] at jj;exact jj
  obtain ⟨⟨_,_,_,_,_,_,_,_,_,_,hb14,hiv⟩,hwk⟩:=jj.done;have Z:=hid hiv;have WW:=hid hwk;have HB:=hid hb14;have KF:=hid (KK.out.trans k1 (by intro y hy;simp at hy;rcases hy with rfl | rfl;exact .inr (by omega);exact .inl (by simp)));clear j1 hL jj hiv hwk hb14 k1;go_simp;go_wp2_with fail;exact Fc HB.out rfl rfl rfl ⟨KF.out,by rw [HO.out];exact WW.out,_,rfl,by rw [HO.out];exact Z.out⟩
 have ho:Jl p op a b c da db e=⟨iz,e⟩:=by unfold Jl;rw [if_neg h67,if_neg h8,if_neg h9',if_neg h11,if_neg h12,if_neg h13]
 have HO:=hid ho;have g6':(op==6)=false:=by simp;intro h;exact h67 (.inl h)
 have g7':(op==7)=false:=by simp;intro h;exact h67 (.inr (.inl h))
 have g8':(op==8)=false:=by simp [h8]
 have g9':(op==9)=false:=by simp [h9']
 have g10':(op==10)=false:=by simp;intro h;exact h67 (.inr (.inr h))
 have g11':(op==11)=false:=by simp [h11]
 have g12':(op==12)=false:=by simp [h12]
 have g13':(op==13)=false:=by simp [h13]
 clear ho h67 h8 h9' h11 h12 h13 IA IB IC ID IE IT T H9 H10 H11 H12 H13 H15;obtain ⟨-,r0,r1,r2,r3,r4,r5⟩:=H14.out.facts;obtain ⟨x0,x1,x2,x3,x4,x5⟩:=H14.out.free;go_wp2_with fail;refine Fc (H14.out.laid _ _ _ _ _ _) rfl rfl rfl ⟨(K.out.kb [bw]).trans ((KB.refl V [b14]).ivW H14.out (by simp) _ _ _ _ _ _) (by intro y hy;simp at hy;exact .inr (by omega)),?_,_,rfl,?_⟩
 ·rw [HO.out];exact (Cb _ _ _ _ _ _ _ _ _ (by omega)).trans WK.out
 ·rw [HO.out];exact (show IvR _ _ iz.raw by rw [Mg];exact Ed _)
end Go.Proofs.YtabjjdicffcolaaGreatDoor
