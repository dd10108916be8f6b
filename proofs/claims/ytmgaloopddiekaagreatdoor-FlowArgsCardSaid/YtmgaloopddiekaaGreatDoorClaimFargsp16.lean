/- Words and contracts, part 16. -/
import Derived.Test.YtmgaloopddiekaaGreatDoorClaimFargsp15
import Derived.Deep.RegionHeld2
set_option maxRecDepth 100000
set_option maxHeartbeats 0
namespace Go.Proofs.YtmgaloopddiekaaGreatDoor
open Go.Lib (hid)
open Go.RowKit
structure KX (W:World) (b:Nat) (w':World):Prop where
 os:w'.os=W.os
 tape:w'.tape=W.tape
 output:w'.output=W.output
 size:W.heap.size≤w'.heap.size
 block:∀ k,k<W.heap.size→k≠b→w'.heap[k]?=W.heap[k]?
 blk:∃ x y z,Blk w' b x y z∧Bv x∧Bv y∧Bv z
theorem KX.start {W:World}{b:Nat}{x y z:Value}(h:Blk W b x y z)(hx:Bv x)(hy:Bv y)(hz:Bv z):KX W b W.drew :=
 ⟨rfl,rfl,rfl,Nat.le_refl _,fun _ _ _=>rfl,x,y,z,h,hx,hy,hz⟩
theorem KX.step {W w' w1:World}{b:Nat}(h:KX W b w')(k:Kept w' w1):KX W b w1:=by
 refine ⟨k.os.trans h.os,k.tape.trans h.tape,k.output.trans h.output,Nat.le_trans h.size k.size,fun i hi hb=>(k.block i (Nat.lt_of_lt_of_le hi h.size)).trans (h.block i hi hb),?_⟩;obtain ⟨x,y,z,hb,h1,h2,h3⟩:=h.blk;exact ⟨x,y,z,hb.kept k,h1,h2,h3⟩
theorem KX.store {W w':World}{b:Nat}{x y z:Value}(h:KX W b w')(hx:Bv x)(hy:Bv y)(hz:Bv z):KX W b (dyW w' b x y z):=by
 refine ⟨h.os,h.tape,h.output,by simpa [dyW,World.setCell] using h.size,fun i hi hb=>?_,?_⟩
 ·unfold dyW;rw [Below.heap_setCell _ _ _ _ hb,Below.heap_setCell _ _ _ _ hb,Below.heap_setCell _ _ _ _ hb];exact h.block i hi hb
 ·obtain ⟨x',y',z',hb,_⟩:=h.blk;exact ⟨x,y,z,hb.laid _ _ _,hx,hy,hz⟩
theorem KX.other {W w':World}{b b':Nat}{x y z:Value}(k:KX W b w')(h:Blk W b' x y z)(hne:¬b'=b):Blk w' b' x y z :=
 (k.block b' (Array.getElem?_eq_some_iff.1 h).1 hne).trans h
theorem KX.lim {W w':World}{b:Nat}{s x y z:Value}{xs:List Nat}(k:KX W b w')(h0:Blk W b x y z)(hx:Bv x)(hy:Bv y)(hz:Bv z)(h:Lim W s xs):Lim w' s xs:=by
 obtain ⟨hsm,A,c,rfl,hc,hA⟩:=h;refine ⟨hsm,A,c,rfl,hc,fun hp=>?_⟩;obtain ⟨b1,off,rfl,hb,hcell⟩:=hA hp;have n2:¬b1=b:=by
  rintro rfl;have h5:=hcell 0 hp;simp only [World.cell?,show W.heap[b1]?=_ from h0] at h5;rcases off with _ | _ | _ | off
  ·simp at h5;exact hx _ h5
  ·simp at h5;exact hy _ h5
  ·simp at h5;exact hz _ h5
  ·simp at h5
 refine ⟨b1,off,rfl,Nat.lt_of_lt_of_le hb k.size,fun i hi=>?_⟩;rw [←hcell i hi];exact World.cell?_of_block (k.block b1 hb n2)
theorem KX.kept {w W w':World}{b:Nat}(k:KX W b w')(h:Kept w W)(hb:w.heap.size≤b):Kept w w' :=
 ⟨k.os.trans h.os,k.tape.trans h.tape,k.output.trans h.output,Nat.le_trans h.size k.size,fun i hi=>(k.block i (Nat.lt_of_lt_of_le hi h.size) (by omega)).trans (h.block i hi)⟩
theorem Ie (w:World)(x y z x' y' z':Value):∃ W,W=((w.alloc (.cells #[x,y,z] 30)).alloc (.cells #[x',y',z'] 30)).alloc (.cells #[.bool false,.slice none 0 0,.int .i64 0] 30) ∧
 Kept w W∧Blk W w.heap.size x y z∧Blk W (w.heap.size+1) x' y' z'∧Blk W (w.heap.size+1+1) (.bool false) (.slice none 0 0) (.int .i64 0) :=
 ⟨_,rfl,((Ad _ _).trans (Ad _ _)).trans (Ad _ _),Bn (Bn (blk_new _ _ _ _) _) _,Bn (C8 _ _ _ _ _) _,Aba _ _ _ _ _ _⟩
theorem Aji {W w':World}{b b0 b1:Nat}{x y z x' y' z':Value}(k:KX W b w')(h0:Blk W b0 x y z)(h1:Blk W b1 x' y' z')(n0:¬b0=b)(n1:¬b1=b) :
 KX W b w'∧w'.cell? ⟨b0,0,none⟩=some x∧w'.cell? ⟨b0,1,none⟩=some y∧w'.cell? ⟨b0,2,none⟩=some z∧w'.cell? ⟨b1,0,none⟩=some x'∧w'.cell? ⟨b1,1,none⟩=some y'∧w'.cell? ⟨b1,2,none⟩=some z':=by
 obtain ⟨_,a0,a1,a2,_⟩:=(k.other h0 n0).facts;obtain ⟨_,c0,c1,c2,_⟩:=(k.other h1 n1).facts;exact ⟨k,a0,a1,a2,c0,c1,c2⟩
theorem Qs (n m k l:Nat)(hn:(limbs n).length≤k)(hm:(limbs m).length≤l):(limbs (n*m)).length≤k+l:=by
 refine Dw _ _ ?_;have h1:=Ci n;have h2:=Ci m;have h3:n<18446744073709551616^k:=Nat.lt_of_lt_of_le h1 (Nat.pow_le_pow_right (by decide) hn);have h4:m<18446744073709551616^l:=Nat.lt_of_lt_of_le h2 (Nat.pow_le_pow_right (by decide) hm);rw [Nat.pow_add];exact Nat.mul_lt_mul'' h3 h4
theorem Ah7 {w:World}{va vb:Value}{x y:Dy}(ha:DyR w va x.raw)(hb:DyR w vb y.raw)(hx:x.Ok)(hy:y.Ok)(hT:Tab w) :
 Calls Tryz.prog 154 #[va,vb] w (Goes 155 (D7 x y).raw w):=by
 obtain ⟨A,l,c,rfl,hl,ha,-,-⟩:=ha.shape;obtain ⟨A2,l2,c2,rfl,hl2,hb,-,-⟩:=hb.shape;have lx:=hx.len;have ly:=hy.len;have hm:=fun W (ha:Lim W (.slice A l c) (limbs x.m)) (hb:Lim W (.slice A2 l2 c2) (limbs y.m))=>Agt ha hb (by omega) (by omega)
 have hlen:=Qs x.m y.m 64 64 lx ly;have x1:=hx.lo;have x2:=hx.hi;have y1:=hy.lo;have y2:=hy.hi;have hf:=fun W v (k:Kept w W) (hv:Lim W v (limbs (x.m*y.m)))=>Abv (neg:=(x.neg != y.neg)) (e:=x.e+y.e) hv (by omega) (by omega) (by omega) (hT.kept k)
 unfold D7;have HM:=hid hm;have HF:=hid hf;have LA:=hid ha;have LB:=hid hb;clear hm hf hT ha hb lx ly hlen hx hy hl hl2;generalize Cr (x.neg != y.neg) (x.m*y.m) (x.e+y.e)=o at *;obtain ⟨nb,hnb⟩:∃ nb,(x.neg != y.neg)=nb:=⟨_,rfl⟩;rw [hnb] at HF;have hnb1:((!x.neg)==y.neg)=nb:=by rw [←hnb];cases x.neg<;>cases y.neg<;>rfl
 have hnb2:(!(x.neg==y.neg))=nb:=by rw [←hnb];cases x.neg<;>cases y.neg<;>rfl
 obtain ⟨es,hes⟩:∃ es,x.e+y.e=es:=⟨_,rfl⟩;rw [hes] at HF;have hws:IntKind.i64.wrap (x.e+y.e)=es:=by rw [←hes];simp [IntKind.wrap_i64];omega
 clear hnb hes x1 x2 y1 y2;generalize limbs (x.m*y.m)=xs at *;simp only [Dy.raw] at *;generalize x.neg=n1 at *;generalize x.e=e1 at *;generalize y.neg=n2 at *;generalize y.e=e2 at *;obtain ⟨W,hW,kW,B0,B1,B2⟩:=Ie w (.bool n1) (.slice A l c) (.int .i64 e1) (.bool n2) (.slice A2 l2 c2) (.int .i64 e2);have hS:=fun w' (k:KX W (w.heap.size+1+1) w')=>Aji k B0 B1 (by omega) (by omega)
 have HS:=hid hS;have HW:=hid hW;have HK:=hid kW;have HB:=hid B2;clear hS hW kW B0 B1 B2;have hla:=fun w' (k:KX W (w.heap.size+1+1) w')=>k.lim HB.out (An _) (Ak _ _ _) (Aq _) (LA.out.kept HK.out)
 have hlb:=fun w' (k:KX W (w.heap.size+1+1) w')=>k.lim HB.out (An _) (Ak _ _ _) (Aq _) (LB.out.kept HK.out)
 have hkk:=fun w' (k:KX W (w.heap.size+1+1) w')=>k.kept HK.out (by omega)
 have HLA:=hid hla;have HLB:=hid hlb;have HKK:=hid hkk;clear hla hlb hkk;go_enter Tryz.func154,Tryz.ntmps154;go_wp2_with fail;rw [←HW.out]
 go_region_held2 (fun w'=>KX W (w.heap.size+1+1) w'∧w'.cell? ⟨w.heap.size,0,none⟩=some (.bool n1)∧w'.cell? ⟨w.heap.size,1,none⟩=some (.slice A l c)∧w'.cell? ⟨w.heap.size,2,none⟩=some (.int .i64 e1) ∧
  w'.cell? ⟨w.heap.size+1,0,none⟩=some (.bool n2)∧w'.cell? ⟨w.heap.size+1,1,none⟩=some (.slice A2 l2 c2)∧w'.cell? ⟨w.heap.size+1,2,none⟩=some (.int .i64 e2))
  (first | exact HS.out _ (KX.start HB.out (An _) (Ak _ _ _) (Aq _)) | exact HS.out _ (KX.step ‹KX _ _ _∧_›.1 qk) | exact HS.out _ (KX.store ‹KX _ _ _∧_›.1 (An _) (Ak _ _ _) (Aq _)))
  (first
  | (go_at_call 155;go_must (refine (HM.out _ (HLA.out _ ‹KX _ _ _∧_›.1) (HLB.out _ ‹KX _ _ _∧_›.1)).mono ?_;rintro e w1 ⟨u,rfl,hu,qk⟩;have HU:=hid hu;clear hu))
  | (go_at_call 104;go_must (refine (HF.out _ _ (HKK.out _ ‹KX _ _ _∧_›.1) HU.out).mono ?_;clear qk;rintro e w2 ⟨qk,⟨ho,u,rfl,hd⟩ | ⟨ho,rfl⟩⟩;rotate_left;exact ⟨rfl,HKK.out _ (KX.step ‹KX _ _ _∧_›.1 qk),.inr ⟨ho,rfl⟩⟩;have HO:=hid ho;clear ho;obtain ⟨_,_,_,hb2,j0,j1,j2⟩:=(KX.step ‹KX _ _ _∧_›.1 qk).blk;obtain ⟨_,c0,c1,c2,f0,f1,f2⟩:=hb2.facts;have HB2:=hid hb2;clear hb2;obtain ⟨A',l',c',rfl,-,hd,g1,g2⟩:=hd.shape;have HD:=hid hd;clear hd)))
 go_wp2_with fail;exact Co (Blk.laid HB2.out _ _ _) rfl rfl rfl ⟨HKK.out _ ‹KX _ _ _∧_›.1,.inl ⟨HO.out,_,rfl,(HD.out.dyW HB2.out j0 j1 j2).dyR g1 g2⟩⟩
end Go.Proofs.YtmgaloopddiekaaGreatDoor
