/- Words and contracts, part 17. -/
import Derived.Test.YtinbgjcooolbiaaGreatDoorClaimAsksp16
set_option maxRecDepth 100000
set_option maxHeartbeats 0
namespace Go.Proofs.YtinbgjcooolbiaaGreatDoor
open Go.Lib (hid)
open Go.RowKit
def Tx (T:TypeId) (b:Bool) (k:Int):Ending:=match b with | true=>.returned (.tuple #[]) | false=>.panicked (Cd T k)
theorem G0 (b:Bool)(k:Int)(w:World):Calls Tryz.prog 133 #[.bool b,.int .i64 k] w fun e w'=>e=Tx 114 b k∧w=w':=by
 cases b
 ·exact Xb k w
 ·exact Zx k w
theorem Blk.drewN {w:World}{b:Nat}{x y z:Value}(h:Blk w b x y z)(n:Nat):Blk (w.drewN n) b x y z:=h
theorem DyR.shape {w:World}{v:Value}{r:Raw}(h:DyR w v r) :
 ∃ A l c,v=.agg #[.bool r.neg,.slice A l c,.int .i64 r.e]∧l=r.m.length∧Lim w (.slice A l c) r.m∧-9223372036854775808≤r.e∧r.e≤9223372036854775807:=by
 obtain ⟨s,rfl,hs,h1,h2⟩:=h;obtain ⟨_,A,c,rfl,_⟩:=id hs;exact ⟨A,_,c,rfl,rfl,hs,h1,h2⟩
theorem Lim.shape {w:World}{v:Value}{xs:List Nat}(h:Lim w v xs):∃ A l c,v=.slice A l c∧l=xs.length∧Lim w (.slice A l c) xs:=by
 obtain ⟨_,A,c,rfl,_⟩:=id h;exact ⟨A,_,c,rfl,rfl,h⟩
theorem Lim.dyR {w:World}{A:Option Addr}{l c:Nat}{r:Raw}(h:Lim w (.slice A l c) r.m)(h1:-9223372036854775808≤r.e)(h2:r.e≤9223372036854775807) :
 DyR w (.agg #[.bool r.neg,.slice A l c,.int .i64 r.e]) r:=⟨_,rfl,h,h1,h2⟩
def Outc.raw (o:Outc Dy):Outc Raw:=⟨o.v.raw,o.k⟩
theorem Cp:dz.raw=rz:=by simp [dz,Dy.raw,rz,limbs_zero]
theorem Ru (n:Nat)(h:n≠0):tz n<64*(limbs n).length:=by
 refine Rv n _ h ?_;have:=lt_pow_length n;rw [Nat.pow_mul];exact this
theorem Wp {w:World}{A:Option Addr}{c:Nat}{neg:Bool}{e:Int} :
 Calls Tryz.prog 106 #[.bool neg,.slice A 0 c,.int .i64 e] w (Goes 114 ⟨rz,0⟩ w):=by
 obtain ⟨_,c0,c1,c2,f0,f1,f2⟩:=(blk_new w (.bool false) (.slice none 0 0) (.int .i64 0)).facts;go_enter Tryz.func106,Tryz.ntmps106;go_wp2_with fail;refine Bt (blk_new _ _ _ _) rfl rfl rfl ⟨Ad _ _,.inl ⟨rfl,_,rfl,_,rfl,Lim.nil _ _ _,by decide,by decide⟩⟩
theorem Wo {w:World}{v:Value}{n:Nat}{neg:Bool}{e:Int}(hv:Lim w v (limbs n))(hl:(limbs n).length≤90000)(e1:-9223372036854775808≤e)(e2:e≤9223372036854775807)(hT:Tab w) :
 Calls Tryz.prog 106 #[.bool neg,v,.int .i64 e] w (Goes 114 (Ci neg n e).raw w):=by
 obtain ⟨A,l,c,rfl,hll,hv⟩:=hv.shape;by_cases h0:n=0
 ·subst h0;rw [limbs_zero] at hll;simp only [List.length_nil] at hll;subst hll;have:(Ci neg 0 e).raw=⟨rz,0⟩:=by simp [Ci,Outc.raw,good,Cp]
  rw [this];exact Wp
 ·have hz:=fun w1 (k:Kept w w1)=>Uh      (hv.kept k) (by omega) h0 (hT.kept k)
  have hzb:=Ru n h0;have hr:=fun w1 (k:Kept w w1)=>L9 (hv.kept k) (tz n) (by omega) (by omega)
  have hl0:=length_limbs_pos n h0;have hzb2:tz n≤6400000:=by omega
  rw [←hll] at hl0;have HZ:=hid hz;have HR:=hid hr;unfold Ci;rw [if_neg h0];clear hz hr hv hzb hll hl hT h0;have hraw:(good (⟨neg,n/2^tz n,e+tz n⟩:Dy)).raw=⟨⟨neg,limbs (n/2^tz n),e+tz n⟩,0⟩:=rfl;have hb2:(bad 2).raw=⟨rz,2⟩:=by rw [bad,Outc.raw,Cp]
  have hb3:(bad 3).raw=⟨rz,3⟩:=by rw [bad,Outc.raw,Cp]
  have HW:=hid hraw;have HB2:=hid hb2;have HB3:=hid hb3;clear hraw hb2 hb3;generalize limbs (n/2^tz n)=xs at *;generalize n/2^tz n=n' at *;generalize tz n=z at *;obtain ⟨q,hq⟩:∃ q,xs.length=q:=⟨_,rfl⟩;rw [hq];by_cases h1:64<q
  ·rw [if_pos h1,HB2.out];have h1':decide ((q:Int)≤64)=false:=by simp;omega
   clear h1;go_enter Tryz.func106,Tryz.ntmps106
   go_wp2_with (first
    | (go_at_call 120;refine (HZ.out _ (Ad _ _)).mono ?_;rintro e w1 ⟨rfl,qz,rfl⟩)
    | (go_at_call 119;refine (HR.out _ (Kept.drewN (Ad _ _) _)).mono ?_;rintro e w1 ⟨u,rfl,hu,qk⟩;obtain ⟨A',l',c',rfl,hl',hu⟩:=hu.shape;rw [hq] at hl';cases hl';have HU:=hid hu;clear hu;have b0:=((blk_new _ _ _ _).drewN _).kept qk;obtain ⟨_,c0,c1,c2,f0,f1,f2⟩:=b0.facts)
    | (go_at_call 133;refine (G0 _ _ _).mono ?_;rintro e w1 ⟨he,rfl⟩;first | (obtain rfl:e=.returned (.tuple #[]):=he) | (obtain rfl:e=.panicked (Cd 114 _):=he)))
   exact ⟨rfl,(Kept.drewN (Ad _ _) _).trans qk,.inr ⟨by decide,rfl⟩⟩
  ·rw [if_neg h1];have h1':decide ((q:Int)≤64)=true:=by simp;omega
   clear h1;by_cases h2:1048576<e
   ·rw [if_pos (Or.inl h2),HB3.out];have h2':decide (e≤1048576)=false:=by simp;omega
    clear h2;go_enter Tryz.func106,Tryz.ntmps106
    go_wp2_with (first
     | (go_at_call 120;refine (HZ.out _ (Ad _ _)).mono ?_;rintro e w1 ⟨rfl,qz,rfl⟩)
     | (go_at_call 119;refine (HR.out _ (Kept.drewN (Ad _ _) _)).mono ?_;rintro e w1 ⟨u,rfl,hu,qk⟩;obtain ⟨A',l',c',rfl,hl',hu⟩:=hu.shape;rw [hq] at hl';cases hl';have HU:=hid hu;clear hu;have b0:=((blk_new _ _ _ _).drewN _).kept qk;obtain ⟨_,c0,c1,c2,f0,f1,f2⟩:=b0.facts)
     | (go_at_call 133;refine (G0 _ _ _).mono ?_;rintro e w1 ⟨he,rfl⟩;first | (obtain rfl:e=.returned (.tuple #[]):=he) | (obtain rfl:e=.panicked (Cd 114 _):=he)))
    exact ⟨rfl,(Kept.drewN (Ad _ _) _).trans qk,.inr ⟨by decide,rfl⟩⟩
   ·have h2':decide (e≤1048576)=true:=by simp;omega
    by_cases h3:e < -1048576-(z:Int)
    ·rw [if_pos (Or.inr h3),HB3.out];have h3':decide (-1048576-(z:Int)≤e)=false:=by simp;omega
     clear h2 h3;go_enter Tryz.func106,Tryz.ntmps106
     go_wp2_with (first
      | (go_at_call 120;refine (HZ.out _ (Ad _ _)).mono ?_;rintro e w1 ⟨rfl,qz,rfl⟩)
      | (go_at_call 119;refine (HR.out _ (Kept.drewN (Ad _ _) _)).mono ?_;rintro e w1 ⟨u,rfl,hu,qk⟩;obtain ⟨A',l',c',rfl,hl',hu⟩:=hu.shape;rw [hq] at hl';cases hl';have HU:=hid hu;clear hu;have b0:=((blk_new _ _ _ _).drewN _).kept qk;obtain ⟨_,c0,c1,c2,f0,f1,f2⟩:=b0.facts)
      | (go_at_call 133;refine (G0 _ _ _).mono ?_;rintro e w1 ⟨he,rfl⟩;first | (obtain rfl:e=.returned (.tuple #[]):=he) | (obtain rfl:e=.panicked (Cd 114 _):=he)))
     exact ⟨rfl,(Kept.drewN (Ad _ _) _).trans qk,.inr ⟨by decide,rfl⟩⟩
    ·have h3':decide (-1048576-(z:Int)≤e)=true:=by simp;omega
     rw [if_neg (by omega)];have hez1:-9223372036854775808≤e+(z:Int):=by omega
     have hez2:e+(z:Int)≤9223372036854775807:=by omega
     by_cases h4:1048576<e+(z:Int)
     ·rw [if_pos h4,HB3.out];have h4':decide (e+(z:Int)≤1048576)=false:=by simp;omega
      clear h4;go_enter Tryz.func106,Tryz.ntmps106
      go_wp2_with (first
       | (go_at_call 120;refine (HZ.out _ (Ad _ _)).mono ?_;rintro e w1 ⟨rfl,qz,rfl⟩)
       | (go_at_call 119;refine (HR.out _ (Kept.drewN (Ad _ _) _)).mono ?_;rintro e w1 ⟨u,rfl,hu,qk⟩;obtain ⟨A',l',c',rfl,hl',hu⟩:=hu.shape;rw [hq] at hl';cases hl';have HU:=hid hu;clear hu;have b0:=((blk_new _ _ _ _).drewN _).kept qk;obtain ⟨_,c0,c1,c2,f0,f1,f2⟩:=b0.facts)
       | (go_at_call 133;refine (G0 _ _ _).mono ?_;rintro e w1 ⟨he,rfl⟩;first | (obtain rfl:e=.returned (.tuple #[]):=he) | (obtain rfl:e=.panicked (Cd 114 _):=he)))
      exact ⟨rfl,(Kept.drewN (Ad _ _) _).trans qk,.inr ⟨by decide,rfl⟩⟩
     ·rw [if_neg h4,HW.out];have h4':decide (e+(z:Int)≤1048576)=true:=by simp;omega
      clear h4;go_enter Tryz.func106,Tryz.ntmps106
      go_wp2_with (first
       | (go_at_call 120;refine (HZ.out _ (Ad _ _)).mono ?_;rintro e w1 ⟨rfl,qz,rfl⟩)
       | (go_at_call 119;refine (HR.out _ (Kept.drewN (Ad _ _) _)).mono ?_;rintro e w1 ⟨u,rfl,hu,qk⟩;obtain ⟨A',l',c',rfl,hl',hu⟩:=hu.shape;rw [hq] at hl';cases hl';have HU:=hid hu;clear hu;have b0:=((blk_new _ _ _ _).drewN _).kept qk;obtain ⟨_,c0,c1,c2,f0,f1,f2⟩:=b0.facts)
       | (go_at_call 133;refine (G0 _ _ _).mono ?_;rintro e w1 ⟨he,rfl⟩;first | (obtain rfl:e=.returned (.tuple #[]):=he) | (obtain rfl:e=.panicked (Cd 114 _):=he)))
      refine Bt (Blk.laid b0 _ _ _) rfl rfl rfl ⟨Al ((Kept.drewN (Ad _ _) _).trans qk) (Nat.le_refl _),.inl ⟨rfl,_,rfl,(HU.out.dyW b0 (Ah _) (Af _ _ _) (Ai _)).dyR (r:=⟨neg,xs,e+z⟩) hez1 hez2⟩⟩
theorem Goes.of {T:TypeId}{o:Outc Raw}{w w1 w':World}{e:Ending}(h:Goes T o w1 e w')(k:Kept w w1):Goes T o w e w':=⟨k.trans h.1,h.2⟩
theorem Aby {w:World}{v:Value}{n:Nat}{neg:Bool}{e:Int}{b0 b1 b2:Nat}(hv:Lim w v (limbs n))(hl:(limbs n).length≤90000)(e1:-9223372036854775808≤e)(e2:e≤9223372036854775807)(hT:Tab w)
 (c0:w.cell? ⟨b0,0,none⟩=some (.bool neg)) (c1:w.cell? ⟨b1,0,none⟩=some v) (c2:w.cell? ⟨b2,0,none⟩=some (.int .i64 e)) :
 Calls Tryz.prog 110 #[.pointer (some ⟨b0,0,none⟩),.pointer (some ⟨b1,0,none⟩),.pointer (some ⟨b2,0,none⟩)] w (Goes 114 (Ci neg n e).raw w):=by
 have hf:=fun w1 (k:Kept w w1)=>Wo (neg:=neg) (hv.kept k) hl e1 e2 (hT.kept k)
 have l0:=Bh c0;have l1:=Bh c1;have l2:=Bh c2;simp only at l0 l1 l2;have HF:=hid hf;obtain ⟨A,l,c,rfl,hll,hv⟩:=hv.shape;clear hf hv hll hl hT;generalize Ci neg n e=o at *;go_enter Tryz.func110,Tryz.ntmps110;go_wp2_with fail;refine (HF.out _ (Ad _ _)).mono ?_;rintro e w1 ⟨qk,⟨h0,u,rfl,hd⟩ | ⟨h0,rfl⟩⟩
 ·obtain ⟨A',l',c',rfl,-,hd,g1,g2⟩:=hd.shape;have b0:=(blk_new _ _ _ _).kept qk;obtain ⟨_,c0,c1,c2,f0,f1,f2⟩:=b0.facts;have HD:=hid hd;clear hd;simp only [];go_wp2_with fail;exact Bt (Blk.laid b0 _ _ _) rfl rfl rfl ⟨Al ((Ad _ _).trans qk) (Nat.le_refl _),.inl ⟨h0,_,rfl,(HD.out.dyW b0 (Ah _) (Af _ _ _) (Ai _)).dyR g1 g2⟩⟩
 ·exact ⟨rfl,(Ad _ _).trans qk,.inr ⟨h0,rfl⟩⟩
theorem Xf (w:World)(x:Value)(T:TypeId):(w.alloc (.cells #[x] T)).cell? ⟨w.heap.size,0,none⟩=some x:=Ae (heap_alloc_new _ _) 0 _ rfl
theorem Acb (w:World)(o:Obj)(x:Value)(T:TypeId):((w.alloc o).alloc (.cells #[x] T)).cell? ⟨w.heap.size+1,0,none⟩=some x:=by
 have:=Xf (w.alloc o) x T;simp only [World.size_alloc] at this;exact this
theorem Z8 (w:World)(o o':Obj)(x:Value)(T:TypeId):(((w.alloc o).alloc o').alloc (.cells #[x] T)).cell? ⟨w.heap.size+1+1,0,none⟩=some x:=by
 have:=Xf ((w.alloc o).alloc o') x T;simp only [World.size_alloc] at this;exact this
theorem Mj (w:World)(o o' o'':Obj)(x y z:Value):Blk ((((w.alloc o).alloc o').alloc o'').alloc (.cells #[x,y,z] 24)) (w.heap.size+1+1+1) x y z:=by
 have:=blk_new (((w.alloc o).alloc o').alloc o'') x y z;simp only [World.size_alloc] at this;exact this
theorem Ak {w w1:World}{b:Nat}{x:Value}(k:Kept w w1)(h:w.cell? ⟨b,0,none⟩=some x):w1.cell? ⟨b,0,none⟩=some x:=(k.cell (p:=⟨b,0,none⟩) (Bh h)).trans h
theorem Wn (neg:Bool)(n:Nat)(e:Int):(Ci neg n e).raw.k≠0→(Ci neg n e).raw.v=rz:=by
 intro h;rw [Outc.raw] at h ⊢;rw [(Hu neg n e).2 h,Cp]
theorem Vp {w:World}{v:Value}{n:Nat}{neg:Bool}{e:Int}(hv:Lim w v (limbs n))(hl:(limbs n).length≤90000)(e1:-9223372036854775808≤e)(e2:e≤9223372036854775807)(hT:Tab w) :
 Calls Tryz.prog 64 #[.bool neg,v,.int .i64 e] w (RetE (Ci neg n e).raw w):=by
 have hmf:=Fw;have hf:=fun (W:World) (k:Kept w W) (H:Nat) (c0:W.cell? ⟨H,0,none⟩=some (.bool neg)) (c1:W.cell? ⟨H+1,0,none⟩=some v) (c2:W.cell? ⟨H+1+1,0,none⟩=some (.int .i64 e)) =>
  Wk (w:=W) (K:=110) (cap:=#[.pointer (some ⟨H,0,none⟩),.pointer (some ⟨H+1,0,none⟩),.pointer (some ⟨H+1+1,0,none⟩)])
   (fun W1 k1=>Aby (neg:=neg) (hv.kept (k.trans k1)) hl e1 e2 (hT.kept (k.trans k1)) (Ak k1 c0) (Ak k1 c1) (Ak k1 c2)) (Wn neg n e) (fun _=>rfl)
 have HF:=hid hf;obtain ⟨A,l,c,rfl,hll,hv⟩:=hv.shape;clear hf hv hll hl hT;generalize Ci neg n e=o at *;go_enter Tryz.func64,Tryz.ntmps64;go_wp2_with fail;refine (HF.out _ ?k _ ?c0 ?c1 ?c2).mono ?m
 case k=>exact (((Ad _ _).trans (Ad _ _)).trans (Ad _ _)).trans (Ad _ _)
 case c0=>exact Ak (Ad _ _) (Ak (Ad _ _) (Ak (Ad _ _) (Xf _ _ _)))
 case c1=>exact Ak (Ad _ _) (Ak (Ad _ _) (Acb _ _ _ _))
 case c2=>exact Ak (Ad _ _) (Z8 _ _ _ _ _)
 case m =>
  rintro e w1 ⟨qk,u,rfl,hd⟩;obtain ⟨A',l',c',rfl,-,hd,g1,g2⟩:=hd.shape;have b0:=(Mj _ _ _ _ _ _ _).kept qk;obtain ⟨_,c0,c1,c2,f0,f1,f2⟩:=b0.facts;have HD:=hid hd;clear hd;simp only [];go_wp2_with fail;exact Bx (Blk.laid b0 _ _ _) rfl rfl rfl ⟨Al (((((Ad _ _).trans (Ad _ _)).trans (Ad _ _)).trans (Ad _ _)).trans qk) (by omega),_,rfl,(HD.out.dyW b0 (Ah _) (Af _ _ _) (Ai _)).dyR g1 g2⟩
theorem Zo (w:World)(o:Obj)(k:Nat)(hk:k<18446744073709551616):Lim ((w.alloc o).alloc (.cells #[.int .u64 k] 40)) (.slice (some ⟨w.heap.size+1,0,none⟩) 1 1) [k]:=by
 refine ⟨fun x hx=>by simp at hx;omega,_,1,rfl,Nat.le_refl _,fun _=>⟨_,_,rfl,by simp,fun i hi=>?_⟩⟩;have:i=0:=by simp at hi;exact hi
 subst this;exact Acb w o (.int .u64 k) 40
theorem Qw {w:World}{o:Obj}{k:Nat}(hk:k<18446744073709551616) :
 Calls Tryz.prog 65 #[.slice (some ⟨w.heap.size+1,0,none⟩) 1 1] ((w.alloc o).alloc (.cells #[.int .u64 k] 40)) (RetLim (limbs k) ((w.alloc o).alloc (.cells #[.int .u64 k] 40))):=by
 have h:=Z9 (Zo w o k hk) (by simp);have e:val [k]=k:=by simp [val]
 rwa [e] at h
theorem Lq (k:Nat)(hk:k<18446744073709551616):(limbs k).length≤90000:=by
 have:=Cj k 1 (by simpa using hk);omega
theorem Abg {w:World}{k:Nat}{e:Int}(hk:k<9223372036854775808)(e1:-9223372036854775808≤e)(e2:e≤9223372036854775807)(hT:Tab w) :
 Calls Tryz.prog 22 #[.int .i64 k,.int .i64 e] w (RetE (Ci false k e).raw w):=by
 have hw:IntKind.u64.wrap (k:Int)=k:=by simp [IntKind.wrap_u64];omega
 have hf:=fun W v (k1:Kept w W) (hv:Lim W v (limbs k))=>Vp (neg:=false) hv (Lq k (by omega)) e1 e2 (hT.kept k1)
 have hlt:decide ((k:Int)<0)=false:=by simp
 have HK:=hid hk;have HF:=hid hf;clear hk hf hT e1 e2;generalize Ci false k e=o at *;go_enter Tryz.func22,Tryz.ntmps22
 go_wp2_with (first
  | (go_at_call 65;refine (Qw (by have:=HK.out;omega)).mono ?_;rintro e w1 ⟨u,rfl,hu,qk⟩;have HU:=hid hu;clear hu)
  | (go_at_call 64;refine (HF.out _ _ (((Ad _ _).trans (Ad _ _)).trans qk) HU.out).mono ?_;rintro e w2 ⟨qk2,u,rfl,hd⟩;obtain ⟨A',l',c',rfl,-,hd,g1,g2⟩:=hd.shape;have b0:=((Aw (blk_new _ _ _ _) _).kept qk).kept qk2;obtain ⟨_,c0,c1,c2,f0,f1,f2⟩:=b0.facts;have HD:=hid hd;clear hd))
 exact Bx (Blk.laid b0 _ _ _) rfl rfl rfl ⟨Al ((((Ad _ _).trans (Ad _ _)).trans qk).trans qk2) (Nat.le_refl _),_,rfl,(HD.out.dyW b0 (Ah _) (Af _ _ _) (Ai _)).dyR g1 g2⟩
theorem Abf {w:World}{k:Nat}{e:Int}(hk:k<9223372036854775808)(h0:0<k)(e1:-9223372036854775808≤e)(e2:e≤9223372036854775807)(hT:Tab w) :
 Calls Tryz.prog 22 #[.int .i64 (-k),.int .i64 e] w (RetE (Ci true k e).raw w):=by
 obtain ⟨c,hc⟩:∃ c:Nat,c=18446744073709551616-k:=⟨_,rfl⟩;have hw:IntKind.u64.wrap (-(k:Int))=c:=by simp [IntKind.wrap_u64];omega
 have hw2:IntKind.u64.wrap (-(c:Int))=k:=by simp [IntKind.wrap_u64];omega
 have hf:=fun W v (k1:Kept w W) (hv:Lim W v (limbs k))=>Vp (neg:=true) hv (Lq k (by omega)) e1 e2 (hT.kept k1)
 have hlt:decide (-(k:Int)<0)=true:=by simp;omega
 have hlt2:decide (0<k)=true:=by simp;omega
 have HK:=hid hk;have HF:=hid hf;clear hk hf hT e1 e2 hc;generalize Ci true k e=o at *;go_enter Tryz.func22,Tryz.ntmps22
 go_wp2_with (first
  | (go_at_call 65;refine (Qw (by have:=HK.out;omega)).mono ?_;rintro e w1 ⟨u,rfl,hu,qk⟩;have HU:=hid hu;clear hu)
  | (go_at_call 64;refine (HF.out _ _ (((Ad _ _).trans (Ad _ _)).trans qk) HU.out).mono ?_;rintro e w2 ⟨qk2,u,rfl,hd⟩;obtain ⟨A',l',c',rfl,-,hd,g1,g2⟩:=hd.shape;have b0:=((Aw (blk_new _ _ _ _) _).kept qk).kept qk2;obtain ⟨_,c0,c1,c2,f0,f1,f2⟩:=b0.facts;have HD:=hid hd;clear hd))
 exact Bx (Blk.laid b0 _ _ _) rfl rfl rfl ⟨Al ((((Ad _ _).trans (Ad _ _)).trans qk).trans qk2) (Nat.le_refl _),_,rfl,(HD.out.dyW b0 (Ah _) (Af _ _ _) (Ai _)).dyR g1 g2⟩
def Lg (a b:Raw) (o:Outc Raw):Outc Raw:=if Em a&&Em b then o else ⟨rz,1⟩
theorem Aco {w:World}{va vb:Value}{a b:Raw}{o:Outc Raw}{K b0 b1 b2:Nat}(ha:DyR w va a)(hb:DyR w vb b)(la:a.m.length≤17592186044416)(lb:b.m.length≤17592186044416)
 (h:∀ W,Kept w W→Em a=true→Em b=true→Calls Tryz.prog K #[va,vb] W (Goes 114 o W))
 (hk:∀ w,(callFunc K #[va,vb]).run Tryz.prog w=.ok (.enter K #[va,vb]) w)
 (h0:∃ x y z,va=.agg #[x,y,z]∧Blk w b0 x y z) (h1:∃ x y z,vb=.agg #[x,y,z]∧Blk w b1 x y z) (h2:w.cell? ⟨b2,0,none⟩=some (.func (.func K) #[] #[])) :
 Calls Tryz.prog 132 #[.pointer (some ⟨b0,0,none⟩),.pointer (some ⟨b1,0,none⟩),.pointer (some ⟨b2,0,none⟩)] w (Goes 114 (Lg a b o) w):=by
 have hma:=fun w1 (k:Kept w w1)=>Jj (ha.kept k) la
 have hmb:=fun w1 (k:Kept w w1)=>Jj (hb.kept k) lb
 obtain ⟨x,y,z,rfl,h0⟩:=h0;obtain ⟨x',y',z',rfl,h1⟩:=h1;unfold Lg;clear ha hb la lb;have HA:=hid hma;have HB:=hid hmb;have HH:=hid h;have HK:=hid hk;have H0:=hid h0;have H1:=hid h1;have H2:=hid h2;obtain ⟨l0,c0,c1,c2,-⟩:=h0.facts;obtain ⟨l1,d0,d1,d2,-⟩:=h1.facts;have l2:=Bh h2;simp only at l2;clear hma hmb h hk h0 h1;cases hba:Em a
 ·rw [if_neg (by simp)];rw [hba] at HA;go_enter Tryz.func132,Tryz.ntmps132
  go_wp2_with (first
   | (go_at_call 66;refine (HA.out _ (Ad _ _)).mono ?_;rintro e w1 ⟨rfl,qk⟩)
   | (go_at_call 133;refine (G0 _ _ _).mono ?_;rintro e w1 ⟨he,rfl⟩;first | (obtain rfl:e=.returned (.tuple #[]):=he) | (obtain rfl:e=.panicked (Cd 114 _):=he)))
  exact ⟨rfl,(Ad _ _).trans qk,.inr ⟨by decide,rfl⟩⟩
 ·rw [hba] at HA;cases hbb:Em b
  ·rw [if_neg (by simp)];rw [hbb] at HB;go_enter Tryz.func132,Tryz.ntmps132;go_wp2_with fail;refine (HA.out _ (Ad _ _)).mono ?_;rintro e w1 ⟨rfl,qk⟩;obtain ⟨-,d0,d1,d2,-⟩:=(H1.out.kept ((Ad _ _).trans qk)).facts;simp only [];go_wp2_with fail;refine (HB.out _ ((Ad _ _).trans qk)).mono ?_;rintro e w2 ⟨rfl,qk2⟩;simp only [];go_wp2_with fail;refine (G0 _ _ _).mono ?_;rintro e w3 ⟨he,rfl⟩;obtain rfl:e=.panicked (Cd 114 _):=he;exact ⟨rfl,((Ad _ _).trans qk).trans qk2,.inr ⟨by decide,rfl⟩⟩
  ·rw [if_pos (by simp)];rw [hbb] at HB;go_enter Tryz.func132,Tryz.ntmps132;go_wp2_with fail;refine (HA.out _ (Ad _ _)).mono ?_;rintro e w1 ⟨rfl,qk⟩;obtain ⟨-,d0,d1,d2,-⟩:=(H1.out.kept ((Ad _ _).trans qk)).facts;simp only [];go_wp2_with fail;refine (HB.out _ ((Ad _ _).trans qk)).mono ?_;rintro e w2 ⟨rfl,qk2⟩;clear d0 d1 d2 c0 c1 c2;have k2:=((Ad w _).trans qk).trans qk2;obtain ⟨-,d0,d1,d2,-⟩:=(H1.out.kept k2).facts;obtain ⟨-,c0,c1,c2,-⟩:=(H0.out.kept k2).facts;have cf:=Ak k2 H2.out;simp only []
   go_wp2_with (go_at_call 133;refine (G0 _ _ _).mono ?_;rintro e w3 ⟨he,rfl⟩;obtain rfl:e=.returned (.tuple #[]):=he;have hk:=HK.out)
   refine (HH.out _ k2 hba hbb).mono ?_;rintro e w3 ⟨q3,⟨g0,u,rfl,hd⟩ | ⟨g0,rfl⟩⟩
   ·obtain ⟨A',l',c',rfl,-,hd,g1,g2⟩:=hd.shape;have r0:=(((blk_new _ _ _ _).kept qk).kept qk2).kept q3;clear d0 d1 d2 c0 c1 c2;obtain ⟨_,c0,c1,c2,f0,f1,f2⟩:=r0.facts;have HD:=hid hd;clear hd;simp only [];go_wp2_with fail;exact Bt (Blk.laid r0 _ _ _) rfl rfl rfl ⟨Al (k2.trans q3) (Nat.le_refl _),.inl ⟨g0,_,rfl,(HD.out.dyW r0 (Ah _) (Af _ _ _) (Ai _)).dyR g1 g2⟩⟩
   ·exact ⟨rfl,k2.trans q3,.inr ⟨g0,rfl⟩⟩
theorem Yo {a b:Raw}{o:Outc Raw}(hz:o.k≠0→o.v=rz):(Lg a b o).k≠0→(Lg a b o).v=rz:=by
 unfold Lg;split
 ·exact hz
 ·intro _;rfl
theorem Yp {w:World}{va vb:Value}{a b:Raw}{o:Outc Raw}{K:Nat}(ha:DyR w va a)(hb:DyR w vb b)(la:a.m.length≤17592186044416)(lb:b.m.length≤17592186044416)
 (h:∀ W,Kept w W→Em a=true→Em b=true→Calls Tryz.prog K #[va,vb] W (Goes 114 o W)) (hz:o.k≠0→o.v=rz)
 (hk:∀ w,(callFunc K #[va,vb]).run Tryz.prog w=.ok (.enter K #[va,vb]) w) :
 Calls Tryz.prog 98 #[va,vb,.func (.func K) #[] #[]] w (RetE (Lg a b o) w):=by
 have hmf:=Fw;have hf:=fun (W:World) (k:Kept w W) (H:Nat) (c0:∃ x y z,va=.agg #[x,y,z]∧Blk W H x y z) (c1:∃ x y z,vb=.agg #[x,y,z]∧Blk W (H+1) x y z) (c2:W.cell? ⟨H+1+1,0,none⟩=some (.func (.func K) #[] #[])) =>
  Wk (w:=W) (K:=132) (cap:=#[.pointer (some ⟨H,0,none⟩),.pointer (some ⟨H+1,0,none⟩),.pointer (some ⟨H+1+1,0,none⟩)])
   (fun W1 k1=>Aco (ha.kept (k.trans k1)) (hb.kept (k.trans k1)) la lb (fun W2 k2=>h W2 ((k.trans k1).trans k2)) hk (by obtain ⟨x,y,z,e,h⟩:=c0;exact ⟨x,y,z,e,h.kept k1⟩) (by obtain ⟨x,y,z,e,h⟩:=c1;exact ⟨x,y,z,e,h.kept k1⟩) (Ak k1 c2))
   (Yo hz) (fun _=>rfl)
 have HF:=hid hf;clear hf h hk hz la lb;generalize Lg a b o=o' at *;obtain ⟨A,l,c,rfl,-,-,-,-⟩:=ha.shape;obtain ⟨A2,l2,c2,rfl,-,-,-,-⟩:=hb.shape;clear ha hb;generalize a.neg=n1 at *;generalize a.e=e1 at *;generalize b.neg=n2 at *;generalize b.e=e2 at *;go_enter Tryz.func98,Tryz.ntmps98;go_wp2_with fail;refine (HF.out _ ?k _ ?c0 ?c1 ?c2).mono ?m
 case k=>exact (((Ad _ _).trans (Ad _ _)).trans (Ad _ _)).trans (Ad _ _)
 case c0=>exact ⟨_,_,_,rfl,Aw (Aw (Aw (blk_new _ _ _ _) _) _) _⟩
 case c1=>exact ⟨_,_,_,rfl,Aw (Aw (Db _ _ _ _ _) _) _⟩
 case c2=>exact Ak (Ad _ _) (Z8 _ _ _ _ _)
 case m =>
  rintro e w1 ⟨qk,u,rfl,hd⟩;obtain ⟨A',l',c',rfl,-,hd,g1,g2⟩:=hd.shape;have b0:=(Mj _ _ _ _ _ _ _).kept qk;obtain ⟨_,c0,c1,c2,f0,f1,f2⟩:=b0.facts;have HD:=hid hd;clear hd;simp only [];go_wp2_with fail;exact Bx (Blk.laid b0 _ _ _) rfl rfl rfl ⟨Al (((((Ad _ _).trans (Ad _ _)).trans (Ad _ _)).trans (Ad _ _)).trans qk) (by omega),_,rfl,(HD.out.dyW b0 (Ah _) (Af _ _ _) (Ai _)).dyR g1 g2⟩
end Go.Proofs.YtinbgjcooolbiaaGreatDoor
