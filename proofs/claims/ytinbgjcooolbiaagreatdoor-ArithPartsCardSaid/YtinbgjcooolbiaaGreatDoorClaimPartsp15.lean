/- Words and contracts, part 15. -/
import Derived.Test.YtinbgjcooolbiaaGreatDoorClaimPartsp13
import Derived.Test.YtinbgjcooolbiaaGreatDoorClaimPartsp14
import Derived.Deep.LoopGhost
set_option maxRecDepth 100000
set_option maxHeartbeats 0
namespace Go.Proofs.YtinbgjcooolbiaaGreatDoor
open Go.Lib (hid)
open Go.RowKit
theorem C7 {a b:Nat}(h:a≤b):(limbs a).length≤(limbs b).length:=Cd a _ (Nat.lt_of_le_of_lt h (lt_pow_length b))
theorem Kl (a b k:Nat)(ha:(limbs a).length≤k)(hb:(limbs b).length≤k):(limbs (a+b)).length≤k+1:=by
 refine Cd _ _ ?_;have c:∀ x,(limbs x).length≤k→x<18446744073709551616^k:=fun x hx=>Nat.lt_of_lt_of_le (lt_pow_length x) (Nat.pow_le_pow_right (by decide) hx)
 have d:=c a ha;have e:=c b hb;rw [Nat.pow_succ];omega
theorem Yw {w:World}{v:Value}{n:Nat}(hv:Lim w v (limbs n))(hl:(limbs n).length≤20000) :
 Calls Tryz.prog 86 #[v] w (RetLim (limbs (isq n)) w):=by
 by_cases h0:n=0
 ·subst h0;rw [limbs_zero] at *;have e:isq 0=0:=rfl;rw [e,limbs_zero];obtain ⟨hs,A,c,rfl,hc,hA⟩:=hv;clear hs hA hc hl;refine Calls.mono (R:=fun e w'=>e=.returned (.slice none 0 0)∧w=w') ?_ (fun e w' ⟨he,hw⟩=>by subst hw;exact ⟨_,he,Lim.nil _ _ _,Below.refl _ _⟩);have e0:(((([]:List Nat).length:Nat):Int)==0)=true:=rfl;go_enter Tryz.func86,Tryz.ntmps86;go_wp2_with fail;go_ret;exact ⟨rfl,rfl⟩
 ·have hv':=hv;obtain ⟨hs,A,c,rfl,hc,hA⟩:=hv;have hp:=length_limbs_pos n h0;have hk0:Kept w (w.alloc (.cells #[.int .u64 1] 40)):=(Below.refl _ _).alloc (Nat.le_refl _) _;have hsz:=Ip (hv'.kept hk0) (by omega);have hone:Lim (w.alloc (.cells #[.int .u64 1] 40)) (.slice (some ⟨w.heap.size,0,none⟩) 1 1) [1]:=lim_one (by omega) (by simp) (by simp [go_sem]) 1 (Nat.le_refl _);rw [←limbs_one 1 (by decide) (by decide)] at hone;have hblb:bl n≤64*(limbs n).length:=by
   have a:=L4 n h0;have b:=Jz _ (Cl n ((limbs n).length-1));omega
  have HV:=hid hv';have HSZ:=hid hsz;have HONE:=hid hone;have HK0:=hid hk0;clear hs hA hv' hsz hone hk0;have HISQ:Hid (isq n=Lg n (2^((bl n+1)/2)) (2^((bl n+1)/2))):=by show isq n=_;unfold isq;rw [if_neg h0]
  generalize hll:(limbs n).length=l at *;have HL:=hid hll;clear hll;have e0:(((l:Nat):Int)==0)=false:=by rw [beq_eq_false_iff_ne];omega
  have hbl2:(bl n+1)/2≤32*l+1:=by omega
  have HX0:Hid ((limbs (2^((bl n+1)/2))).length≤l+1):=by
   refine Cd _ _ ?_;have e:(18446744073709551616:Nat)=2^64:=by decide
   rw [e,←Nat.pow_mul];exact Nat.pow_lt_pow_right (by decide) (by omega)
  have hdiv:((bl n:Int)+1)/2=(((bl n+1)/2:Nat):Int):=by omega
  have hpos:0<2^((bl n+1)/2):=Nat.pow_pos (by decide);have HPOS:=hid hpos;generalize (bl n+1)/2=h at *;generalize bl n=bn at *;clear hpos;go_enter Tryz.func86,Tryz.ntmps86
  go_wp2_with (go_at_call 75;refine HSZ.out.mono ?_;rintro e w1 ⟨rfl,q1,rfl⟩)
  go_wp2_with fail;refine (Ig (m:=1) (by exact HONE.out) h (by rw [limbs_one 1 (by decide) (by decide)];simp) (by omega)).mono ?_;rintro e w1 ⟨vx,rfl,hvx,hk1⟩;rw [Nat.one_mul] at hvx;have HVX:=hid hvx;have HK1:Hid (Kept w w1):=HK0.out.trans hk1.ofDrewN;clear hvx hk1;go_wp2_with fail
  go_loopg [3] (2^h) (fun f vx wr=>∃ x,Lim wr vx (limbs x)∧0<x∧x≤f∧Lg n f x=isq n∧(limbs x).length≤l+1∧Kept w wr)
  case atStart=>exact ⟨2^h,HVX.out,HPOS.out,Nat.le_refl _,HISQ.out.symm,HX0.out,HK1.out⟩
  case round =>
   obtain ⟨x,hlx,hx0,hxf,hsp,hlen,hk⟩:=hrel;have HLX:=hid hlx;have HSP:=hid hsp;have HLEN:=hid hlen;have HK:=hid hk;clear hlx hsp hlen hk HVX HK1 HX0 HPOS HISQ;have HQL:Hid ((limbs (n/x)).length≤l):=by
    have:=C7 (Nat.div_le_self n x);rw [HL.out] at this;exact this
   go_wp2_with fail;refine (Qx (HV.out.kept HK.out) HLX.out (by rw [HL.out];omega) (by have:=HLEN.out;omega) (by omega)).mono ?_;rintro e w2 ⟨vq,vr,rfl,hvq,_,hk2⟩;have HVQ:=hid hvq;have HK2:=hid hk2;clear hvq hk2;go_wp2_with fail;refine (So (HLX.out.kept HK2.out) HVQ.out (by have:=HLEN.out;omega) (by have:=HQL.out;omega)).mono ?_;rintro e w3 ⟨vp,rfl,hvp,hk3⟩;have HVP:=hid hvp;have HK3:=hid hk3;clear hvp hk3;have HPL:=hid (Kl x (n/x) (l+1) HLEN.out (Nat.le_trans HQL.out (by omega)));go_wp2_with fail;refine (Lw (n:=1) HVP.out (by have:=HPL.out;omega) (by omega)).mono ?_
   rintro e w4 ⟨vy,rfl,hvy,hk4⟩;rw [Nat.pow_one] at hvy;have HVY:=hid hvy;have HK4:=hid hk4;have HXW:=hid (((HLX.out.kept HK2.out).kept HK3.out).kept hk4);have HYL:Hid ((limbs ((x+n/x)/2)).length≤l+2):=Nat.le_trans (C7 (Nat.div_le_self _ _)) HPL.out;have HKW:=hid (((HK.out.trans HK2.out).trans HK3.out).trans hk4);clear hvy hk4;have hord:=Hx HVY.out HXW.out (by have:=HYL.out;omega) (by have:=HLEN.out;omega);have HO:=hid hord;clear hord;by_cases hd:x≤(x+n/x)/2
   ·have hge:decide ((0:Int)≤Bp ((x+n/x)/2) x)=true:=by
     unfold Bp;rw [if_neg (by omega)];split<;>simp
    have HFIN:Hid (x=isq n):=by
     have:=HSP.out;obtain ⟨f,rfl⟩:∃ f,gk=f+1:=⟨gk-1,by omega⟩;unfold Lg at this;rwa [if_pos hd] at this
    clear hd;generalize Bp ((x+n/x)/2) x=cc at *
    go_wp2_with (go_at_call 87;refine HO.out.mono ?_;rintro e w5 ⟨rfl,q5,rfl⟩)
    go_ret;exact ⟨_,rfl,by rw [←HFIN.out];exact HXW.out,HKW.out.drewN _⟩
   ·have hlt:decide ((0:Int)≤Bp ((x+n/x)/2) x)=false:=by
     unfold Bp;rw [if_pos (by omega)];simp
    have HNXT:Hid (Lg n (gk-1) ((x+n/x)/2)=isq n):=by
     have:=HSP.out;obtain ⟨f,rfl⟩:∃ f,gk=f+1:=⟨gk-1,by omega⟩;unfold Lg at this;rwa [if_neg hd] at this
    have HYP:=hid (Rk n x hx0 (Nat.pos_of_ne_zero h0));have HLT:Hid ((x+n/x)/2<x):=Nat.lt_of_not_le hd;clear hd;generalize Bp ((x+n/x)/2) x=cc at *;generalize (x+n/x)/2=y at *
    go_wp2_with (go_at_call 87;refine HO.out.mono ?_;rintro e w5 ⟨rfl,q5,rfl⟩)
    go_roundg (gk-1)
    case measure=>omega
    case rel=>exact ⟨y,HVY.out,HYP.out,by have:=HLT.out;omega,HNXT.out,Nat.le_trans (C7 (Nat.le_of_lt HLT.out)) HLEN.out,HKW.out.drewN _⟩
def DyR (w:World) (v:Value) (r:Raw):Prop:=∃ s,v=.agg #[.bool r.neg,s,.int .i64 r.e]∧Lim w s r.m∧-9223372036854775808≤r.e∧r.e≤9223372036854775807
theorem DyR.kept {w w':World}{v:Value}{r:Raw}(h:DyR w v r)(k:Kept w w'):DyR w' v r:=by
 obtain ⟨s,rfl,hs,h1,h2⟩:=h;exact ⟨s,rfl,hs.kept k,h1,h2⟩
theorem DyR.drewN {w:World}{v:Value}{r:Raw}(h:DyR w v r)(n:Nat):DyR (w.drewN n) v r:=h
def Ck (T:TypeId) (k:Int):List PanicEntry:=[{ v:=.iface T (.agg #[.int .i64 k]),recovered:=false }]
theorem Aac (k:Int)(w:World):Calls Tryz.prog 133 #[.bool true,.int .i64 k] w fun e w'=>e=.returned (.tuple #[])∧w=w':=by
 go_enter Tryz.func133,Tryz.ntmps133;go_wp2
 go_end0
 exact ⟨rfl,rfl⟩
theorem Xq (k:Int)(w:World):Calls Tryz.prog 133 #[.bool false,.int .i64 k] w fun e w'=>e=.panicked (Ck 114 k)∧w=w':=by
 go_enter Tryz.func133,Tryz.ntmps133;go_wp2;exact ⟨rfl,rfl,rfl⟩
def RetK (v:Value) (w:World) (e:Ending) (w':World):Prop:=e=.returned v∧Kept w w'
theorem RetK.mk {v:Value}{w w':World}(h:Kept w w'):RetK v w (.returned v) w':=⟨rfl,h⟩
theorem J7 {w:World}{v:Value}{r:Raw}(hv:DyR w v r)(hl:r.m.length≤17592186044416) :
 Calls Tryz.prog 66 #[v] w (RetK (.bool (Eu r)) w):=by
 obtain ⟨neg,m,e⟩:=r;obtain ⟨s,rfl,hs,h1,h2⟩:=hv;simp only at hs h1 h2 hl ⊢;have hm:=fun w1 (k:Kept w w1)=>Ab9 (hs.kept k) hl
 obtain ⟨hsm,A,c,rfl,hc,hA⟩:=hs;unfold Eu;simp only;by_cases h0:m.length=0
 ·rw [if_pos h0];clear hsm hA hm;rw [h0];have HL:=hid h0;clear h0 hl hc
  cases neg<;>(
   go_enter Tryz.func66,Tryz.ntmps66;go_wp2_with fail;go_ret;exact ⟨rfl,(Below.refl _ _).alloc (Nat.le_refl _) _⟩)
 ·rw [if_neg h0];obtain ⟨b,off,rfl,hb,hcell⟩:=hA (by omega);have hc0:=hcell 0 (by omega);have hlt0:=nth_lt hsm 0;have e0:(((m.length:Nat):Int)==0)=false:=by rw [beq_eq_false_iff_ne];omega
  have HM:=hid hm;have hl0:0<m.length:=by omega
  clear hcell hA hsm hm h0;have eand:bits .and .u64 ((nth m 0:Nat):Int) 1=((nth m 0%2:Nat):Int):=by
   have h:=bits_and_u64_nat (nth m 0) 1 hlt0 (by omega);rw [Nat.and_one_is_mod] at h;exact h
  rw [Nat.add_zero] at hc0;generalize nth m 0=x at *;generalize m.length=l at *;generalize Ja m=bm at *;cases bm
  ·rw [Bool.false_and,Bool.false_and,Bool.false_and];go_enter Tryz.func66,Tryz.ntmps66
   go_wp2_with (go_at_call 113;refine (HM.out _ ((Below.refl _ _).alloc (Nat.le_refl _) _)).mono ?_;rintro e w1 ⟨rfl,q,rfl⟩)
   go_ret;exact ⟨rfl,below_drewN ((Below.refl _ _).alloc (Nat.le_refl _) _) _⟩
  ·rw [Bool.true_and];by_cases h3:x%2=1
   ·have d3:(x%2==1)=true:=by simp [h3]
    rw [d3,Bool.true_and];clear d3;rw [h3] at eand;have eand1:bits .and .u64 ((x:Nat):Int) 1=1:=eand;clear h3 eand;by_cases h4:-1048576≤e
    ·have d4:decide (-1048576≤e)=true:=by simp [h4]
     rw [d4,Bool.true_and];have d5:decide (e≤1048576)=true∨decide (e≤1048576)=false:=Ca _
     rcases d5 with d5 | d5<;>(
      rw [d5];go_enter Tryz.func66,Tryz.ntmps66
      go_wp2_with (go_at_call 113;refine (HM.out _ ((Below.refl _ _).alloc (Nat.le_refl _) _)).mono ?_;rintro e w1 ⟨rfl,q,rfl⟩)
      go_ret;exact ⟨rfl,below_drewN ((Below.refl _ _).alloc (Nat.le_refl _) _) _⟩)
    ·have d4:decide (-1048576≤e)=false:=by simp [h4]
     rw [d4,Bool.false_and];go_enter Tryz.func66,Tryz.ntmps66
     go_wp2_with (go_at_call 113;refine (HM.out _ ((Below.refl _ _).alloc (Nat.le_refl _) _)).mono ?_;rintro e w1 ⟨rfl,q,rfl⟩)
     go_ret;exact ⟨rfl,below_drewN ((Below.refl _ _).alloc (Nat.le_refl _) _) _⟩
   ·have h3':x%2=0:=by omega
    have d3:(x%2==1)=false:=by simp [h3]
    rw [d3,Bool.false_and,Bool.false_and];rw [h3'] at eand;have eand1:bits .and .u64 ((x:Nat):Int) 1=0:=eand;clear d3 h3 h3' eand;go_enter Tryz.func66,Tryz.ntmps66
    go_wp2_with (go_at_call 113;refine (HM.out _ ((Below.refl _ _).alloc (Nat.le_refl _) _)).mono ?_;rintro e w1 ⟨rfl,q,rfl⟩)
    go_ret;exact ⟨rfl,below_drewN ((Below.refl _ _).alloc (Nat.le_refl _) _) _⟩
end Go.Proofs.YtinbgjcooolbiaaGreatDoor
