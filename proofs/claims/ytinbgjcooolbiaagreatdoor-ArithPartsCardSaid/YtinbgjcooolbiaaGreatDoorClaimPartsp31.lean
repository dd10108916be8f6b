/- Words and contracts, part 31. -/
import Derived.Test.YtinbgjcooolbiaaGreatDoorClaimPartsp30
set_option maxRecDepth 100000
set_option maxHeartbeats 0
namespace Go.Proofs.YtinbgjcooolbiaaGreatDoor.Dg
open Go.Lib (hid)
open Go.RowKit
theorem Sn {x y:Nat}(hx:x<65536)(hy:y<65536):bits .or .u32 (x:Int) ((y:Int)*65536)=((x+65536*y:Nat):Int):=by
 rw [show (y:Int)*65536=((y*65536:Nat):Int) by simp,Sm _ _ (by omega) (by omega)];have h:y*2^16 ||| x=y*2^16+x:=Pc hx
 rw [show y*65536=y*2^16 from rfl,Nat.or_comm,h]
 congr 1
 omega
theorem Sj {m k:Nat}(h:(limbs m).length≤k/16):m/2^k=0:=by
 have h1:=lt_pow_length m;have h2:65536^(limbs m).length≤2^k:=by
  rw [show (65536:Nat)=2^16 from rfl,←Nat.pow_mul];exact Nat.pow_le_pow_right (by decide) (by omega)
 exact Nat.div_eq_of_lt (Nat.lt_of_lt_of_le h1 h2)
theorem S0 (xs:List Nat)(k:Nat)(h:k<xs.length):xs.take (k+1)=xs.take k++[nth xs k]:=Fm xs k h
theorem shr_c {w:World}{v:Value}{m:Nat}(hv:Lim w v (limbs m))(n:Nat)(hl:(limbs m).length≤1000000)(hn:n≤100000000) :
 Calls Tryz.prog 125 #[v,.int .i64 n] w (RetLim (limbs (m/2^n)) w):=by
 by_cases h0:(limbs m).length≤n/16
 ·rw [Sj h0,limbs_zero];obtain ⟨hs,A,c,rfl,hc,hA⟩:=hv;generalize (limbs m).length=l at *;refine Calls.mono (R:=fun e w'=>e=.returned (.slice none 0 0)∧w=w') ?_ (fun e w' ⟨he,hw⟩=>by subst hw;exact ⟨_,he,Lim.nil _ _ _,Below.refl _ _⟩);have d0:decide (l≤n/16)=true:=by simp;omega
  clear hs hA;go_enter Tryz.func125,Tryz.ntmps125;go_wp2_with fail;go_ret;exact ⟨rfl,rfl⟩
 ·obtain ⟨hs,A,c,rfl,hc,hA⟩:=hv;have HV:=hid (Aav hs n);rw [val_limbs] at HV;obtain ⟨b,off,rfl,hb,hcell⟩:=hA (by omega);have HC:=hid hcell;have HX:=hid (nth_lt hs);clear hcell hA hs;have HZL:=hid (Le (n%16) ((limbs m).drop (n/16)));rw [List.length_drop] at HZL;have HZS:=hid (Mu (n%16) ((limbs m).drop (n/16)));have HZN:=hid (fun j (h:j<(limbs m).length-n/16)=>Rg (n%16) ((limbs m).drop (n/16)) j (by rw [List.length_drop];exact h));simp only [Ux] at HZN;have HBX:=hid (fun i (h:(limbs m).length≤i)=>Gq h);generalize Mt (n%16) ((limbs m).drop (n/16))=zs at *;generalize limbs m=xs at *
  generalize xs.length=l at *;obtain ⟨s,hsm⟩:∃ s,s=m/2^n:=⟨_,rfl⟩;rw [←hsm] at HV ⊢;clear hsm;obtain ⟨i0,hi,hz0,hz1,hz2⟩:=info_parts uinfo;have hr16:n%16<16:=Nat.mod_lt _ (by decide);obtain ⟨q,hq⟩:∃ q,n/16=q:=⟨_,rfl⟩;have hqi:(n:Int)/16=(q:Int):=by rw [←hq];simp
  rw [hq] at h0 HZL HZN;clear hq;have d0:decide (l≤q)=false:=by simp;omega
  go_enter Tryz.func125,Tryz.ntmps125;go_wp2_with fail
  go_loopw [5,6] (fun o i wr=>∃ j:Nat,j≤l-q∧i=.int .i64 ((q+j:Nat):Int)∧Own wr w.heap.size o (zs.take j)∧Below w.heap.size w wr) (fun _ i _=>(l-intOf i).toNat)
  case atStart=>exact ⟨0,Nat.zero_le _,rfl,World.ownsRow_nil _ _ _ _,Below.refl _ _⟩
  case round =>
   obtain ⟨j,hj,rfl,hO,hB⟩:=hrel;have HO:=hid hO;have HB:=hid hB;clear hO hB;obtain ⟨i,hi2⟩:∃ i,q+j=i:=⟨_,rfl⟩;rw [hi2];by_cases h1:i<l
   ·have hck:=(HB.out.cell (p:=⟨b,off+i,none⟩) hb).trans (HC.out i h1);have hxk:=HX.out i;have HLN:Hid ((zs.take j).length=j):=by rw [List.length_take,HZL.out];exact (by omega:min j (l-q)=j)
    have HST:Hid (zs.take (j+1)=zs.take j++[nth zs j]):=S0 zs j (by rw [HZL.out];omega);have hzn:=HZN.out j (by omega);rw [hi2,show q+(j+1)=i+1 by omega] at hzn;obtain ⟨d,hd⟩:∃ d,nth zs j=d:=⟨_,rfl⟩;rw [hd] at HST hzn;clear hd;obtain ⟨L,hL⟩:∃ L,zs.take j=L:=⟨_,rfl⟩;rw [hL] at HO HLN HST;clear hL;have hy:=HX.out (i+1);by_cases h2:i+1<l
    ·have hck2:=(HB.out.cell (p:=⟨b,off+(i+1),none⟩) hb).trans (HC.out (i+1) h2);generalize nth xs i=x at *;generalize nth xs (i+1)=y at *;obtain ⟨t,ht⟩:∃ t,t=x+65536*y:=⟨_,rfl⟩;have hor:=Sn hxk hy;rw [←ht] at hor hzn;have hlt:t<4294967296:=by omega
     have hsh:(t:Int)/2^(n%16)=((t/2^(n%16):Nat):Int):=by simp
     have hand:=Hl (t/2^(n%16)) (Nat.lt_of_le_of_lt (Nat.div_le_self _ _) hlt);rw [←hzn,←hsh] at hand;have HD:=hid hzn;have HI:=hid hi2;have HT:=hid ht;clear hzn hsh hi2 ht
     go_wp2_with (at_builtin;go_must (refine wpList_append_own _ rfl _ _ 79 rfl w.heap.size 91 i0 (.int .u32 0) 1 4 Tryz.underlying79 hi hz0 hz1 hz2 rfl (by decide) _ L.length (L.map U) rfl (World.ownsRow.alloc HO.out _) ⟨_,0,none⟩ 1 1 [_] rfl rfl (Bk _ _ _) (by simp [Value.oneCell']) (by rw [HLN.out];unfold maxLen;omega) (by rw [HLN.out];omega) (by have:=HB.out.size;simp;omega) ?_))
     intro v' w2 hown2 hgrow2 _;have ho:Hid (Own w2 w.heap.size v' (L++[d])):=own_of_rows (ys:=[d]) hown2;have hk:Hid (Below w.heap.size w w2):=Below.grown (HB.out.alloc HB.out.size _) hgrow2 (by have:=HB.out.size;simp;omega) (fun k hk=>(World.ownsRow.lt HO.out k hk).1);clear hown2 hgrow2 hor hand;go_wp2_with fail;go_roundw
     case rel=>exact ⟨j+1,by have:=HI.out;omega,by have:=HI.out;go_num,by rw [HST.out];exact ho.out,hk.out⟩
     case measure=>have:=HI.out;simp [intOf];omega
    ·have hy0:=HBX.out (i+1) (by omega);rw [hy0,Nat.mul_zero,Nat.add_zero] at hzn;clear hy0 hy;generalize nth xs i=x at *;have n2:decide (i+1<l)=false:=by simp;omega
     have hsh:(x:Int)/2^(n%16)=((x/2^(n%16):Nat):Int):=by simp
     have hand:=Hl (x/2^(n%16)) (Nat.lt_of_le_of_lt (Nat.div_le_self _ _) (by omega));rw [←hzn,←hsh] at hand;have HD:=hid hzn;have HI:=hid hi2;clear hzn hsh hi2
     go_wp2_with (at_builtin;go_must (refine wpList_append_own _ rfl _ _ 79 rfl w.heap.size 91 i0 (.int .u32 0) 1 4 Tryz.underlying79 hi hz0 hz1 hz2 rfl (by decide) _ L.length (L.map U) rfl (World.ownsRow.alloc HO.out _) ⟨_,0,none⟩ 1 1 [_] rfl rfl (Bk _ _ _) (by simp [Value.oneCell']) (by rw [HLN.out];unfold maxLen;omega) (by rw [HLN.out];omega) (by have:=HB.out.size;simp;omega) ?_))
     intro v' w2 hown2 hgrow2 _;have ho:Hid (Own w2 w.heap.size v' (L++[d])):=own_of_rows (ys:=[d]) hown2;have hk:Hid (Below w.heap.size w w2):=Below.grown (HB.out.alloc HB.out.size _) hgrow2 (by have:=HB.out.size;simp;omega) (fun k hk=>(World.ownsRow.lt HO.out k hk).1);clear hown2 hgrow2 hand;go_wp2_with fail;go_roundw
     case rel=>exact ⟨j+1,by have:=HI.out;omega,by have:=HI.out;go_num,by rw [HST.out];exact ho.out,hk.out⟩
     case measure=>have:=HI.out;simp [intOf];omega
   ·have hlim:=HO.out.lim (by rw [List.take_of_length_le (by rw [HZL.out];omega)];exact HZS.out);rw [List.take_of_length_le (by rw [HZL.out];omega)] at hlim;have HLM:=hid hlim;have HI:=hid hi2;clear hlim hi2;have n1:decide (i<l)=false:=by simp;omega
    go_wp2_with (go_at_call 130;refine (Em HLM.out (by rw [HZL.out];omega)).mono ?_;rintro e w' ⟨v',rfl,hv',rfl⟩;have HV':=hid hv';clear hv')
    go_ret;exact ⟨_,rfl,by rw [←HV.out];exact HV'.out,HB.out⟩
theorem Nf:∀ (m j:Nat),nth (limbs m) j=m/65536^j%65536:=by
 intro m j
 induction j generalizing m with
 | zero =>
   by_cases h:m=0
   ·subst h;rw [limbs_zero];rfl
   ·rw [Bc m h,Nat.pow_zero,Nat.div_one];rfl
 | succ j ih =>
   by_cases h:m=0
   ·subst h;rw [limbs_zero,Nat.zero_div];rfl
   ·rw [Bc m h,Bs,ih,Nat.pow_succ,Nat.mul_comm (65536^j) 65536,←Nat.div_div_eq_div_mul]
theorem Abn (m i:Nat):nth (limbs m) (i/16)/2^(i%16)%2=m/2^i%2:=by
 rw [Nf];have hr:i%16<16:=Nat.mod_lt _ (by decide);generalize ha:m/65536^(i/16)=a;have e:m/2^i=a/2^(i%16):=by
  rw [←ha,Nat.div_div_eq_div_mul,show (65536:Nat)=2^16 from rfl,←Nat.pow_mul,←Nat.pow_add]
  congr 2
  omega
 rw [e];generalize i%16=r at *;have e16:(65536:Nat)=2^r*(2*2^(15-r)):=by
  rw [←Nat.mul_assoc,←Nat.pow_succ,←Nat.pow_add,show r+1+(15-r)=16 by omega]
 have hp:0<2^r:=Nat.pow_pos (by decide);have h1:a/2^r=a%65536/2^r+2*(2^(15-r)*(a/65536)):=by
  have h2:a=a%65536+2^r*(2*(2^(15-r)*(a/65536))):=by
   have h3:=Nat.mod_add_div a 65536;have h4:65536*(a/65536)=2^r*(2*(2^(15-r)*(a/65536))):=by
    rw [show 2^r*(2*(2^(15-r)*(a/65536)))=(2^r*(2*2^(15-r)))*(a/65536) by rw [Nat.mul_assoc,Nat.mul_assoc],←e16]
   omega
  conv=>lhs;rw [h2]
  rw [Nat.add_mul_div_left _ _ hp]
 rw [h1];omega
theorem Ac4 (y:Nat)(h:y<4294967296):bits .and .u32 (y:Int) 1=((y%2:Nat):Int):=by
 rw [show (1:Int)=((1:Nat):Int) from rfl,Oi _ _ h (by decide),Nat.and_one_is_mod]
theorem Aa4 {w:World}{v:Value}{m:Nat}(hv:Lim w v (limbs m))(i:Nat)(hl:(limbs m).length≤1000000)(hn:i≤100000000) :
 Calls Tryz.prog 142 #[v,.int .i64 i] w (RetQ (.int .u32 ((m/2^i%2:Nat):Int)) w):=by
 have hbit:=Abn m i;obtain ⟨d,hd⟩:∃ d,m/2^i%2=d:=⟨_,rfl⟩;rw [hd] at hbit ⊢;clear hd;obtain ⟨hs,A,c,rfl,hc,hA⟩:=hv;by_cases h0:(limbs m).length≤i/16
 ·rw [Gq h0,Nat.zero_div] at hbit;obtain rfl:0=d:=hbit;generalize (limbs m).length=l at *;have d0:decide (l≤i/16)=true:=by simp;omega
  clear hs hA;go_enter Tryz.func142,Tryz.ntmps142;go_wp2_with fail;go_ret;exact ⟨rfl,0,rfl⟩
 ·obtain ⟨b,off,rfl,hb,hcell⟩:=hA (by omega);have hck:=hcell (i/16) (by omega);have hxk:=nth_lt hs (i/16);generalize nth (limbs m) (i/16)=x at *;generalize (limbs m).length=l at *;have d0:decide (l≤i/16)=false:=by simp;omega
  have hr16:i%16<16:=Nat.mod_lt _ (by decide);have hsh:(x:Int)/2^(i%16)=((x/2^(i%16):Nat):Int):=by simp
  have hand:=Ac4 (x/2^(i%16)) (Nat.lt_of_le_of_lt (Nat.div_le_self _ _) (by omega));rw [hbit,←hsh] at hand;have HB:=hid hbit;clear hcell hA hs hsh hbit;go_enter Tryz.func142,Tryz.ntmps142;go_wp2_with fail;go_ret;exact ⟨rfl,0,rfl⟩
theorem S7 {m n:Nat}(hm:m≠0)(h:n<tz m):m/2^n%2=0:=by
 obtain ⟨q,hq⟩:=M9 m hm;have hp:0<2^n:=Nat.pow_pos (by decide);have e:m/2^n=2*(2^(tz m-n-1)*q):=by
  apply Nat.div_eq_of_eq_mul_right hp;rw [←Nat.mul_assoc,←Nat.mul_assoc,←Nat.pow_succ,←Nat.pow_add];rw [show n+1+(tz m-n-1)=tz m by omega];exact hq
 rw [e];omega
theorem low_c {w:World}{v:Value}{m:Nat}(hv:Lim w v (limbs m))(hl:(limbs m).length≤1000000)(hm:m≠0) :
 Calls Tryz.prog 124 #[v] w (RetQ (.int .i64 (tz m)) w):=by
 have hlt:tz m<16000001:=by
  have h1:tz m<16*(limbs m).length:=by
   refine Rp m _ hm (Nat.lt_of_lt_of_le (lt_pow_length m) ?_);rw [show (65536:Nat)=2^16 from rfl,←Nat.pow_mul];exact Nat.le_refl _
  omega
 have C:=hid (fun q i (hi:i≤100000000)=>Aa4 (hv.drewN q) i hl hi);have H1:=hid (fun n (h:n<tz m)=>S7 hm h);have H2:=hid (Ju m hm);obtain ⟨hs,A,c,rfl,hc,hA⟩:=hv;clear hs hA hl hm;generalize tz m=t at *;go_enter Tryz.func124,Tryz.ntmps124;go_wp2_with fail
 go_loopw [3] (fun i wr=>∃ n:Nat,n≤t∧i=.int .i64 n∧∃ q,wr=w.drewN q) (fun i _=>(t-intOf i).toNat)
 case atStart=>exact ⟨0,Nat.zero_le _,rfl,0,rfl⟩
 case round =>
  obtain ⟨n,hn,rfl,q,rfl⟩:=hrel;have D:=hid (C.out q n (by omega));by_cases h:n<t
  ·have h1:=H1.out n h;rw [h1] at D;clear h1
   go_wp2_with (go_at_call 142;refine D.out.mono ?_;rintro e w' ⟨rfl,q2,rfl⟩)
   go_roundw
   case rel=>exact ⟨n+1,by omega,by go_num,_,rfl⟩
   case measure=>simp [intOf];omega
  ·obtain rfl:n=t:=by omega
   rw [H2.out] at D
   go_wp2_with (go_at_call 142;refine D.out.mono ?_;rintro e w' ⟨rfl,q2,rfl⟩)
   go_ret;exact ⟨rfl,_,rfl⟩
end Go.Proofs.YtinbgjcooolbiaaGreatDoor.Dg
namespace Go.Proofs.YtinbgjcooolbiaaGreatDoor.Dg
open Go.Lib (hid)
open Go.RowKit
theorem Gr {x s:Nat}(hx:x<65536)(hs:s≤48):(x:Int)*2^s%18446744073709551616=((x*2^s:Nat):Int)∧x*2^s<18446744073709551616:=by
 have h1:2^s≤2^48:=Nat.pow_le_pow_right (by decide) hs;have h2:x*2^s≤65535*2^48:=Nat.mul_le_mul (by omega) h1;have e:(x:Int)*2^s=((x*2^s:Nat):Int):=by simp
 rw [e];omega
theorem Qs {w:World}{base:Nat}{v:Value}{xs:List Nat}(h:Go.Proofs.YtinbgjcooolbiaaGreatDoor.Own w base v xs):Go.Proofs.YtinbgjcooolbiaaGreatDoor.Own w.drew base v xs:=h
theorem L3 {w Y:World}{k:Nat}(h:Below k w Y):Below k w Y.drew:=⟨h.os,h.tape,h.output,h.size,h.block⟩
theorem Ab2 {x y s:Nat}(hx:x<65536)(hs:s≤48)(hy:y<2^s):bits .or .u64 (y:Int) (IntKind.u64.wrap ((x:Int)*2^s))=((y+x*2^s:Nat):Int):=by
 obtain ⟨h1,h2⟩:=Gr hx hs;have h3:2^s≤2^48:=Nat.pow_le_pow_right (by decide) hs;rw [IntKind.wrap_u64,h1,Go.Proofs.YtinbgjcooolbiaaGreatDoor.or_u64 _ _ (by omega) h2,Nat.or_comm,Pc hy,Nat.add_comm]
theorem limbs_c {w:World}{v:Value}{n:Nat}(hv:Lim w v (limbs n))(hl:(limbs n).length≤1000000) :
 Calls Tryz.prog 136 #[v] w (Go.Proofs.YtinbgjcooolbiaaGreatDoor.RetLim (Go.Proofs.YtinbgjcooolbiaaGreatDoor.limbs n) w):=by
 obtain ⟨hs,A,c,rfl,hc,hA⟩:=hv;have HX:=hid (fun i=>nth_lt hs i);have HA:=hid hA;have HF:=hid (fun L=>W3 (L:=L) (n:=n));clear hA hs;generalize limbs n=xs at *;generalize hlx:xs.length=l at *;have HLX:=hid hlx;clear hlx;obtain ⟨i0,hi,hz0,hz1,hz2⟩:=info_parts Go.Proofs.YtinbgjcooolbiaaGreatDoor.uinfo;go_enter Tryz.func136,Tryz.ntmps136;go_wp2_with fail
 go_loopw [3,4] (fun o i wr=>∃ (k:Nat) (L:List Nat),k≤l∧i=.int .i64 k∧Rt L xs k∧Go.Proofs.YtinbgjcooolbiaaGreatDoor.Own wr w.heap.size o L∧Below w.heap.size w wr) (fun _ i _=>(l-intOf i).toNat)
 case atStart=>exact ⟨0,[],Nat.zero_le _,rfl,Adi _,World.ownsRow_nil _ _ _ _,Below.refl _ _⟩
 case round =>
  obtain ⟨k,L,hk,rfl,hG,hO,hB⟩:=hrel;by_cases h1:k<l
  ·obtain ⟨b,off,rfl,hb,hcell⟩:=HA.out (by omega);have hck:=(hB.cell (p:=⟨b,off+k,none⟩) hb).trans (hcell k h1);have hxk:=HX.out k;have HCK:=hid (hcell k h1);clear hcell;have HX1:=hid hxk;by_cases h4:k%4=0
   ·have HN:=hid (W4 hG hxk h4);have hgl:=hG.len;have HO:=hid hO;have HB:=hid hB;have hll:k/4=L.length:=by omega
    generalize nth xs k=x at *;have HLN:Hid (L.length=k/4):=hll.symm;clear hG hO hB hgl hll;have hk0:((k:Int)%4==0)=true:=by rw [beq_iff_eq];omega
    go_wp2_with (at_builtin;go_must (refine wpList_append_own _ rfl _ _ 22 rfl w.heap.size 40 i0 (.int .u64 0) 1 8 Tryz.underlying22 hi hz0 hz1 hz2 rfl (by decide) _ L.length (L.map Go.Proofs.YtinbgjcooolbiaaGreatDoor.U) rfl (World.ownsRow.alloc HO.out _) ⟨_,0,none⟩ 1 1 [.int .u64 0] rfl rfl (Bk _ _ _) (by simp [Value.oneCell']) (by rw [HLN.out];unfold maxLen;omega) (by rw [HLN.out];omega) (by have:=HB.out.size;simp;omega) ?_))
    intro v' w2 hown2 hgrow2 _;have ho:Hid (Go.Proofs.YtinbgjcooolbiaaGreatDoor.Own w2 w.heap.size v' (L++[0])):=Go.Proofs.YtinbgjcooolbiaaGreatDoor.own_of_rows (ys:=[0]) hown2;have hk:Hid (Below w.heap.size w w2):=Below.grown (HB.out.alloc HB.out.size _) hgrow2 (by have:=HB.out.size;simp;omega) (fun k hk=>(World.ownsRow.lt HO.out k hk).1);clear hown2 hgrow2 HO HB;have hml:(L++[0]).length=k/4+1:=by rw [List.length_append,HLN.out];rfl
    have hnz:nth (L++[0]) (k/4)=0:=by rw [←HLN.out];simp [nth]
    obtain ⟨g,cap,rfl,hg,hgs,hcap⟩:=ho.out.shape (by rw [hml];omega);have hoc:=ho.out.cell (k/4) (by rw [hml];omega);have hof:=ho.out.frozen (k/4);rw [hnz] at hoc;have hck:=(hk.out.cell (p:=⟨b,off+k,none⟩) hb).trans HCK.out;rw [hml] at ho hcap ⊢;generalize L++[0]=M at *;have hor:bits .or .u64 0 (x:Int)=(x:Int):=by
     have h:=Go.Proofs.YtinbgjcooolbiaaGreatDoor.or_u64 0 x (by decide) (by omega);rwa [Nat.zero_or] at h
    have hl5:L.length=k/4:=HLN.out;go_wp2_with fail;go_region
    all_goals
     go_wp2_with fail;go_roundw
     case rel=>exact ⟨k+1,_,by omega,by go_num,HN.out,Qs (ho.out.stored (k/4) x),L3 (hk.out.setCell hg _)⟩
     case measure=>simp [intOf];omega
   ·have HN:=hid (W5 hG hxk h4);have hgl:=hG.len;have hro:=hG.room h4;have HO:=hid hO;have HB:=hid hB;obtain ⟨g,cap,rfl,hg,hgs,hcap⟩:=HO.out.shape (by omega);have hoc:=HO.out.cell (k/4) (by omega);have hof:=HO.out.frozen (k/4);have hll:k/4<L.length:=by omega
    generalize nth xs k=x at *;generalize nth L (k/4)=y at *;generalize L.length=m at *;have hk4:k%4<4:=Nat.mod_lt _ (by decide);have hm4:decide (k%4=0)=false:=by simp;omega
    clear hG hO hB;obtain ⟨z,hz⟩:∃ z,z=y+x*2^(16*(k%4)):=⟨_,rfl⟩;have hor:=Ab2 hxk (show 16*(k%4)≤48 by omega) hro;rw [←hz] at hor HN;have HZ:=hid hz;clear hz hro;go_wp2_with fail;go_region
    all_goals
     go_wp2_with fail;go_roundw
     case rel=>exact ⟨k+1,_,by omega,by go_num,HN.out,Qs (HO.out.stored (k/4) z),L3 (HB.out.setCell hg _)⟩
     case measure=>simp [intOf];omega
  ·obtain rfl:k=l:=by omega
   rw [←HLX.out] at hG;have he:=HF.out L (by rw [←HLX.out];exact hG);have hlim:=hO.lim hG.small;rw [he] at hlim;have HLM:=hid hlim;have HB:=hid hB;obtain ⟨A5,c5,he5,-⟩:=hO.shape0;subst he5;clear hlim hG hO hB he;go_wp2_with fail;go_ret;exact ⟨_,rfl,HLM.out,HB.out⟩
end Go.Proofs.YtinbgjcooolbiaaGreatDoor.Dg
namespace Go.Proofs.YtinbgjcooolbiaaGreatDoor.Dg
open Go.Lib (hid)
open Go.RowKit
theorem Tw:∀ {xs:List Nat},Small xs→∀ j,nth xs j=val xs/65536^j%65536
 | [],_,j=>by simp [nth,val]
 | x :: xs, h, 0 => by
   have hx:=h x (List.mem_cons_self ..)
   show x=(x+65536*val xs)/65536^0%65536
   omega
 | x :: xs, h, j + 1 => by
   have hx:=h x (List.mem_cons_self ..);rw [Bs,Tw (fun y hy=>h y (List.mem_cons_of_mem _ hy)) j,val,Nat.pow_succ,Nat.mul_comm (65536^j) 65536,←Nat.div_div_eq_div_mul]
   congr 2
   omega
theorem Pu {Q:List Nat}(hs:Small Q){i K:Nat}(hv:val Q=2^(i+1)*K):∃ h,nth Q (i/16)=h*2^(i%16+1)∧nth Q (i/16)+2^(i%16)<65536:=by
 have hn:=Tw hs (i/16);have hr:i%16<16:=Nat.mod_lt _ (by decide);have e:val Q/65536^(i/16)=2^(i%16+1)*K:=by
  rw [hv,show (65536:Nat)=2^16 from rfl,←Nat.pow_mul];apply Nat.div_eq_of_eq_mul_right (Nat.pow_pos (by decide));rw [←Nat.mul_assoc,←Nat.pow_add]
  congr 2
  omega
 rw [e] at hn;generalize i%16=r at *;have e16:(65536:Nat)=2^(r+1)*2^(15-r):=by rw [←Nat.pow_add,show r+1+(15-r)=16 by omega]
 have hp:0<2^(15-r):=Nat.pow_pos (by decide);have h1:nth Q (i/16)=(K%2^(15-r))*2^(r+1):=by
  rw [hn]
  conv=>lhs;rw [e16]
  rw [Nat.mul_mod_mul_left,Nat.mul_comm]
 refine ⟨_,h1,?_⟩;have h2:K%2^(15-r)+1≤2^(15-r):=Nat.mod_lt _ hp;have h3:=Nat.mul_le_mul_right (2^(r+1)) h2;rw [Nat.add_mul,Nat.one_mul,Nat.mul_comm (2^(15-r)),←e16,←h1] at h3;have h4:(2:Nat)^(r+1)=2*2^r:=by rw [Nat.pow_succ,Nat.mul_comm]
 have h5:0<2^r:=Nat.pow_pos (by decide);omega
theorem Tb {Q:List Nat}{i:Nat}(hi:i/16<Q.length):val (Q.set (i/16) (nth Q (i/16)+2^(i%16)))=val Q+2^i:=by
 have h:=val_set Q (i/16) (nth Q (i/16)+2^(i%16)) hi;rw [Nat.mul_add] at h;have e:65536^(i/16)*2^(i%16)=2^i:=by
  rw [show (65536:Nat)=2^16 from rfl,←Nat.pow_mul,←Nat.pow_add]
  congr 1
  omega
 omega
theorem Vz {d r h:Nat}(hd:d=h*2^(r+1))(hb:d+2^r<65536):bits .or .u32 (d:Int) ((2^r:Nat):Int)=((d+2^r:Nat):Int):=by
 have hp:0<2^r:=Nat.pow_pos (by decide);rw [Sm _ _ (by omega) (by omega)]
 congr 1
 have h2:(2:Nat)^r<2^(r+1):=Nat.pow_lt_pow_right (by decide) (by omega);rw [hd];exact Pc h2
theorem Wo {n m i:Nat}(hm:0<m):n/2^i=2*(n/2^(i+1))+n/2^i%2 ∧
 (m≤2*(n/2^(i+1)%m)+n/2^i%2→n/2^i/m=2*(n/2^(i+1)/m)+1∧n/2^i%m=2*(n/2^(i+1)%m)+n/2^i%2-m) ∧
 (¬m≤2*(n/2^(i+1)%m)+n/2^i%2→n/2^i/m=2*(n/2^(i+1)/m)∧n/2^i%m=2*(n/2^(i+1)%m)+n/2^i%2):=by
 have e:n/2^(i+1)=n/2^i/2:=by rw [Nat.pow_succ,Nat.div_div_eq_div_mul]
 rw [e];generalize n/2^i=a;have h1:a=2*(a/2)+a%2:=(Nat.div_add_mod a 2).symm;generalize a/2=t at *;generalize ha:a%2=b at *;have hb:b<2:=by omega
 have h2:=Nat.div_add_mod t m;have h3:=Nat.mod_lt t hm;generalize t/m=q at *;generalize t%m=r at *;have key:∀ q' r',r'<m→a=m*q'+r'→a/m=q'∧a%m=r':=by
  intro q' r' hr he;rw [he];exact ⟨by rw [Nat.mul_add_div hm,Nat.div_eq_of_lt hr,Nat.add_zero],by rw [Nat.mul_add_mod,Nat.mod_eq_of_lt hr]⟩
 refine ⟨h1,fun h=>key _ _ (by omega) ?_,fun h=>key _ _ (by omega) ?_⟩
 ·rw [Nat.mul_add,Nat.mul_one,Nat.mul_left_comm];omega
 ·rw [Nat.mul_left_comm];omega
theorem J8 {w w':World}{base:Nat}{v:Value}{xs:List Nat}(h:Own w base v xs)(k:Kept w w'):Own w' base v xs:=by
 obtain ⟨h1,h2⟩:=h;refine ⟨h1,?_⟩;rcases h2 with h2 | ⟨g,cap,cur,rfl,hb,hh,h3⟩
 ·exact .inl h2
 ·exact .inr ⟨g,cap,cur,rfl,hb,(k.block g (Array.getElem?_eq_some_iff.1 hh).1).trans hh,h3⟩
theorem Ke {r:Nat}(h:r<16):(2:Int)^r%4294967296=((2^r:Nat):Int):=by
 have hlt:2^r<65536:=Nat.pow_lt_pow_right (m:=r) (n:=16) (by decide) h;have e2:(2:Int)^r=((2^r:Nat):Int):=by simp
 rw [e2];generalize 2^r=p at *;omega
theorem Fresh.mono {b b':Nat}{v:Value}{xs:List Nat}(h:xs=[]∨Fresh b v)(hb:b'≤b):xs=[]∨Fresh b' v:=by
 rcases h with h | h
 ·exact .inl h
 ·exact .inr fun g off n c he=>Nat.le_trans hb (h g off n c he)
theorem Pd {w:World}{n c base:Nat}{xs:List Nat}(h:Own w base (.slice (some ⟨base,0,none⟩) n c) xs)(h0:0<xs.length):base+1≤w.heap.size:=by
 obtain ⟨g,cap,he,h1,h2,-⟩:=h.shape h0;omega
theorem Th {Q Q':List Nat}{i a b:Nat}(h:val Q=2^(i+1)*a)(h1:val Q'=val Q+2^i)(h2:b=2*a+1):val Q'=2^i*b:=by
 rw [h1,h,h2,Nat.mul_add,Nat.mul_one,Nat.pow_succ,Nat.mul_assoc]
theorem Qc {Q:List Nat}{i a b:Nat}(h:val Q=2^(i+1)*a)(h2:b=2*a):val Q=2^i*b:=by
 rw [h,h2,Nat.pow_succ,Nat.mul_assoc]
def RetDiv (n m:Nat) (w:World) (e:Ending) (w':World):Prop:=∃ v u,e=.returned (.tuple #[v,u])∧Lim w' v (limbs (n/m))∧Lim w' u (limbs (n%m))∧Kept w w'
theorem div_c {w:World}{v u:Value}{n m:Nat}(hv:Lim w v (limbs n))(hu:Lim w u (limbs m))(hm:0<m)(hl:(limbs n).length≤100000)(hl':(limbs m).length≤60000) :
 Calls Tryz.prog 126 #[v,u] w (RetDiv n m w):=by
 have hbl:=Oj n;have C1:=hid (fun w1 (k:Kept w w1)=>bits_c (hv.kept k) (by omega));have C2:=hid (fun w1 x r (hx:Lim w1 x (limbs r)) (hr:r<m)=>Abd hx 1 (by have:=len_mono (Nat.le_of_lt hr);omega) (by decide));have C3:=hid (fun w1 i (k:Kept w w1) (hi:i≤1600000)=>Aa4 (hv.kept k) i (by omega) (by omega));have LB:∀ r,r<2*m→(limbs r).length≤960001:=by
  intro r hr;have h1:=J6 r;have h2:bl r≤bl (m*2^1):=Iy (by omega);rw [Ci m 1 (by omega)] at h2;have h3:=Oj m;omega
 have C4:=hid (fun w1 x y r (hx:Lim w1 x (limbs r)) (hy:Lim w1 y (limbs 1)) (hr:r<2*m)=>Aa3 hx hy (by have:=LB r hr;omega) (by rw [limbs_one];decide));have C5:=hid (fun w1 x r (k:Kept w w1) (hx:Lim w1 x (limbs r)) (hr:r<2*m)=>cmp_c hx (hu.kept k) (by have:=LB r hr;omega) (by omega));have C6:=hid (fun w1 x r (k:Kept w w1) (hx:Lim w1 x (limbs r)) (hr:r<2*m) (hmr:m≤r)=>Adp hx (hu.kept k) (by have:=LB r hr;omega) hmr);have HN:Hid (n/2^bl n=0):=Nat.div_eq_of_lt (Bi n);have HLB:Hid (∀ i,i<bl n→i/16<(limbs n).length):=fun i hi=>by omega
 obtain ⟨A,c,he,-⟩:=hv.2;subst he;obtain ⟨A',c',he,-⟩:=hu.2;subst he;clear hv hu LB;obtain ⟨bn,hbn⟩:∃ b,bl n=b:=⟨_,rfl⟩;rw [hbn] at HN HLB C1 hbl;clear hbn;generalize (limbs n).length=l at *;generalize (limbs m).length=l' at *;obtain ⟨i0,hi,hz0,hz1,hz2⟩:=info_parts uinfo;go_enter Tryz.func126,Tryz.ntmps126
 go_wp2_with (first
  | (go_at_call 89;refine (C1.out _ (Below.refl _ _)).mono ?_;rintro e w' ⟨rfl,q,rfl⟩)
  | (at_make;go_must (refine wpList_make_full _ rfl _ _ 79 rfl w.heap.size 91 i0 (.int .u32 0) 1 Tryz.underlying79 hi hz0 hz1 .i64 .i64 _ _ l rfl rfl (by omega) (by omega) (by rw [hz2];omega) (by unfold maxLen;omega) (by simp) ?_)))
 intro w1 hown1 hgrow1;have ho:Hid (Own w1 w.heap.size (.slice (some ⟨w.heap.size,0,none⟩) l l) (List.replicate l 0)):=E8 hown1;have hk:Hid (Below w.heap.size w w1):=Below.grown (Kept.drewN (Below.refl _ _) q) hgrow1 (by simp) (by intro k hk;cases hk);clear hown1 hgrow1 C1;go_wp2_with fail
 go_loopw [8,9] (fun rv iv wr=>∃ (j:Nat) (Q:List Nat),iv=.int .i64 ((j:Int)-1)∧j≤bn∧Q.length=l∧Small Q∧val Q=2^j*(n/2^j/m)∧Lim wr rv (limbs (n/2^j%m))∧(limbs (n/2^j%m)=[]∨Fresh (w.heap.size+1) rv)∧Own wr w.heap.size (.slice (some ⟨w.heap.size,0,none⟩) l l) Q∧Below w.heap.size w wr) (fun _ iv _=>(intOf iv+1).toNat)
 case atStart=>exact ⟨bn,_,by go_num,Nat.le_refl _,List.length_replicate ..,Mw _,by rw [Rr,HN.out,Nat.zero_div,Nat.mul_zero],by rw [HN.out,Nat.zero_mod,limbs_zero];exact Lim.nil _ _ _,.inl (by rw [HN.out,Nat.zero_mod,limbs_zero]),ho.out,hk.out⟩
 case round =>
  clear ho hk HN;obtain ⟨j,Q,rfl,hj,hQl,hQs,hQv,hR,-,hO,hB⟩:=hrel;have HR:=hid hR;have OQ:=hid hO;have K:=hid hB;have HQL:=hid hQl;have HQS:=hid hQs;have HQV:=hid hQv;clear hR hO hB hQl hQs hQv;cases j with
  | zero =>
    obtain ⟨A2,c2,he,-⟩:=HR.out.2;subst he;have hqv:=HQV.out;have hrr:=HR.out;rw [Nat.pow_zero,Nat.one_mul,Nat.div_one] at hqv;rw [Nat.pow_zero,Nat.div_one] at hrr;have HRR:=hid hrr;have hlim:=OQ.out.lim HQS.out;have HLM:=hid hlim;have HQ:=hid hqv;clear hlim hqv hrr HR HQV
    go_wp2_with (go_at_call 130;refine (Em HLM.out (by rw [HQL.out];omega)).mono ?_;rintro e w' ⟨v',rfl,hv',rfl⟩;have HV':=hid hv';clear hv')
    exact bodyPost_ret (v:=.tuple #[v',.slice A2 (limbs (n%m)).length c2]) (by simp [results,Tryz.results126,go_sem]) rfl ⟨_,_,rfl,by rw [←HQ.out];exact HV'.out,HRR.out,K.out⟩
  | succ i =>
    have hji:(((i+1:Nat):Int)-1)=(i:Int):=by omega
    rw [hji];clear hji;have HIL:=hid (HLB.out i (by omega));have HS:=hid (Wo (n:=n) (i:=i) hm);have hr0:n/2^(i+1)%m<m:=Nat.mod_lt _ hm;obtain ⟨bt,hbt⟩:∃ b,n/2^i%2=b:=⟨_,rfl⟩;have D2:=hid (fun w1 x (hx:Lim w1 x (limbs (n/2^(i+1)%m)))=>C2.out w1 x _ hx hr0);have D3:=hid (fun w1 (k:Kept w w1)=>C3.out w1 i k (by omega));have hb2:bt<2:=by omega
    rw [hbt] at D3 HS;clear hbt;go_wp2_with fail;refine (D2.out _ _ HR.out).mono ?_;rintro e w2 ⟨v2,rfl,hv2,k2,f2⟩;have F2:=hid (Fresh.mono f2 (Pd OQ.out (by rw [HQL.out];have:=HIL.out;omega)));rw [Nat.pow_one] at F2;clear f2;simp only [];replace K:=hid (Kept.trans K.out k2);replace OQ:=hid (J8 OQ.out k2);have R2:=hid hv2;rw [Nat.pow_one] at R2;clear hv2 k2 HR;go_wp2_with fail;refine (D3.out _ K.out).mono ?_;rintro e w3 ⟨rfl,q3,rfl⟩;simp only [];by_cases h1:bt=1
    ·subst h1;have D4:=hid (fun w1 x y (hx:Lim w1 x (limbs (n/2^(i+1)%m*2))) (hy:Lim w1 y (limbs 1))=>C4.out w1 x y _ hx hy (by omega));go_wp2_with fail;refine (D4.out _ _ _ ((R2.out.drewN q3).kept (Lr _ _)) (lim_one _)).mono ?_;rintro e w4 ⟨v4,rfl,hv4,k4,f4⟩;have RF:=hid (Fresh.mono f4 (Nat.le_trans (Pd OQ.out (by rw [HQL.out];have:=HIL.out;omega)) (show w2.heap.size≤_ by simp)));clear f4;simp only [];obtain ⟨r1,hr⟩:∃ r1,n/2^(i+1)%m*2+1=r1:=⟨_,rfl⟩;rw [hr] at hv4 RF;have hr1:r1<2*m:=by omega
     rw [Nat.mul_comm 2 (n/2^(i+1)%m),hr] at HS;have RA:=hid hv4;have kk:=Kept.trans (Lr _ _) k4;have KA:=hid (Kept.trans (Kept.drewN K.out q3) kk);have OA:=hid (J8 (OQ.out.drewN q3) kk);clear hv4 k4 kk D4;clear D2 D3;have D5:=hid (fun w1 x (k:Kept w w1) (hx:Lim w1 x (limbs r1))=>C5.out w1 x r1 k hx hr1);go_wp2_with fail;refine (D5.out _ _ KA.out RA.out).mono ?_;rintro e w5 ⟨rfl,q5,rfl⟩;simp only [];clear R2 OQ K;by_cases hmr:m≤r1
     ·have hS:=HS.out.2.1 hmr;have hc:¬Bp r1 m<0:=by unfold Bp;rw [if_neg (by omega)];split<;>decide
      have hd:decide (0≤Bp r1 m)=true:=by simp;omega
      have HS2:=hid hS;have D6:=hid (fun w1 x (k:Kept w w1) (hx:Lim w1 x (limbs r1))=>C6.out w1 x r1 k hx hr1 hmr);clear hc hS;generalize Bp r1 m=cc at *;go_wp2_with fail;refine (D6.out _ _ (Kept.drewN KA.out q5) (RA.out.drewN q5)).mono ?_;rintro e w6 ⟨v6,rfl,hv6,k6,f6⟩;have F6:=hid (Fresh.mono f6 (Nat.le_trans (Pd OA.out (by rw [HQL.out];have:=HIL.out;omega)) (Nat.le_refl _)));clear f6;simp only [];have RR:=hid hv6;have KB:=hid (Kept.trans (Kept.drewN KA.out q5) k6);have OB:=hid (J8 (OA.out.drewN q5) k6);clear hv6 k6;obtain ⟨h,hdd,hdb⟩:=Pu HQS.out (i:=i) HQV.out;have hor:=Vz hdd hdb
      obtain ⟨d,hdn⟩:∃ d,nth Q (i/16)=d:=⟨_,rfl⟩;have hqc:=OB.out.cell (i/16) (by rw [HQL.out];exact HIL.out);have hqf:=OB.out.frozen (i/16);have BV:=hid (Tb (Q:=Q) (i:=i) (by rw [HQL.out];exact HIL.out));rw [hdn] at hor hqc hdb BV;have HDB:=hid hdb;have hil:=HIL.out;clear hdd hdb hdn;have hp2:=Ke (Nat.mod_lt i (show 0<16 by decide));rw [←hp2] at hor;clear hp2;obtain ⟨z,hz⟩:∃ z,d+2^(i%16)=z:=⟨_,rfl⟩;rw [hz] at hor HDB BV;clear hz;go_wp2_with fail;go_roundw
      case rel=>exact ⟨i,Q.set (i/16) z,by go_num,by omega,by rw [List.length_set];exact HQL.out,Bt HQS.out _ HDB.out,Th HQV.out BV.out HS2.out.1,by rw [HS2.out.2];exact RR.out.far F6.out (Nat.lt_succ_self _),by rw [HS2.out.2];exact F6.out,OB.out.stored (i/16) z,KB.out.setCell (Nat.le_refl _) _⟩
      case measure=>simp [intOf]
     ·have hS:=HS.out.2.2 hmr;have hd:decide (0≤Bp r1 m)=false:=by unfold Bp;rw [if_pos (by omega)];decide
      have HS2:=hid hS;clear hS;generalize Bp r1 m=cc at *;go_wp2_with fail;go_roundw
      case rel=>exact ⟨i,Q,by go_num,by omega,HQL.out,HQS.out,Qc HQV.out HS2.out.1,by rw [HS2.out.2];exact RA.out.drewN q5,by rw [HS2.out.2];exact RF.out,OA.out.drewN q5,Kept.drewN KA.out q5⟩
      case measure=>simp [intOf]
    ·obtain rfl:bt=0:=by omega
     obtain ⟨r1,hr⟩:∃ r1,n/2^(i+1)%m*2=r1:=⟨_,rfl⟩;rw [Nat.add_zero,Nat.mul_comm 2 (n/2^(i+1)%m),hr] at HS;rw [hr] at R2 F2;have RF:=F2;have hr1:r1<2*m:=by omega
     have RA:=hid (R2.out.drewN q3);have KA:=hid (Kept.drewN K.out q3);have OA:=hid (OQ.out.drewN q3);clear R2 OQ K;generalize w2.drewN q3=w3 at *;clear D2 D3;have D5:=hid (fun w1 x (k:Kept w w1) (hx:Lim w1 x (limbs r1))=>C5.out w1 x r1 k hx hr1);go_wp2_with fail;refine (D5.out _ _ KA.out RA.out).mono ?_;rintro e w5 ⟨rfl,q5,rfl⟩;simp only [];by_cases hmr:m≤r1
     ·have hS:=HS.out.2.1 hmr;have hc:¬Bp r1 m<0:=by unfold Bp;rw [if_neg (by omega)];split<;>decide
      have hd:decide (0≤Bp r1 m)=true:=by simp;omega
      have HS2:=hid hS;have D6:=hid (fun w1 x (k:Kept w w1) (hx:Lim w1 x (limbs r1))=>C6.out w1 x r1 k hx hr1 hmr);clear hc hS;generalize Bp r1 m=cc at *;go_wp2_with fail;refine (D6.out _ _ (Kept.drewN KA.out q5) (RA.out.drewN q5)).mono ?_;rintro e w6 ⟨v6,rfl,hv6,k6,f6⟩;have F6:=hid (Fresh.mono f6 (Nat.le_trans (Pd OA.out (by rw [HQL.out];have:=HIL.out;omega)) (Nat.le_refl _)));clear f6;simp only [];have RR:=hid hv6;have KB:=hid (Kept.trans (Kept.drewN KA.out q5) k6);have OB:=hid (J8 (OA.out.drewN q5) k6);clear hv6 k6;obtain ⟨h,hdd,hdb⟩:=Pu HQS.out (i:=i) HQV.out;have hor:=Vz hdd hdb
      obtain ⟨d,hdn⟩:∃ d,nth Q (i/16)=d:=⟨_,rfl⟩;have hqc:=OB.out.cell (i/16) (by rw [HQL.out];exact HIL.out);have hqf:=OB.out.frozen (i/16);have BV:=hid (Tb (Q:=Q) (i:=i) (by rw [HQL.out];exact HIL.out));rw [hdn] at hor hqc hdb BV;have HDB:=hid hdb;have hil:=HIL.out;clear hdd hdb hdn;have hp2:=Ke (Nat.mod_lt i (show 0<16 by decide));rw [←hp2] at hor;clear hp2;obtain ⟨z,hz⟩:∃ z,d+2^(i%16)=z:=⟨_,rfl⟩;rw [hz] at hor HDB BV;clear hz;go_wp2_with fail;go_roundw
      case rel=>exact ⟨i,Q.set (i/16) z,by go_num,by omega,by rw [List.length_set];exact HQL.out,Bt HQS.out _ HDB.out,Th HQV.out BV.out HS2.out.1,by rw [HS2.out.2];exact RR.out.far F6.out (Nat.lt_succ_self _),by rw [HS2.out.2];exact F6.out,OB.out.stored (i/16) z,KB.out.setCell (Nat.le_refl _) _⟩
      case measure=>simp [intOf]
     ·have hS:=HS.out.2.2 hmr;have hd:decide (0≤Bp r1 m)=false:=by unfold Bp;rw [if_pos (by omega)];decide
      have HS2:=hid hS;clear hS;generalize Bp r1 m=cc at *;go_wp2_with fail;go_roundw
      case rel=>exact ⟨i,Q,by go_num,by omega,HQL.out,HQS.out,Qc HQV.out HS2.out.1,by rw [HS2.out.2];exact RA.out.drewN q5,by rw [HS2.out.2];exact RF.out,OA.out.drewN q5,Kept.drewN KA.out q5⟩
      case measure=>simp [intOf]
end Go.Proofs.YtinbgjcooolbiaaGreatDoor.Dg
