/- Words and contracts, part 9. -/
import Derived.Test.YtmgaloopddiekaaGreatDoorClaimFargsp07
set_option maxRecDepth 100000
set_option maxHeartbeats 0
namespace Go.Proofs.YtmgaloopddiekaaGreatDoor
open Go.Lib (hid)
open Go.RowKit
theorem Dx (u d Y q:Nat)(hY:Y<18446744073709551616)(h0:0<Y)(hq:q=(u*4294967296+d)/Y) :
 IntKind.u64.wrap (IntKind.u64.wrap (IntKind.u64.wrap ((u:Int)*4294967296)+(d:Int))-IntKind.u64.wrap ((q:Int)*(Y:Int)))=(((u*4294967296+d)%Y:Nat):Int):=by
 have:=Zl u d Y q hY h0 hq;rw [←this];simp only [IntKind.wrap_u64];omega
def Aev (u d1 d0 Y s:Nat) (w:World) (e:Ending) (w':World):Prop:=∃ q1 q2 v t:Nat,e=.returned (.tuple #[.int .u64 ((q1*4294967296+q2:Nat):Int),.int .u64 ((t/2^s:Nat):Int)]) ∧
 q1=(u*4294967296+d1)/Y∧(u*4294967296+d1)%Y=v∧q2=(v*4294967296+d0)/Y∧(v*4294967296+d0)%Y=t∧∃ n,w'=w.drewN n
theorem Yd (hi lo y:Nat)(hy:y<18446744073709551616)(hlo:lo<18446744073709551616)(hlt:hi<y)(w:World) :
 Calls Tryz.prog 254 #[.int .u64 hi,.int .u64 lo,.int .u64 y] w (RetQ (.tuple #[.int .u64 ((hi*18446744073709551616+lo)/y:Nat),.int .u64 ((hi*18446744073709551616+lo)%y:Nat)]) w):=by
 by_cases h0:hi=0
 ·subst h0;have e1:(((y:Nat):Int)==0)=false:=by rw [beq_eq_false_iff_ne];omega
  have e2:¬y=0:=by omega
  rw [Nat.zero_mul,Nat.zero_add];go_enter Tryz.func254,Tryz.ntmps254;go_wp2_with fail
  go_quiet (fail)
  go_wp2;have ew:IntKind.u64.wrap ((lo:Int)/(y:Int))=((lo/y:Nat):Int):=by
   rw [←Int.natCast_ediv,IntKind.wrap_u64];have:=Nat.div_le_self lo y;generalize lo/y=z at *;omega
  refine bodyPost_ret (v:=.tuple #[.int .u64 ((lo/y:Nat):Int),.int .u64 ((lo%y:Nat):Int)]) (by simp [results,Tryz.results254,go_sem,ew]) rfl ⟨rfl,_,rfl⟩
 ·have e1:(((y:Nat):Int)==0)=false:=by rw [beq_eq_false_iff_ne];omega
  have e2:(((hi:Nat):Int)==0)=false:=by rw [beq_eq_false_iff_ne];omega
  have hb1:=Cm y;have hb2:=D0 y (by omega);have hb3:=On y hy;have hb4:=Id y (by omega);obtain ⟨s,hs⟩:∃ s,s+bl y=64:=⟨64-bl y,by omega⟩;have HB:=hid hs;have hlz:∀ w,Calls Tryz.prog 163 #[.int .u64 y] w fun e w'=>e=.returned (.int .i64 s)∧w=w':=by
   intro w;have:=Ah2 y w hy;rwa [show ((64:Int)-(bl y:Int))=(s:Int) by omega] at this
  have HLZ:=hid hlz;clear hlz hs;have hs64:s<64:=by have:=HB.out;omega
  have hY:y*2^s<18446744073709551616:=by
   have:=Nat.mul_lt_mul_of_pos_right hb1 (Nat.pow_pos (n:=s) (show 0<2 by decide));rw [←Nat.pow_add,show bl y+s=64 by have:=HB.out;omega] at this;exact this
  have hY2:9223372036854775808≤y*2^s:=by
   have:=Nat.mul_le_mul_right (2^s) hb2;rw [←Nat.pow_add,show bl y-1+s=63 by have:=HB.out;omega] at this;exact this
  clear hb1 hb2 hb3 hb4;obtain ⟨sh1,sh2,sh3,sh4⟩:=Aak hi lo y s hs64 hlo hlt;have hfin1:(hi*18446744073709551616+lo)/y=((hi*18446744073709551616+lo)*2^s)/(y*2^s):=(Nat.mul_div_mul_right _ _ (Nat.pow_pos (by decide))).symm;have hfin2:(hi*18446744073709551616+lo)%y=((hi*18446744073709551616+lo)*2^s)%(y*2^s)/2^s:=by
   rw [Nat.mul_mod_mul_right,Nat.mul_div_cancel _ (Nat.pow_pos (by decide))]
  rw [hfin1,hfin2,sh1];have eY:IntKind.u64.wrap ((y:Int)*2^s)=((y*2^s:Nat):Int):=by rw [Li,Nat.mod_eq_of_lt hY]
  have eU:bits .or .u64 (IntKind.u64.wrap ((hi:Int)*2^s)) ((lo:Int)/2^(64-s))=((hi*2^s+lo/2^(64-s):Nat):Int):=by
   have a:hi*2^s<18446744073709551616:=by omega
   rw [Li,Nat.mod_eq_of_lt a,Ox,Sw _ _ a (by omega),Nat.mul_comm hi,←Nat.two_pow_add_eq_or_of_lt sh3]
  have eL:IntKind.u64.wrap ((lo:Int)*2^s)=((lo*2^s%18446744073709551616:Nat):Int):=Li lo s;have hL:lo*2^s%18446744073709551616<18446744073709551616:=Nat.mod_lt _ (by decide);clear sh1 sh3 sh4 hfin1 hfin2;generalize y*2^s=Y at *;generalize hi*2^s+lo/2^(64-s)=u at *;generalize lo*2^s%18446744073709551616=L at *;have eY1:(Y:Int)/4294967296=((Y/4294967296:Nat):Int):=by omega
  have hyn1:2147483648≤Y/4294967296:=by omega
  have hyn1':Y/4294967296<4294967296:=by omega
  have eY0:bits .and .u64 (Y:Int) 4294967295=((Y%4294967296:Nat):Int):=Mul64.maskN Y hY;have hyn0:Y%4294967296<4294967296:=by omega
  have HYY:Hid (Y/4294967296*4294967296+Y%4294967296=Y):=by show _=_;omega
  generalize Y/4294967296=yn1 at *;generalize Y%4294967296=yn0 at *;have eL1:(L:Int)/4294967296=((L/4294967296:Nat):Int):=by omega
  have eL0:bits .and .u64 (L:Int) 4294967295=((L%4294967296:Nat):Int):=Mul64.maskN L hL;have hd1:L/4294967296<4294967296:=by omega
  have hd0:L%4294967296<4294967296:=by omega
  have eN:u*18446744073709551616+L=(u*4294967296+L/4294967296)*4294967296+L%4294967296:=by omega
  rw [eN];clear eN;generalize L/4294967296=d1 at *;generalize L%4294967296=d0 at *;have hTH:=Xv ((u*4294967296+d1)*4294967296+d0) Y d0 (u*4294967296+d1) (by omega) rfl hd0;refine Calls.mono (R:=Aev u d1 d0 Y s w) ?_ (fun e w' ⟨q1,q2,v,t,he,h1,h2,h3,h4,hw⟩=>⟨by rw [he,hTH.1,hTH.2,h2,←h1,←h3,h4],hw⟩);clear hTH;have hS:=Jz u d1 yn1 yn0 hd1 (by omega);have hqn:u/yn1*yn1≤u:=Nat.div_mul_le_self _ _;have hqb:u/yn1≤8589934592:=by
   rw [Nat.div_le_iff_le_mul_add_pred (by omega)];have:2147483648*8589934592≤yn1*8589934592:=Nat.mul_le_mul_right _ hyn1;omega
  have hr0:u%yn1<yn1:=Nat.mod_lt _ (by omega);have eq0:(u:Int)/(yn1:Int)=((u/yn1:Nat):Int):=rfl;generalize u/yn1=q0 at *;generalize u%yn1=r0 at *;have hp0:(0:Int)≤(q0:Int)*(yn1:Int):=by rw [←Int.natCast_mul];omega
  have hp1:(q0:Int)*(yn1:Int)≤(u:Int):=by rw [←Int.natCast_mul];omega
  have er0:(u:Int)-(q0:Int)*(yn1:Int)=(r0:Int):=by
   have:=hS.sum;rw [←Int.natCast_mul];omega
  have HS:=hid hS;have HU:Hid (u<yn1*4294967296+yn0):=by show _<_;rw [HYY.out];exact sh2
  clear hS;go_enter Tryz.func254,Tryz.ntmps254
  go_wp2_with (go_at_call 163;refine (HLZ.out _).mono ?_;rintro e w' ⟨rfl,rfl⟩)
  go_loop [15,16] (fun a b=>∃ q r:Nat,a=.int .u64 q∧b=.int .u64 r∧Fi u d1 yn1 yn0 q r∧r<4294967296∧q≤8589934592) (fun a _=>(intOf a).toNat)
  case atStart=>exact ⟨_,_,rfl,rfl,HS.out,by omega,hqb⟩
  case round =>
   obtain ⟨q,r,rfl,rfl,hI,hr,hq⟩:=hrel;have HI:=hid hI;clear hI HS hqn hqb eq0 hr0 hp0 hp1 er0 eU eY eY1 eY0 eL eL1 eL0;have hp2:(0:Int)≤(q:Int)*(yn0:Int):=by rw [←Int.natCast_mul];omega
   by_cases hA:4294967296≤q
   ·have hA':decide ((4294967296:Int)≤(q:Int))=true:=decide_eq_true (by omega);have hl:=F9 HI.out HU.out hd1 (by omega) (Or.inl hA);obtain ⟨hq1,hI'⟩:=hl;have HI':=hid hI';clear hA;clear hI';obtain ⟨r1,hr1⟩:∃ r1,r+yn1=r1:=⟨_,rfl⟩;obtain ⟨qq,hqe⟩:∃ qq,q-1=qq:=⟨_,rfl⟩;rw [hr1,hqe] at HI';have hri:(r:Int)+(yn1:Int)=(r1:Int):=by omega
    have hqi:(q:Int)-1=(qq:Int):=by omega
    have hqm:qq<q:=by omega
    clear hr1 hqe;by_cases hbr:r1<4294967296
    ·have hbr':decide ((4294967296:Int)≤(r1:Int))=false:=decide_eq_false (by omega);have HBR:=hid hbr;clear hbr;go_wp2_with fail
     go_round
     case rel=>exact ⟨qq,r1,rfl,rfl,HI'.out,HBR.out,by omega⟩
     case measure=>simp [intOf];omega
    ·have hqq:=Fc HI'.out HU.out hyn0 (by omega) (by omega);rw [HYY.out] at hqq;have HQ:=hid hqq;have hbr':decide ((4294967296:Int)≤(r1:Int))=true:=decide_eq_true (by omega);clear hqq hbr;have eR1:=Dx u d1 Y qq hY (by omega) HQ.out;have hq1b:=Dd u d1 Y sh2 hd1;have hv:(u*4294967296+d1)%Y<Y:=Nat.mod_lt _ (by omega);rw [←HQ.out] at hq1b;obtain ⟨v,hve⟩:∃ v,(u*4294967296+d1)%Y=v:=⟨_,rfl⟩;rw [hve] at eR1 hv;have HV:=hid hve;obtain ⟨q1,rfl⟩:∃ x,x=qq:=⟨qq,rfl⟩;have HQ1:=HQ;clear hve HQ;have HU2:Hid (v<yn1*4294967296+yn0):=by show _<_;rw [HYY.out];exact hv
     have hS:=Jz v d0 yn1 yn0 hd0 (by omega);have hqn:v/yn1*yn1≤v:=Nat.div_mul_le_self _ _;have hqb:v/yn1≤8589934592:=by
      rw [Nat.div_le_iff_le_mul_add_pred (by omega)];have:2147483648*8589934592≤yn1*8589934592:=Nat.mul_le_mul_right _ hyn1;omega
     have hr0:v%yn1<yn1:=Nat.mod_lt _ (by omega);have eq0:(v:Int)/(yn1:Int)=((v/yn1:Nat):Int):=rfl;generalize v/yn1=q0 at *;generalize v%yn1=r0 at *;have hp0:(0:Int)≤(q0:Int)*(yn1:Int):=by rw [←Int.natCast_mul];omega
     have hp1:(q0:Int)*(yn1:Int)≤(v:Int):=by rw [←Int.natCast_mul];omega
     have er0:(v:Int)-(q0:Int)*(yn1:Int)=(r0:Int):=by
      have:=hS.sum;rw [←Int.natCast_mul];omega
     have HS:=hid hS;clear hS HU;have HU:=HU2;go_wp2_with fail
     go_loop [18,16] (fun a b=>∃ q r:Nat,a=.int .u64 q∧b=.int .u64 r∧Fi v d0 yn1 yn0 q r∧r<4294967296∧q≤8589934592) (fun a _=>(intOf a).toNat)
     case atStart=>exact ⟨_,_,rfl,rfl,HS.out,by omega,hqb⟩
     case round =>
      obtain ⟨q,r,rfl,rfl,hI,hr,hq⟩:=hrel;have HI:=hid hI;clear hI HS hqn hqb eq0 hr0 hp0 hp1 er0 ;have hp2:(0:Int)≤(q:Int)*(yn0:Int):=by rw [←Int.natCast_mul];omega
      by_cases hA:4294967296≤q
      ·have hA':decide ((4294967296:Int)≤(q:Int))=true:=decide_eq_true (by omega);have hl:=F9 HI.out HU.out hd0 (by omega) (Or.inl hA);obtain ⟨hq1,hI'⟩:=hl;have HI':=hid hI';clear hA;clear hI';obtain ⟨r1,hr1⟩:∃ r1,r+yn1=r1:=⟨_,rfl⟩;obtain ⟨qq,hqe⟩:∃ qq,q-1=qq:=⟨_,rfl⟩;rw [hr1,hqe] at HI';have hri:(r:Int)+(yn1:Int)=(r1:Int):=by omega
       have hqi:(q:Int)-1=(qq:Int):=by omega
       have hqm:qq<q:=by omega
       clear hr1 hqe;by_cases hbr:r1<4294967296
       ·have hbr':decide ((4294967296:Int)≤(r1:Int))=false:=decide_eq_false (by omega);have HBR:=hid hbr;clear hbr;go_wp2_with fail
        go_round
        case rel=>exact ⟨qq,r1,rfl,rfl,HI'.out,HBR.out,by omega⟩
        case measure=>simp [intOf];omega
       ·have hqq:=Fc HI'.out HU.out hyn0 (by omega) (by omega);rw [HYY.out] at hqq;have HQ:=hid hqq;have hbr':decide ((4294967296:Int)≤(r1:Int))=true:=decide_eq_true (by omega);clear hqq hbr;have eR2:=Dx v d0 Y qq hY (by omega) HQ.out;have hqq2:=Dd v d0 Y hv hd0;rw [←HQ.out] at hqq2;obtain ⟨t,ht⟩:∃ t,(v*4294967296+d0)%Y=t:=⟨_,rfl⟩;rw [ht] at eR2;have HT:=hid ht;clear ht;go_wp2_with fail;refine bodyPost_ret (v:=.tuple #[.int .u64 ((q1*4294967296+qq:Nat):Int),.int .u64 ((t/2^s:Nat):Int)]) (by simp [results,Tryz.results254,go_sem]) rfl ⟨q1,qq,v,t,rfl,HQ1.out,HV.out,HQ.out,HT.out,0,rfl⟩
      ·have hp3:q*yn0≤4294967296*4294967295:=Nat.mul_le_mul (by omega) (by omega);have hA':decide ((4294967296:Int)≤(q:Int))=false:=decide_eq_false (by omega);have hm1:(q:Int)*(yn0:Int)=((q*yn0:Nat):Int):=(Int.natCast_mul _ _).symm;have hm2:(4294967296:Int)*(r:Int)=((4294967296*r:Nat):Int):=by omega
       have hm3:((4294967296*r:Nat):Int)+(d0:Int)=((4294967296*r+d0:Nat):Int):=by omega
       have hm4:4294967296*r+d0<18446744073709551616:=by omega
       have hm5:4294967296*r<18446744073709551616:=by omega
       have HM:Hid (4294967296*r+d0<q*yn0∨q*yn0≤4294967296*r+d0):=Nat.lt_or_ge _ _;have HF1:Hid (4294967296*r+d0<q*yn0→1≤q∧Fi v d0 yn1 yn0 (q-1) (r+yn1)):=fun hB=>F9 HI.out HU.out hd0 (by omega) (Or.inr hB)
       have HF2:Hid (q*yn0≤4294967296*r+d0→q=(v*4294967296+d0)/(yn1*4294967296+yn0)):=fun hB=>Jj HI.out (by omega) hB
       clear hp2 hA;generalize 4294967296*r+d0=z at *;generalize 4294967296*r=zr at *;generalize q*yn0=pq at *;by_cases hB:z<pq
       ·have hl:=HF1.out hB;have hB':decide (z<pq)=true:=decide_eq_true hB;obtain ⟨hq1,hI'⟩:=hl;have HI':=hid hI'
        skip
        clear hI';obtain ⟨r1,hr1⟩:∃ r1,r+yn1=r1:=⟨_,rfl⟩;obtain ⟨qq,hqe⟩:∃ qq,q-1=qq:=⟨_,rfl⟩;rw [hr1,hqe] at HI';have hri:(r:Int)+(yn1:Int)=(r1:Int):=by omega
        have hqi:(q:Int)-1=(qq:Int):=by omega
        have hqm:qq<q:=by omega
        clear hr1 hqe;by_cases hbr:r1<4294967296
        ·have hbr':decide ((4294967296:Int)≤(r1:Int))=false:=decide_eq_false (by omega);have HBR:=hid hbr;clear hbr;go_wp2_with fail
         go_round
         case rel=>exact ⟨qq,r1,rfl,rfl,HI'.out,HBR.out,by omega⟩
         case measure=>simp [intOf];omega
        ·have hqq:=Fc HI'.out HU.out hyn0 (by omega) (by omega);rw [HYY.out] at hqq;have HQ:=hid hqq;have hbr':decide ((4294967296:Int)≤(r1:Int))=true:=decide_eq_true (by omega);clear hqq hbr;have eR2:=Dx v d0 Y qq hY (by omega) HQ.out;have hqq2:=Dd v d0 Y hv hd0;rw [←HQ.out] at hqq2;obtain ⟨t,ht⟩:∃ t,(v*4294967296+d0)%Y=t:=⟨_,rfl⟩;rw [ht] at eR2;have HT:=hid ht;clear ht;go_wp2_with fail;refine bodyPost_ret (v:=.tuple #[.int .u64 ((q1*4294967296+qq:Nat):Int),.int .u64 ((t/2^s:Nat):Int)]) (by simp [results,Tryz.results254,go_sem]) rfl ⟨q1,qq,v,t,rfl,HQ1.out,HV.out,HQ.out,HT.out,0,rfl⟩
       ·have hB':decide (z<pq)=false:=decide_eq_false hB;have hqq:=HF2.out (by omega);rw [HYY.out] at hqq;have HQ:=hid hqq;clear hqq;obtain ⟨qq,rfl⟩:∃ x,x=q:=⟨q,rfl⟩;have eR2:=Dx v d0 Y qq hY (by omega) HQ.out;have hqq2:=Dd v d0 Y hv hd0;rw [←HQ.out] at hqq2;obtain ⟨t,ht⟩:∃ t,(v*4294967296+d0)%Y=t:=⟨_,rfl⟩;rw [ht] at eR2;have HT:=hid ht;clear ht;go_wp2_with fail;refine bodyPost_ret (v:=.tuple #[.int .u64 ((q1*4294967296+qq:Nat):Int),.int .u64 ((t/2^s:Nat):Int)]) (by simp [results,Tryz.results254,go_sem]) rfl ⟨q1,qq,v,t,rfl,HQ1.out,HV.out,HQ.out,HT.out,0,rfl⟩
   ·have hp3:q*yn0≤4294967296*4294967295:=Nat.mul_le_mul (by omega) (by omega);have hA':decide ((4294967296:Int)≤(q:Int))=false:=decide_eq_false (by omega);have hm1:(q:Int)*(yn0:Int)=((q*yn0:Nat):Int):=(Int.natCast_mul _ _).symm;have hm2:(4294967296:Int)*(r:Int)=((4294967296*r:Nat):Int):=by omega
    have hm3:((4294967296*r:Nat):Int)+(d1:Int)=((4294967296*r+d1:Nat):Int):=by omega
    have hm4:4294967296*r+d1<18446744073709551616:=by omega
    have hm5:4294967296*r<18446744073709551616:=by omega
    have HM:Hid (4294967296*r+d1<q*yn0∨q*yn0≤4294967296*r+d1):=Nat.lt_or_ge _ _;have HF1:Hid (4294967296*r+d1<q*yn0→1≤q∧Fi u d1 yn1 yn0 (q-1) (r+yn1)):=fun hB=>F9 HI.out HU.out hd1 (by omega) (Or.inr hB)
    have HF2:Hid (q*yn0≤4294967296*r+d1→q=(u*4294967296+d1)/(yn1*4294967296+yn0)):=fun hB=>Jj HI.out (by omega) hB
    clear hp2 hA;generalize 4294967296*r+d1=z at *;generalize 4294967296*r=zr at *;generalize q*yn0=pq at *;by_cases hB:z<pq
    ·have hl:=HF1.out hB;have hB':decide (z<pq)=true:=decide_eq_true hB;obtain ⟨hq1,hI'⟩:=hl;have HI':=hid hI'
     skip
     clear hI';obtain ⟨r1,hr1⟩:∃ r1,r+yn1=r1:=⟨_,rfl⟩;obtain ⟨qq,hqe⟩:∃ qq,q-1=qq:=⟨_,rfl⟩;rw [hr1,hqe] at HI';have hri:(r:Int)+(yn1:Int)=(r1:Int):=by omega
     have hqi:(q:Int)-1=(qq:Int):=by omega
     have hqm:qq<q:=by omega
     clear hr1 hqe;by_cases hbr:r1<4294967296
     ·have hbr':decide ((4294967296:Int)≤(r1:Int))=false:=decide_eq_false (by omega);have HBR:=hid hbr;clear hbr;go_wp2_with fail
      go_round
      case rel=>exact ⟨qq,r1,rfl,rfl,HI'.out,HBR.out,by omega⟩
      case measure=>simp [intOf];omega
     ·have hqq:=Fc HI'.out HU.out hyn0 (by omega) (by omega);rw [HYY.out] at hqq;have HQ:=hid hqq;have hbr':decide ((4294967296:Int)≤(r1:Int))=true:=decide_eq_true (by omega);clear hqq hbr;have eR1:=Dx u d1 Y qq hY (by omega) HQ.out;have hq1b:=Dd u d1 Y sh2 hd1;have hv:(u*4294967296+d1)%Y<Y:=Nat.mod_lt _ (by omega);rw [←HQ.out] at hq1b;obtain ⟨v,hve⟩:∃ v,(u*4294967296+d1)%Y=v:=⟨_,rfl⟩;rw [hve] at eR1 hv;have HV:=hid hve;obtain ⟨q1,rfl⟩:∃ x,x=qq:=⟨qq,rfl⟩;have HQ1:=HQ;clear hve HQ;have HU2:Hid (v<yn1*4294967296+yn0):=by show _<_;rw [HYY.out];exact hv
      have hS:=Jz v d0 yn1 yn0 hd0 (by omega);have hqn:v/yn1*yn1≤v:=Nat.div_mul_le_self _ _;have hqb:v/yn1≤8589934592:=by
       rw [Nat.div_le_iff_le_mul_add_pred (by omega)];have:2147483648*8589934592≤yn1*8589934592:=Nat.mul_le_mul_right _ hyn1;omega
      have hr0:v%yn1<yn1:=Nat.mod_lt _ (by omega);have eq0:(v:Int)/(yn1:Int)=((v/yn1:Nat):Int):=rfl;generalize v/yn1=q0 at *;generalize v%yn1=r0 at *;have hp0:(0:Int)≤(q0:Int)*(yn1:Int):=by rw [←Int.natCast_mul];omega
      have hp1:(q0:Int)*(yn1:Int)≤(v:Int):=by rw [←Int.natCast_mul];omega
      have er0:(v:Int)-(q0:Int)*(yn1:Int)=(r0:Int):=by
       have:=hS.sum;rw [←Int.natCast_mul];omega
      have HS:=hid hS;clear hS HU;have HU:=HU2;go_wp2_with fail
      go_loop [18,16] (fun a b=>∃ q r:Nat,a=.int .u64 q∧b=.int .u64 r∧Fi v d0 yn1 yn0 q r∧r<4294967296∧q≤8589934592) (fun a _=>(intOf a).toNat)
      case atStart=>exact ⟨_,_,rfl,rfl,HS.out,by omega,hqb⟩
      case round =>
       obtain ⟨q,r,rfl,rfl,hI,hr,hq⟩:=hrel;have HI:=hid hI;clear hI HS hqn hqb eq0 hr0 hp0 hp1 er0 ;have hp2:(0:Int)≤(q:Int)*(yn0:Int):=by rw [←Int.natCast_mul];omega
       by_cases hA:4294967296≤q
       ·have hA':decide ((4294967296:Int)≤(q:Int))=true:=decide_eq_true (by omega);have hl:=F9 HI.out HU.out hd0 (by omega) (Or.inl hA);obtain ⟨hq1,hI'⟩:=hl;have HI':=hid hI';clear hA;clear hI';obtain ⟨r1,hr1⟩:∃ r1,r+yn1=r1:=⟨_,rfl⟩;obtain ⟨qq,hqe⟩:∃ qq,q-1=qq:=⟨_,rfl⟩;rw [hr1,hqe] at HI';have hri:(r:Int)+(yn1:Int)=(r1:Int):=by omega
        have hqi:(q:Int)-1=(qq:Int):=by omega
        have hqm:qq<q:=by omega
        clear hr1 hqe;by_cases hbr:r1<4294967296
        ·have hbr':decide ((4294967296:Int)≤(r1:Int))=false:=decide_eq_false (by omega);have HBR:=hid hbr;clear hbr;go_wp2_with fail
         go_round
         case rel=>exact ⟨qq,r1,rfl,rfl,HI'.out,HBR.out,by omega⟩
         case measure=>simp [intOf];omega
        ·have hqq:=Fc HI'.out HU.out hyn0 (by omega) (by omega);rw [HYY.out] at hqq;have HQ:=hid hqq;have hbr':decide ((4294967296:Int)≤(r1:Int))=true:=decide_eq_true (by omega);clear hqq hbr;have eR2:=Dx v d0 Y qq hY (by omega) HQ.out;have hqq2:=Dd v d0 Y hv hd0;rw [←HQ.out] at hqq2;obtain ⟨t,ht⟩:∃ t,(v*4294967296+d0)%Y=t:=⟨_,rfl⟩;rw [ht] at eR2;have HT:=hid ht;clear ht;go_wp2_with fail;refine bodyPost_ret (v:=.tuple #[.int .u64 ((q1*4294967296+qq:Nat):Int),.int .u64 ((t/2^s:Nat):Int)]) (by simp [results,Tryz.results254,go_sem]) rfl ⟨q1,qq,v,t,rfl,HQ1.out,HV.out,HQ.out,HT.out,0,rfl⟩
       ·have hp3:q*yn0≤4294967296*4294967295:=Nat.mul_le_mul (by omega) (by omega);have hA':decide ((4294967296:Int)≤(q:Int))=false:=decide_eq_false (by omega);have hm1:(q:Int)*(yn0:Int)=((q*yn0:Nat):Int):=(Int.natCast_mul _ _).symm;have hm2:(4294967296:Int)*(r:Int)=((4294967296*r:Nat):Int):=by omega
        have hm3:((4294967296*r:Nat):Int)+(d0:Int)=((4294967296*r+d0:Nat):Int):=by omega
        have hm4:4294967296*r+d0<18446744073709551616:=by omega
        have hm5:4294967296*r<18446744073709551616:=by omega
        have HM:Hid (4294967296*r+d0<q*yn0∨q*yn0≤4294967296*r+d0):=Nat.lt_or_ge _ _;have HF1:Hid (4294967296*r+d0<q*yn0→1≤q∧Fi v d0 yn1 yn0 (q-1) (r+yn1)):=fun hB=>F9 HI.out HU.out hd0 (by omega) (Or.inr hB)
        have HF2:Hid (q*yn0≤4294967296*r+d0→q=(v*4294967296+d0)/(yn1*4294967296+yn0)):=fun hB=>Jj HI.out (by omega) hB
        clear hp2 hA;generalize 4294967296*r+d0=z at *;generalize 4294967296*r=zr at *;generalize q*yn0=pq at *;by_cases hB:z<pq
        ·have hl:=HF1.out hB;have hB':decide (z<pq)=true:=decide_eq_true hB;obtain ⟨hq1,hI'⟩:=hl;have HI':=hid hI'
         skip
         clear hI';obtain ⟨r1,hr1⟩:∃ r1,r+yn1=r1:=⟨_,rfl⟩;obtain ⟨qq,hqe⟩:∃ qq,q-1=qq:=⟨_,rfl⟩;rw [hr1,hqe] at HI';have hri:(r:Int)+(yn1:Int)=(r1:Int):=by omega
         have hqi:(q:Int)-1=(qq:Int):=by omega
         have hqm:qq<q:=by omega
         clear hr1 hqe;by_cases hbr:r1<4294967296
         ·have hbr':decide ((4294967296:Int)≤(r1:Int))=false:=decide_eq_false (by omega);have HBR:=hid hbr;clear hbr;go_wp2_with fail
          go_round
          case rel=>exact ⟨qq,r1,rfl,rfl,HI'.out,HBR.out,by omega⟩
          case measure=>simp [intOf];omega
         ·have hqq:=Fc HI'.out HU.out hyn0 (by omega) (by omega);rw [HYY.out] at hqq;have HQ:=hid hqq;have hbr':decide ((4294967296:Int)≤(r1:Int))=true:=decide_eq_true (by omega);clear hqq hbr;have eR2:=Dx v d0 Y qq hY (by omega) HQ.out;have hqq2:=Dd v d0 Y hv hd0;rw [←HQ.out] at hqq2;obtain ⟨t,ht⟩:∃ t,(v*4294967296+d0)%Y=t:=⟨_,rfl⟩;rw [ht] at eR2;have HT:=hid ht;clear ht;go_wp2_with fail;refine bodyPost_ret (v:=.tuple #[.int .u64 ((q1*4294967296+qq:Nat):Int),.int .u64 ((t/2^s:Nat):Int)]) (by simp [results,Tryz.results254,go_sem]) rfl ⟨q1,qq,v,t,rfl,HQ1.out,HV.out,HQ.out,HT.out,0,rfl⟩
        ·have hB':decide (z<pq)=false:=decide_eq_false hB;have hqq:=HF2.out (by omega);rw [HYY.out] at hqq;have HQ:=hid hqq;clear hqq;obtain ⟨qq,rfl⟩:∃ x,x=q:=⟨q,rfl⟩;have eR2:=Dx v d0 Y qq hY (by omega) HQ.out;have hqq2:=Dd v d0 Y hv hd0;rw [←HQ.out] at hqq2;obtain ⟨t,ht⟩:∃ t,(v*4294967296+d0)%Y=t:=⟨_,rfl⟩;rw [ht] at eR2;have HT:=hid ht;clear ht;go_wp2_with fail;refine bodyPost_ret (v:=.tuple #[.int .u64 ((q1*4294967296+qq:Nat):Int),.int .u64 ((t/2^s:Nat):Int)]) (by simp [results,Tryz.results254,go_sem]) rfl ⟨q1,qq,v,t,rfl,HQ1.out,HV.out,HQ.out,HT.out,0,rfl⟩
    ·have hB':decide (z<pq)=false:=decide_eq_false hB;have hqq:=HF2.out (by omega);rw [HYY.out] at hqq;have HQ:=hid hqq;clear hqq;obtain ⟨qq,rfl⟩:∃ x,x=q:=⟨q,rfl⟩;have eR1:=Dx u d1 Y qq hY (by omega) HQ.out;have hq1b:=Dd u d1 Y sh2 hd1;have hv:(u*4294967296+d1)%Y<Y:=Nat.mod_lt _ (by omega);rw [←HQ.out] at hq1b;obtain ⟨v,hve⟩:∃ v,(u*4294967296+d1)%Y=v:=⟨_,rfl⟩;rw [hve] at eR1 hv;have HV:=hid hve;obtain ⟨q1,rfl⟩:∃ x,x=qq:=⟨qq,rfl⟩;have HQ1:=HQ;clear hve HQ;have HU2:Hid (v<yn1*4294967296+yn0):=by show _<_;rw [HYY.out];exact hv
     have hS:=Jz v d0 yn1 yn0 hd0 (by omega);have hqn:v/yn1*yn1≤v:=Nat.div_mul_le_self _ _;have hqb:v/yn1≤8589934592:=by
      rw [Nat.div_le_iff_le_mul_add_pred (by omega)];have:2147483648*8589934592≤yn1*8589934592:=Nat.mul_le_mul_right _ hyn1;omega
     have hr0:v%yn1<yn1:=Nat.mod_lt _ (by omega);have eq0:(v:Int)/(yn1:Int)=((v/yn1:Nat):Int):=rfl;generalize v/yn1=q0 at *;generalize v%yn1=r0 at *;have hp0:(0:Int)≤(q0:Int)*(yn1:Int):=by rw [←Int.natCast_mul];omega
     have hp1:(q0:Int)*(yn1:Int)≤(v:Int):=by rw [←Int.natCast_mul];omega
     have er0:(v:Int)-(q0:Int)*(yn1:Int)=(r0:Int):=by
      have:=hS.sum;rw [←Int.natCast_mul];omega
     have HS:=hid hS;clear hS HU;have HU:=HU2;go_wp2_with fail
     go_loop [18,16] (fun a b=>∃ q r:Nat,a=.int .u64 q∧b=.int .u64 r∧Fi v d0 yn1 yn0 q r∧r<4294967296∧q≤8589934592) (fun a _=>(intOf a).toNat)
     case atStart=>exact ⟨_,_,rfl,rfl,HS.out,by omega,hqb⟩
     case round =>
      obtain ⟨q,r,rfl,rfl,hI,hr,hq⟩:=hrel;have HI:=hid hI;clear hI HS hqn hqb eq0 hr0 hp0 hp1 er0 ;have hp2:(0:Int)≤(q:Int)*(yn0:Int):=by rw [←Int.natCast_mul];omega
      by_cases hA:4294967296≤q
      ·have hA':decide ((4294967296:Int)≤(q:Int))=true:=decide_eq_true (by omega);have hl:=F9 HI.out HU.out hd0 (by omega) (Or.inl hA);obtain ⟨hq1,hI'⟩:=hl;have HI':=hid hI';clear hA;clear hI';obtain ⟨r1,hr1⟩:∃ r1,r+yn1=r1:=⟨_,rfl⟩;obtain ⟨qq,hqe⟩:∃ qq,q-1=qq:=⟨_,rfl⟩;rw [hr1,hqe] at HI';have hri:(r:Int)+(yn1:Int)=(r1:Int):=by omega
       have hqi:(q:Int)-1=(qq:Int):=by omega
       have hqm:qq<q:=by omega
       clear hr1 hqe;by_cases hbr:r1<4294967296
       ·have hbr':decide ((4294967296:Int)≤(r1:Int))=false:=decide_eq_false (by omega);have HBR:=hid hbr;clear hbr;go_wp2_with fail
        go_round
        case rel=>exact ⟨qq,r1,rfl,rfl,HI'.out,HBR.out,by omega⟩
        case measure=>simp [intOf];omega
       ·have hqq:=Fc HI'.out HU.out hyn0 (by omega) (by omega);rw [HYY.out] at hqq;have HQ:=hid hqq;have hbr':decide ((4294967296:Int)≤(r1:Int))=true:=decide_eq_true (by omega);clear hqq hbr;have eR2:=Dx v d0 Y qq hY (by omega) HQ.out;have hqq2:=Dd v d0 Y hv hd0;rw [←HQ.out] at hqq2;obtain ⟨t,ht⟩:∃ t,(v*4294967296+d0)%Y=t:=⟨_,rfl⟩;rw [ht] at eR2;have HT:=hid ht;clear ht;go_wp2_with fail;refine bodyPost_ret (v:=.tuple #[.int .u64 ((q1*4294967296+qq:Nat):Int),.int .u64 ((t/2^s:Nat):Int)]) (by simp [results,Tryz.results254,go_sem]) rfl ⟨q1,qq,v,t,rfl,HQ1.out,HV.out,HQ.out,HT.out,0,rfl⟩
      ·have hp3:q*yn0≤4294967296*4294967295:=Nat.mul_le_mul (by omega) (by omega);have hA':decide ((4294967296:Int)≤(q:Int))=false:=decide_eq_false (by omega);have hm1:(q:Int)*(yn0:Int)=((q*yn0:Nat):Int):=(Int.natCast_mul _ _).symm;have hm2:(4294967296:Int)*(r:Int)=((4294967296*r:Nat):Int):=by omega
       have hm3:((4294967296*r:Nat):Int)+(d0:Int)=((4294967296*r+d0:Nat):Int):=by omega
       have hm4:4294967296*r+d0<18446744073709551616:=by omega
       have hm5:4294967296*r<18446744073709551616:=by omega
       have HM:Hid (4294967296*r+d0<q*yn0∨q*yn0≤4294967296*r+d0):=Nat.lt_or_ge _ _;have HF1:Hid (4294967296*r+d0<q*yn0→1≤q∧Fi v d0 yn1 yn0 (q-1) (r+yn1)):=fun hB=>F9 HI.out HU.out hd0 (by omega) (Or.inr hB)
       have HF2:Hid (q*yn0≤4294967296*r+d0→q=(v*4294967296+d0)/(yn1*4294967296+yn0)):=fun hB=>Jj HI.out (by omega) hB
       clear hp2 hA;generalize 4294967296*r+d0=z at *;generalize 4294967296*r=zr at *;generalize q*yn0=pq at *;by_cases hB:z<pq
       ·have hl:=HF1.out hB;have hB':decide (z<pq)=true:=decide_eq_true hB;obtain ⟨hq1,hI'⟩:=hl;have HI':=hid hI'
        skip
        clear hI';obtain ⟨r1,hr1⟩:∃ r1,r+yn1=r1:=⟨_,rfl⟩;obtain ⟨qq,hqe⟩:∃ qq,q-1=qq:=⟨_,rfl⟩;rw [hr1,hqe] at HI';have hri:(r:Int)+(yn1:Int)=(r1:Int):=by omega
        have hqi:(q:Int)-1=(qq:Int):=by omega
        have hqm:qq<q:=by omega
        clear hr1 hqe;by_cases hbr:r1<4294967296
        ·have hbr':decide ((4294967296:Int)≤(r1:Int))=false:=decide_eq_false (by omega);have HBR:=hid hbr;clear hbr;go_wp2_with fail
         go_round
         case rel=>exact ⟨qq,r1,rfl,rfl,HI'.out,HBR.out,by omega⟩
         case measure=>simp [intOf];omega
        ·have hqq:=Fc HI'.out HU.out hyn0 (by omega) (by omega);rw [HYY.out] at hqq;have HQ:=hid hqq;have hbr':decide ((4294967296:Int)≤(r1:Int))=true:=decide_eq_true (by omega);clear hqq hbr;have eR2:=Dx v d0 Y qq hY (by omega) HQ.out;have hqq2:=Dd v d0 Y hv hd0;rw [←HQ.out] at hqq2;obtain ⟨t,ht⟩:∃ t,(v*4294967296+d0)%Y=t:=⟨_,rfl⟩;rw [ht] at eR2;have HT:=hid ht;clear ht;go_wp2_with fail;refine bodyPost_ret (v:=.tuple #[.int .u64 ((q1*4294967296+qq:Nat):Int),.int .u64 ((t/2^s:Nat):Int)]) (by simp [results,Tryz.results254,go_sem]) rfl ⟨q1,qq,v,t,rfl,HQ1.out,HV.out,HQ.out,HT.out,0,rfl⟩
       ·have hB':decide (z<pq)=false:=decide_eq_false hB;have hqq:=HF2.out (by omega);rw [HYY.out] at hqq;have HQ:=hid hqq;clear hqq;obtain ⟨qq,rfl⟩:∃ x,x=q:=⟨q,rfl⟩;have eR2:=Dx v d0 Y qq hY (by omega) HQ.out;have hqq2:=Dd v d0 Y hv hd0;rw [←HQ.out] at hqq2;obtain ⟨t,ht⟩:∃ t,(v*4294967296+d0)%Y=t:=⟨_,rfl⟩;rw [ht] at eR2;have HT:=hid ht;clear ht;go_wp2_with fail;refine bodyPost_ret (v:=.tuple #[.int .u64 ((q1*4294967296+qq:Nat):Int),.int .u64 ((t/2^s:Nat):Int)]) (by simp [results,Tryz.results254,go_sem]) rfl ⟨q1,qq,v,t,rfl,HQ1.out,HV.out,HQ.out,HT.out,0,rfl⟩
end Go.Proofs.YtmgaloopddiekaaGreatDoor
