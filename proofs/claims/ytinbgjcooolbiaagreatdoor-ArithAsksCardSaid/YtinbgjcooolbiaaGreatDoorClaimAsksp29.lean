/- Words and contracts, part 29. -/
import Derived.Test.YtinbgjcooolbiaaGreatDoorClaimAsksp10
set_option maxRecDepth 100000
set_option maxHeartbeats 0
namespace Go.Proofs.YtinbgjcooolbiaaGreatDoor.Dg
open Go.Lib (hid)
open Go.RowKit
theorem Ac0 {w:World}{v u:Value}{n m:Nat}(hv:Lim w v (limbs n))(hu:Lim w u (limbs m))(hl:(limbs n).length≤1000000)(hl':(limbs m).length≤1000000) :
 Calls Tryz.prog 94 #[v,u] w (RetLimF (limbs (n+m)) w):=by
 obtain ⟨hs,A,c,rfl,hc,hA⟩:=hv;obtain ⟨hs',A',c',rfl,hc',hA'⟩:=hu;have HE:=hid (fun i (h1:(limbs n).length≤i) (h2:(limbs m).length≤i) h0=>Yz (xs:=limbs n) (ys:=limbs m) h1 h2 h0);rw [val_limbs,val_limbs] at HE;have HZ:=hid (fun i (h1:(limbs n).length≤i) (h2:(limbs m).length≤i)=>Vu hs hs' h1 h2);have HX:=hid (fun i=>nth_lt hs i);have HY:=hid (fun i=>nth_lt hs' i);have HCY:=hid (Ks hs hs');have HBX:=hid (fun i (h:(limbs n).length≤i)=>Gs h);have HBY:=hid (fun i (h:(limbs m).length≤i)=>Gs h);have HA:=hid hA;have HA':=hid hA';clear hA hA' hs hs';obtain ⟨s,hsm⟩:∃ s,s=n+m:=⟨_,rfl⟩
 rw [←hsm] at HE ⊢;clear hsm;generalize limbs n=xs at *;generalize limbs m=ys at *;generalize xs.length=l at *;generalize ys.length=l' at *;obtain ⟨i0,hi,hz0,hz1,hz2⟩:=info_parts uinfo;go_enter Tryz.func94,Tryz.ntmps94;go_wp2_with fail
 go_loopw [5,6,7] (fun o cy i wr=>∃ k:Nat,k≤max l l'+1∧i=.int .i64 k∧cy=.int .u32 ((adS xs ys k).2:Nat)∧Own wr w.heap.size o (adS xs ys k).1∧Below w.heap.size w wr) (fun _ _ i _=>(max l l'+1-intOf i).toNat)
 case atStart=>exact ⟨0,Nat.zero_le _,rfl,rfl,World.ownsRow_nil _ _ _ _,Below.refl _ _⟩
 case round =>
  obtain ⟨k,hk,rfl,rfl,hO,hB⟩:=hrel;have HO:=hid hO;have HB:=hid hB;clear hO hB;have hcy:=HCY.out k;have HLN:=hid (Jp xs ys k);have HST:=hid (show adS xs ys (k+1)=((adS xs ys k).1++[((adS xs ys k).2+nth xs k+nth ys k)%65536],((adS xs ys k).2+nth xs k+nth ys k)/65536) from rfl);obtain ⟨L,hL⟩:∃ L,(adS xs ys k).1=L:=⟨_,rfl⟩;obtain ⟨cy,hcc⟩:∃ cy,(adS xs ys k).2=cy:=⟨_,rfl⟩;rw [hcc] at hcy;have HCC:=hid hcc;rw [hL] at HO HLN HST;rw [hcc] at HST;by_cases h1:k<l
  ·obtain ⟨b,off,rfl,hb,hcell⟩:=HA.out (by omega);have hck:=(HB.out.cell (p:=⟨b,off+k,none⟩) hb).trans (hcell k h1);have hxk:=HX.out k;clear hcell;by_cases h2:k<l'
   ·obtain ⟨b',off',rfl,hb',hcell'⟩:=HA'.out (by omega);have hck':=(HB.out.cell (p:=⟨b',off'+k,none⟩) hb').trans (hcell' k h2);have hyk:=HY.out k;clear hcell';rw [hcc];generalize nth xs k=x at *;generalize nth ys k=y at *;obtain ⟨t,ht⟩:∃ t,t=cy+x+y:=⟨_,rfl⟩;rw [←ht] at HST;have hlt:t<4294967296:=by omega
    obtain ⟨d,hd⟩:∃ d,d=t%65536:=⟨_,rfl⟩;have hand:bits .and .u32 ((cy:Int)+(x:Int)+(y:Int)) 65535=(d:Int):=by rw [hd,←Hp t hlt];congr 1;omega
    rw [←hd] at HST;have HD:=hid hd;have HT:=hid ht;clear hd
    go_wp2_with (at_builtin;go_must (refine wpList_append_own _ rfl _ _ 79 rfl w.heap.size 91 i0 (.int .u32 0) 1 4 Tryz.underlying79 hi hz0 hz1 hz2 rfl (by decide) _ L.length (L.map U) rfl (World.ownsRow.alloc HO.out _) ⟨_,0,none⟩ 1 1 [_] rfl rfl (Bl _ _ _) (by simp [Value.oneCell']) (by rw [HLN.out];unfold maxLen;omega) (by rw [HLN.out];omega) (by have:=HB.out.size;simp;omega) ?_))
    intro v' w2 hown2 hgrow2 _;have ho:Hid (Own w2 w.heap.size v' (L++[d])):=own_of_rows (ys:=[d]) hown2;have hk:Hid (Below w.heap.size w w2):=Below.grown (HB.out.alloc HB.out.size _) hgrow2 (by have:=HB.out.size;simp;omega) (fun k hk=>(World.ownsRow.lt HO.out k hk).1);clear hown2 hgrow2;go_wp2_with fail;go_roundw
    case rel=>exact ⟨k+1,by omega,by go_num,by rw [HST.out];go_num,by rw [HST.out];exact ho.out,hk.out⟩
    case measure=>simp [intOf];omega
   ·rw [hcc];rw [HBY.out k (by omega)] at HST;generalize nth xs k=x at *;obtain ⟨t,ht⟩:∃ t,t=cy+x+0:=⟨_,rfl⟩;rw [←ht] at HST;have hlt:t<4294967296:=by omega
    obtain ⟨d,hd⟩:∃ d,d=t%65536:=⟨_,rfl⟩;have hand:bits .and .u32 ((cy:Int)+(x:Int)) 65535=(d:Int):=by rw [hd,←Hp t hlt];congr 1;omega
    rw [←hd] at HST;have HD:=hid hd;have HT:=hid ht;clear hd;have n2:decide (k<l')=false:=by simp;omega
    go_wp2_with (at_builtin;go_must (refine wpList_append_own _ rfl _ _ 79 rfl w.heap.size 91 i0 (.int .u32 0) 1 4 Tryz.underlying79 hi hz0 hz1 hz2 rfl (by decide) _ L.length (L.map U) rfl (World.ownsRow.alloc HO.out _) ⟨_,0,none⟩ 1 1 [_] rfl rfl (Bl _ _ _) (by simp [Value.oneCell']) (by rw [HLN.out];unfold maxLen;omega) (by rw [HLN.out];omega) (by have:=HB.out.size;simp;omega) ?_))
    intro v' w2 hown2 hgrow2 _;have ho:Hid (Own w2 w.heap.size v' (L++[d])):=own_of_rows (ys:=[d]) hown2;have hk:Hid (Below w.heap.size w w2):=Below.grown (HB.out.alloc HB.out.size _) hgrow2 (by have:=HB.out.size;simp;omega) (fun k hk=>(World.ownsRow.lt HO.out k hk).1);clear hown2 hgrow2;go_wp2_with fail;go_roundw
    case rel=>exact ⟨k+1,by omega,by go_num,by rw [HST.out];go_num,by rw [HST.out];exact ho.out,hk.out⟩
    case measure=>simp [intOf];omega
  ·by_cases h2:k<l'
   ·obtain ⟨b',off',rfl,hb',hcell'⟩:=HA'.out (by omega);have hck':=(HB.out.cell (p:=⟨b',off'+k,none⟩) hb').trans (hcell' k h2);have hyk:=HY.out k;clear hcell';rw [hcc];rw [HBX.out k (by omega)] at HST;generalize nth ys k=y at *;obtain ⟨t,ht⟩:∃ t,t=cy+0+y:=⟨_,rfl⟩;rw [←ht] at HST;have hlt:t<4294967296:=by omega
    obtain ⟨d,hd⟩:∃ d,d=t%65536:=⟨_,rfl⟩;have hand:bits .and .u32 ((cy:Int)+(y:Int)) 65535=(d:Int):=by rw [hd,←Hp t hlt];congr 1;omega
    rw [←hd] at HST;have HD:=hid hd;have HT:=hid ht;clear hd;have n1:decide (k<l)=false:=by simp;omega
    go_wp2_with (at_builtin;go_must (refine wpList_append_own _ rfl _ _ 79 rfl w.heap.size 91 i0 (.int .u32 0) 1 4 Tryz.underlying79 hi hz0 hz1 hz2 rfl (by decide) _ L.length (L.map U) rfl (World.ownsRow.alloc HO.out _) ⟨_,0,none⟩ 1 1 [_] rfl rfl (Bl _ _ _) (by simp [Value.oneCell']) (by rw [HLN.out];unfold maxLen;omega) (by rw [HLN.out];omega) (by have:=HB.out.size;simp;omega) ?_))
    intro v' w2 hown2 hgrow2 _;have ho:Hid (Own w2 w.heap.size v' (L++[d])):=own_of_rows (ys:=[d]) hown2;have hk:Hid (Below w.heap.size w w2):=Below.grown (HB.out.alloc HB.out.size _) hgrow2 (by have:=HB.out.size;simp;omega) (fun k hk=>(World.ownsRow.lt HO.out k hk).1);clear hown2 hgrow2;go_wp2_with fail;go_roundw
    case rel=>exact ⟨k+1,by omega,by go_num,by rw [HST.out];go_num,by rw [HST.out];exact ho.out,hk.out⟩
    case measure=>simp [intOf];omega
   ·by_cases h0:cy=0
    ·have he:=HE.out k (by omega) (by omega) (by rw [HCC.out];exact h0);rw [hL] at he;have hlim:=HO.out.lim (by rw [←hL];exact N0 xs ys k);rw [hcc,h0];have n1:decide (k<l)=false:=by simp;omega
     have n2:decide (k<l')=false:=by simp;omega
     have HLM:=hid hlim;have HEE:=hid he;clear hlim he
     go_wp2_with (go_at_call 130;refine (Td HO.out HLM.out.1 (by rw [HLN.out];omega)).mono ?_;rintro e w' ⟨v',rfl,hv',hf',rfl⟩;have HV':=hid hv';have FR:=hid hf';clear hv' hf')
     go_ret;exact ⟨_,rfl,by rw [←HEE.out];exact HV'.out,HB.out,.inr FR.out⟩
    ·have hkk:¬k=max l l'+1:=by
      intro hk';have:=HZ.out (k-1) (by omega) (by omega);rw [show k-1+1=k by omega,hcc] at this;exact h0 this
     have n3:decide (0<cy)=true:=by simp;omega
     have n4:0<cy:=by omega
     rw [hcc];rw [HBX.out k (by omega)] at HST;rw [HBY.out k (by omega)] at HST;obtain ⟨t,ht⟩:∃ t,t=cy+0+0:=⟨_,rfl⟩;rw [←ht] at HST;have hlt:t<4294967296:=by omega
     obtain ⟨d,hd⟩:∃ d,d=t%65536:=⟨_,rfl⟩;have hand:bits .and .u32 ((cy:Int)) 65535=(d:Int):=by rw [hd,←Hp t hlt];congr 1;omega
     rw [←hd] at HST;have HD:=hid hd;have HT:=hid ht;clear hd;have n1:decide (k<l)=false:=by simp;omega
     have n2:decide (k<l')=false:=by simp;omega
     go_wp2_with (at_builtin;go_must (refine wpList_append_own _ rfl _ _ 79 rfl w.heap.size 91 i0 (.int .u32 0) 1 4 Tryz.underlying79 hi hz0 hz1 hz2 rfl (by decide) _ L.length (L.map U) rfl (World.ownsRow.alloc HO.out _) ⟨_,0,none⟩ 1 1 [_] rfl rfl (Bl _ _ _) (by simp [Value.oneCell']) (by rw [HLN.out];unfold maxLen;omega) (by rw [HLN.out];omega) (by have:=HB.out.size;simp;omega) ?_))
     intro v' w2 hown2 hgrow2 _;have ho:Hid (Own w2 w.heap.size v' (L++[d])):=own_of_rows (ys:=[d]) hown2;have hk:Hid (Below w.heap.size w w2):=Below.grown (HB.out.alloc HB.out.size _) hgrow2 (by have:=HB.out.size;simp;omega) (fun k hk=>(World.ownsRow.lt HO.out k hk).1);clear hown2 hgrow2;go_wp2_with fail;go_roundw
     case rel=>exact ⟨k+1,by omega,by go_num,by rw [HST.out];go_num,by rw [HST.out];exact ho.out,hk.out⟩
     case measure=>simp [intOf];omega
theorem Adi {w:World}{v u:Value}{n m:Nat}(hv:Lim w v (limbs n))(hu:Lim w u (limbs m))(hl:(limbs n).length≤1000000)(hm:m≤n) :
 Calls Tryz.prog 102 #[v,u] w (RetLimF (limbs (n-m)) w):=by
 have hll:(limbs m).length≤(limbs n).length:=by
  by_cases h:(limbs m).length≤(limbs n).length
  ·exact h
  ·exact absurd (Dc n m (by omega)) (by omega)
 obtain ⟨hs,A,c,rfl,hc,hA⟩:=hv;obtain ⟨hs',A',c',rfl,hc',hA'⟩:=hu;have HE:=hid (Aal hs hs' hll (by rw [val_limbs,val_limbs];exact hm));rw [val_limbs,val_limbs] at HE;have HX:=hid (fun i=>nth_lt hs i);have HY:=hid (fun i=>nth_lt hs' i);have HSM:=hid (Ld hs hs');have HBY:=hid (fun i (h:(limbs m).length≤i)=>Gs h);have HA:=hid hA;have HA':=hid hA';clear hA hA' hs hs' hm;obtain ⟨s,hsm⟩:∃ s,s=n-m:=⟨_,rfl⟩;rw [←hsm] at HE ⊢;clear hsm;generalize limbs n=xs at *;generalize limbs m=ys at *;generalize xs.length=l at *;generalize ys.length=l' at *;obtain ⟨i0,hi,hz0,hz1,hz2⟩:=info_parts uinfo
 go_enter Tryz.func102,Tryz.ntmps102;go_wp2_with fail
 go_loopw [5,6,7] (fun o cy i wr=>∃ k:Nat,k≤l∧i=.int .i64 k∧cy=.int .i32 ((sbS xs ys k).2:Nat)∧Own wr w.heap.size o (sbS xs ys k).1∧Below w.heap.size w wr) (fun _ _ i _=>(l-intOf i).toNat)
 case atStart=>exact ⟨0,Nat.zero_le _,rfl,rfl,World.ownsRow_nil _ _ _ _,Below.refl _ _⟩
 case round =>
  obtain ⟨k,hk,rfl,rfl,hO,hB⟩:=hrel;have HO:=hid hO;have HB:=hid hB;clear hO hB;have hcy:=Lc xs ys k;have HLN:=hid (Ib xs ys k)
  have HST:=hid (show sbS xs ys (k+1)=((sbS xs ys k).1++[if nth xs k<nth ys k+(sbS xs ys k).2 then nth xs k+65536-(nth ys k+(sbS xs ys k).2) else nth xs k-(nth ys k+(sbS xs ys k).2)],
   if nth xs k<nth ys k+(sbS xs ys k).2 then 1 else 0) from rfl)
  by_cases h1:k<l
  ·obtain ⟨L,hL⟩:∃ L,(sbS xs ys k).1=L:=⟨_,rfl⟩;obtain ⟨cy,hcc⟩:∃ cy,(sbS xs ys k).2=cy:=⟨_,rfl⟩;rw [hcc] at hcy;rw [hL] at HO HLN HST;rw [hcc] at HST;obtain ⟨b,off,rfl,hb,hcell⟩:=HA.out (by omega);have hck:=(HB.out.cell (p:=⟨b,off+k,none⟩) hb).trans (hcell k h1);have hxk:=HX.out k;clear hcell;by_cases h2:k<l'
   ·obtain ⟨b',off',rfl,hb',hcell'⟩:=HA'.out (by omega);have hck':=(HB.out.cell (p:=⟨b',off'+k,none⟩) hb').trans (hcell' k h2);have hyk:=HY.out k;clear hcell';rw [hcc];generalize nth xs k=x at *;generalize nth ys k=y at *;obtain ⟨z1,hz1'⟩:∃ z1:Int,(x:Int)-(cy:Int)=z1:=⟨_,rfl⟩;have z1a:-1≤z1:=by omega
    have z1b:z1≤65535:=by omega
    obtain ⟨z,hzz⟩:∃ z:Int,z1-(y:Int)=z:=⟨_,rfl⟩;have za:-65536≤z:=by omega
    have zb:z≤65535:=by omega
    by_cases hlt:x<y+cy
    ·rw [if_pos hlt,if_pos hlt] at HST;obtain ⟨d,hd⟩:∃ d,d=x+65536-(y+cy):=⟨_,rfl⟩;rw [←hd] at HST;have hneg:decide (z<0)=true:=by simp;omega
     have hadd:z+65536=(d:Int):=by omega
     have hdb:d<65536:=by omega
     have HD:=hid hd;have HLT:=hid hlt;clear hd hlt
     go_wp2_with (at_builtin;go_must (refine wpList_append_own _ rfl _ _ 79 rfl w.heap.size 91 i0 (.int .u32 0) 1 4 Tryz.underlying79 hi hz0 hz1 hz2 rfl (by decide) _ L.length (L.map U) rfl (World.ownsRow.alloc HO.out _) ⟨_,0,none⟩ 1 1 [_] rfl rfl (Bl _ _ _) (by simp [Value.oneCell']) (by rw [HLN.out];unfold maxLen;omega) (by rw [HLN.out];omega) (by have:=HB.out.size;simp;omega) ?_))
     intro v' w2 hown2 hgrow2 _;have ho:Hid (Own w2 w.heap.size v' (L++[d])):=own_of_rows (ys:=[d]) hown2;have hk:Hid (Below w.heap.size w w2):=Below.grown (HB.out.alloc HB.out.size _) hgrow2 (by have:=HB.out.size;simp;omega) (fun k hk=>(World.ownsRow.lt HO.out k hk).1);clear hown2 hgrow2;go_wp2_with fail;go_roundw
     case rel=>exact ⟨k+1,by omega,by go_num,by rw [HST.out];rfl,by rw [HST.out];exact ho.out,hk.out⟩
     case measure=>simp [intOf];omega
    ·rw [if_neg hlt,if_neg hlt] at HST;obtain ⟨d,hd⟩:∃ d,d=x-(y+cy):=⟨_,rfl⟩;rw [←hd] at HST;have hneg:decide (z<0)=false:=by simp;omega
     obtain rfl:z=(d:Int):=by omega
     have hdb:d<65536:=by omega
     have HD:=hid hd;have HLT:=hid hlt;clear hd hlt
     go_wp2_with (at_builtin;go_must (refine wpList_append_own _ rfl _ _ 79 rfl w.heap.size 91 i0 (.int .u32 0) 1 4 Tryz.underlying79 hi hz0 hz1 hz2 rfl (by decide) _ L.length (L.map U) rfl (World.ownsRow.alloc HO.out _) ⟨_,0,none⟩ 1 1 [_] rfl rfl (Bl _ _ _) (by simp [Value.oneCell']) (by rw [HLN.out];unfold maxLen;omega) (by rw [HLN.out];omega) (by have:=HB.out.size;simp;omega) ?_))
     intro v' w2 hown2 hgrow2 _;have ho:Hid (Own w2 w.heap.size v' (L++[d])):=own_of_rows (ys:=[d]) hown2;have hk:Hid (Below w.heap.size w w2):=Below.grown (HB.out.alloc HB.out.size _) hgrow2 (by have:=HB.out.size;simp;omega) (fun k hk=>(World.ownsRow.lt HO.out k hk).1);clear hown2 hgrow2;go_wp2_with fail;go_roundw
     case rel=>exact ⟨k+1,by omega,by go_num,by rw [HST.out];rfl,by rw [HST.out];exact ho.out,hk.out⟩
     case measure=>simp [intOf];omega
   ·rw [hcc];rw [HBY.out k (by omega),Nat.zero_add] at HST;generalize nth xs k=x at *;obtain ⟨z1,hz1'⟩:∃ z1:Int,(x:Int)-(cy:Int)=z1:=⟨_,rfl⟩;have z1a:-1≤z1:=by omega
    have z1b:z1≤65535:=by omega
    have n2:decide (k<l')=false:=by simp;omega
    by_cases hlt:x<cy
    ·rw [if_pos hlt,if_pos hlt] at HST;obtain ⟨d,hd⟩:∃ d,d=x+65536-(cy):=⟨_,rfl⟩;rw [←hd] at HST;have hneg:decide (z1<0)=true:=by simp;omega
     have hadd:z1+65536=(d:Int):=by omega
     have hdb:d<65536:=by omega
     have HD:=hid hd;have HLT:=hid hlt;clear hd hlt
     go_wp2_with (at_builtin;go_must (refine wpList_append_own _ rfl _ _ 79 rfl w.heap.size 91 i0 (.int .u32 0) 1 4 Tryz.underlying79 hi hz0 hz1 hz2 rfl (by decide) _ L.length (L.map U) rfl (World.ownsRow.alloc HO.out _) ⟨_,0,none⟩ 1 1 [_] rfl rfl (Bl _ _ _) (by simp [Value.oneCell']) (by rw [HLN.out];unfold maxLen;omega) (by rw [HLN.out];omega) (by have:=HB.out.size;simp;omega) ?_))
     intro v' w2 hown2 hgrow2 _;have ho:Hid (Own w2 w.heap.size v' (L++[d])):=own_of_rows (ys:=[d]) hown2;have hk:Hid (Below w.heap.size w w2):=Below.grown (HB.out.alloc HB.out.size _) hgrow2 (by have:=HB.out.size;simp;omega) (fun k hk=>(World.ownsRow.lt HO.out k hk).1);clear hown2 hgrow2;go_wp2_with fail;go_roundw
     case rel=>exact ⟨k+1,by omega,by go_num,by rw [HST.out];rfl,by rw [HST.out];exact ho.out,hk.out⟩
     case measure=>simp [intOf];omega
    ·rw [if_neg hlt,if_neg hlt] at HST;obtain ⟨d,hd⟩:∃ d,d=x-(cy):=⟨_,rfl⟩;rw [←hd] at HST;have hneg:decide (z1<0)=false:=by simp;omega
     obtain rfl:z1=(d:Int):=by omega
     have hdb:d<65536:=by omega
     have HD:=hid hd;have HLT:=hid hlt;clear hd hlt
     go_wp2_with (at_builtin;go_must (refine wpList_append_own _ rfl _ _ 79 rfl w.heap.size 91 i0 (.int .u32 0) 1 4 Tryz.underlying79 hi hz0 hz1 hz2 rfl (by decide) _ L.length (L.map U) rfl (World.ownsRow.alloc HO.out _) ⟨_,0,none⟩ 1 1 [_] rfl rfl (Bl _ _ _) (by simp [Value.oneCell']) (by rw [HLN.out];unfold maxLen;omega) (by rw [HLN.out];omega) (by have:=HB.out.size;simp;omega) ?_))
     intro v' w2 hown2 hgrow2 _;have ho:Hid (Own w2 w.heap.size v' (L++[d])):=own_of_rows (ys:=[d]) hown2;have hk:Hid (Below w.heap.size w w2):=Below.grown (HB.out.alloc HB.out.size _) hgrow2 (by have:=HB.out.size;simp;omega) (fun k hk=>(World.ownsRow.lt HO.out k hk).1);clear hown2 hgrow2;go_wp2_with fail;go_roundw
     case rel=>exact ⟨k+1,by omega,by go_num,by rw [HST.out];rfl,by rw [HST.out];exact ho.out,hk.out⟩
     case measure=>simp [intOf];omega
  ·obtain rfl:k=l:=by omega
   have he:=HE.out;have hlim:=HO.out.lim (HSM.out k);have HLM:=hid hlim;have HEE:=hid he;clear hlim he
   go_wp2_with (go_at_call 130;refine (Td HO.out HLM.out.1 (by rw [HLN.out];omega)).mono ?_;rintro e w' ⟨v',rfl,hv',hf',rfl⟩;have HV':=hid hv';have FR:=hid hf';clear hv' hf')
   go_ret;exact ⟨_,rfl,by rw [←HEE.out];exact HV'.out,HB.out,.inr FR.out⟩
theorem add_c {w:World}{v u:Value}{n m:Nat}(hv:Lim w v (limbs n))(hu:Lim w u (limbs m))(hl:(limbs n).length≤1000000)(hl':(limbs m).length≤1000000) :
 Calls Tryz.prog 94 #[v,u] w (RetLim (limbs (n+m)) w):=(Ac0 hv hu hl hl').mono fun _ _ h=>h.lim
theorem sub_c {w:World}{v u:Value}{n m:Nat}(hv:Lim w v (limbs n))(hu:Lim w u (limbs m))(hl:(limbs n).length≤1000000)(hm:m≤n) :
 Calls Tryz.prog 102 #[v,u] w (RetLim (limbs (n-m)) w):=(Adi hv hu hl hm).mono fun _ _ h=>h.lim
end Go.Proofs.YtinbgjcooolbiaaGreatDoor.Dg
namespace Go.Proofs.YtinbgjcooolbiaaGreatDoor.Dg
open Go.Lib (hid)
open Go.RowKit
theorem Su {x y:Nat}(hx:x<65536)(hy:y<65536):bits .or .u32 (x:Int) ((y:Int)*65536)=((x+65536*y:Nat):Int):=by
 rw [show (y:Int)*65536=((y*65536:Nat):Int) by simp,Xj _ _ (by omega) (by omega)];have h:y*2^16 ||| x=y*2^16+x:=St hx
 rw [show y*65536=y*2^16 from rfl,Nat.or_comm,h]
 congr 1
 omega
theorem Sp {m k:Nat}(h:(limbs m).length≤k/16):m/2^k=0:=by
 have h1:=lt_pow_length m;have h2:65536^(limbs m).length≤2^k:=by
  rw [show (65536:Nat)=2^16 from rfl,←Nat.pow_mul];exact Nat.pow_le_pow_right (by decide) (by omega)
 exact Nat.div_eq_of_lt (Nat.lt_of_lt_of_le h1 h2)
theorem Tc (xs:List Nat)(k:Nat)(h:k<xs.length):xs.take (k+1)=xs.take k++[nth xs k]:=Fh xs k h
theorem shr_c {w:World}{v:Value}{m:Nat}(hv:Lim w v (limbs m))(n:Nat)(hl:(limbs m).length≤1000000)(hn:n≤100000000) :
 Calls Tryz.prog 125 #[v,.int .i64 n] w (RetLim (limbs (m/2^n)) w):=by
 by_cases h0:(limbs m).length≤n/16
 ·rw [Sp h0,limbs_zero];obtain ⟨hs,A,c,rfl,hc,hA⟩:=hv;generalize (limbs m).length=l at *;refine Calls.mono (R:=fun e w'=>e=.returned (.slice none 0 0)∧w=w') ?_ (fun e w' ⟨he,hw⟩=>by subst hw;exact ⟨_,he,Lim.nil _ _ _,Below.refl _ _⟩);have d0:decide (l≤n/16)=true:=by simp;omega
  clear hs hA;go_enter Tryz.func125,Tryz.ntmps125;go_wp2_with fail;go_ret;exact ⟨rfl,rfl⟩
 ·obtain ⟨hs,A,c,rfl,hc,hA⟩:=hv;have HV:=hid (Aar hs n);rw [val_limbs] at HV;obtain ⟨b,off,rfl,hb,hcell⟩:=hA (by omega);have HC:=hid hcell;have HX:=hid (nth_lt hs);clear hcell hA hs;have HZL:=hid (Ls (n%16) ((limbs m).drop (n/16)));rw [List.length_drop] at HZL;have HZS:=hid (Ne (n%16) ((limbs m).drop (n/16)));have HZN:=hid (fun j (h:j<(limbs m).length-n/16)=>Rl (n%16) ((limbs m).drop (n/16)) j (by rw [List.length_drop];exact h));simp only [U0] at HZN;have HBX:=hid (fun i (h:(limbs m).length≤i)=>Gs h);generalize Nd (n%16) ((limbs m).drop (n/16))=zs at *;generalize limbs m=xs at *
  generalize xs.length=l at *;obtain ⟨s,hsm⟩:∃ s,s=m/2^n:=⟨_,rfl⟩;rw [←hsm] at HV ⊢;clear hsm;obtain ⟨i0,hi,hz0,hz1,hz2⟩:=info_parts uinfo;have hr16:n%16<16:=Nat.mod_lt _ (by decide);obtain ⟨q,hq⟩:∃ q,n/16=q:=⟨_,rfl⟩;have hqi:(n:Int)/16=(q:Int):=by rw [←hq];simp
  rw [hq] at h0 HZL HZN;clear hq;have d0:decide (l≤q)=false:=by simp;omega
  go_enter Tryz.func125,Tryz.ntmps125;go_wp2_with fail
  go_loopw [5,6] (fun o i wr=>∃ j:Nat,j≤l-q∧i=.int .i64 ((q+j:Nat):Int)∧Own wr w.heap.size o (zs.take j)∧Below w.heap.size w wr) (fun _ i _=>(l-intOf i).toNat)
  case atStart=>exact ⟨0,Nat.zero_le _,rfl,World.ownsRow_nil _ _ _ _,Below.refl _ _⟩
  case round =>
   obtain ⟨j,hj,rfl,hO,hB⟩:=hrel;have HO:=hid hO;have HB:=hid hB;clear hO hB;obtain ⟨i,hi2⟩:∃ i,q+j=i:=⟨_,rfl⟩;rw [hi2];by_cases h1:i<l
   ·have hck:=(HB.out.cell (p:=⟨b,off+i,none⟩) hb).trans (HC.out i h1);have hxk:=HX.out i;have HLN:Hid ((zs.take j).length=j):=by rw [List.length_take,HZL.out];exact (by omega:min j (l-q)=j)
    have HST:Hid (zs.take (j+1)=zs.take j++[nth zs j]):=Tc zs j (by rw [HZL.out];omega);have hzn:=HZN.out j (by omega);rw [hi2,show q+(j+1)=i+1 by omega] at hzn;obtain ⟨d,hd⟩:∃ d,nth zs j=d:=⟨_,rfl⟩;rw [hd] at HST hzn;clear hd;obtain ⟨L,hL⟩:∃ L,zs.take j=L:=⟨_,rfl⟩;rw [hL] at HO HLN HST;clear hL;have hy:=HX.out (i+1);by_cases h2:i+1<l
    ·have hck2:=(HB.out.cell (p:=⟨b,off+(i+1),none⟩) hb).trans (HC.out (i+1) h2);generalize nth xs i=x at *;generalize nth xs (i+1)=y at *;obtain ⟨t,ht⟩:∃ t,t=x+65536*y:=⟨_,rfl⟩;have hor:=Su hxk hy;rw [←ht] at hor hzn;have hlt:t<4294967296:=by omega
     have hsh:(t:Int)/2^(n%16)=((t/2^(n%16):Nat):Int):=by simp
     have hand:=Hp (t/2^(n%16)) (Nat.lt_of_le_of_lt (Nat.div_le_self _ _) hlt);rw [←hzn,←hsh] at hand;have HD:=hid hzn;have HI:=hid hi2;have HT:=hid ht;clear hzn hsh hi2 ht
     go_wp2_with (at_builtin;go_must (refine wpList_append_own _ rfl _ _ 79 rfl w.heap.size 91 i0 (.int .u32 0) 1 4 Tryz.underlying79 hi hz0 hz1 hz2 rfl (by decide) _ L.length (L.map U) rfl (World.ownsRow.alloc HO.out _) ⟨_,0,none⟩ 1 1 [_] rfl rfl (Bl _ _ _) (by simp [Value.oneCell']) (by rw [HLN.out];unfold maxLen;omega) (by rw [HLN.out];omega) (by have:=HB.out.size;simp;omega) ?_))
     intro v' w2 hown2 hgrow2 _;have ho:Hid (Own w2 w.heap.size v' (L++[d])):=own_of_rows (ys:=[d]) hown2;have hk:Hid (Below w.heap.size w w2):=Below.grown (HB.out.alloc HB.out.size _) hgrow2 (by have:=HB.out.size;simp;omega) (fun k hk=>(World.ownsRow.lt HO.out k hk).1);clear hown2 hgrow2 hor hand;go_wp2_with fail;go_roundw
     case rel=>exact ⟨j+1,by have:=HI.out;omega,by have:=HI.out;go_num,by rw [HST.out];exact ho.out,hk.out⟩
     case measure=>have:=HI.out;simp [intOf];omega
    ·have hy0:=HBX.out (i+1) (by omega);rw [hy0,Nat.mul_zero,Nat.add_zero] at hzn;clear hy0 hy;generalize nth xs i=x at *;have n2:decide (i+1<l)=false:=by simp;omega
     have hsh:(x:Int)/2^(n%16)=((x/2^(n%16):Nat):Int):=by simp
     have hand:=Hp (x/2^(n%16)) (Nat.lt_of_le_of_lt (Nat.div_le_self _ _) (by omega));rw [←hzn,←hsh] at hand;have HD:=hid hzn;have HI:=hid hi2;clear hzn hsh hi2
     go_wp2_with (at_builtin;go_must (refine wpList_append_own _ rfl _ _ 79 rfl w.heap.size 91 i0 (.int .u32 0) 1 4 Tryz.underlying79 hi hz0 hz1 hz2 rfl (by decide) _ L.length (L.map U) rfl (World.ownsRow.alloc HO.out _) ⟨_,0,none⟩ 1 1 [_] rfl rfl (Bl _ _ _) (by simp [Value.oneCell']) (by rw [HLN.out];unfold maxLen;omega) (by rw [HLN.out];omega) (by have:=HB.out.size;simp;omega) ?_))
     intro v' w2 hown2 hgrow2 _;have ho:Hid (Own w2 w.heap.size v' (L++[d])):=own_of_rows (ys:=[d]) hown2;have hk:Hid (Below w.heap.size w w2):=Below.grown (HB.out.alloc HB.out.size _) hgrow2 (by have:=HB.out.size;simp;omega) (fun k hk=>(World.ownsRow.lt HO.out k hk).1);clear hown2 hgrow2 hand;go_wp2_with fail;go_roundw
     case rel=>exact ⟨j+1,by have:=HI.out;omega,by have:=HI.out;go_num,by rw [HST.out];exact ho.out,hk.out⟩
     case measure=>have:=HI.out;simp [intOf];omega
   ·have hlim:=HO.out.lim (by rw [List.take_of_length_le (by rw [HZL.out];omega)];exact HZS.out);rw [List.take_of_length_le (by rw [HZL.out];omega)] at hlim;have HLM:=hid hlim;have HI:=hid hi2;clear hlim hi2;have n1:decide (i<l)=false:=by simp;omega
    go_wp2_with (go_at_call 130;refine (Eu HLM.out (by rw [HZL.out];omega)).mono ?_;rintro e w' ⟨v',rfl,hv',rfl⟩;have HV':=hid hv';clear hv')
    go_ret;exact ⟨_,rfl,by rw [←HV.out];exact HV'.out,HB.out⟩
theorem Nt:∀ (m j:Nat),nth (limbs m) j=m/65536^j%65536:=by
 intro m j
 induction j generalizing m with
 | zero =>
   by_cases h:m=0
   ·subst h;rw [limbs_zero];rfl
   ·rw [A0 m h,Nat.pow_zero,Nat.div_one];rfl
 | succ j ih =>
   by_cases h:m=0
   ·subst h;rw [limbs_zero,Nat.zero_div];rfl
   ·rw [A0 m h,B9,ih,Nat.pow_succ,Nat.mul_comm (65536^j) 65536,←Nat.div_div_eq_div_mul]
theorem Abm (m i:Nat):nth (limbs m) (i/16)/2^(i%16)%2=m/2^i%2:=by
 rw [Nt];have hr:i%16<16:=Nat.mod_lt _ (by decide);generalize ha:m/65536^(i/16)=a;have e:m/2^i=a/2^(i%16):=by
  rw [←ha,Nat.div_div_eq_div_mul,show (65536:Nat)=2^16 from rfl,←Nat.pow_mul,←Nat.pow_add]
  congr 2
  omega
 rw [e];generalize i%16=r at *;have e16:(65536:Nat)=2^r*(2*2^(15-r)):=by
  rw [←Nat.mul_assoc,←Nat.pow_succ,←Nat.pow_add,show r+1+(15-r)=16 by omega]
 have hp:0<2^r:=Nat.pow_pos (by decide);have h1:a/2^r=a%65536/2^r+2*(2^(15-r)*(a/65536)):=by
  have h2:a=a%65536+2^r*(2*(2^(15-r)*(a/65536))):=by
   have h3:=Nat.mod_add_div a 65536;have h4:65536*(a/65536)=2^r*(2*(2^(15-r)*(a/65536))):=by
    rw [show 2^r*(2*(2^(15-r)*(a/65536)))=(2^r*(2*2^(15-r)))*(a/65536) by rw [Nat.mul_assoc,Nat.mul_assoc],←e16]
   omega
  conv=>lhs;rw [h2]
  rw [Nat.add_mul_div_left _ _ hp]
 rw [h1];omega
theorem Ac1 (y:Nat)(h:y<4294967296):bits .and .u32 (y:Int) 1=((y%2:Nat):Int):=by
 rw [show (1:Int)=((1:Nat):Int) from rfl,Ow _ _ h (by decide),Nat.and_one_is_mod]
theorem Ac2 {w:World}{v:Value}{m:Nat}(hv:Lim w v (limbs m))(i:Nat)(hl:(limbs m).length≤1000000)(hn:i≤100000000) :
 Calls Tryz.prog 142 #[v,.int .i64 i] w (RetQ (.int .u32 ((m/2^i%2:Nat):Int)) w):=by
 have hbit:=Abm m i;obtain ⟨d,hd⟩:∃ d,m/2^i%2=d:=⟨_,rfl⟩;rw [hd] at hbit ⊢;clear hd;obtain ⟨hs,A,c,rfl,hc,hA⟩:=hv;by_cases h0:(limbs m).length≤i/16
 ·rw [Gs h0,Nat.zero_div] at hbit;obtain rfl:0=d:=hbit;generalize (limbs m).length=l at *;have d0:decide (l≤i/16)=true:=by simp;omega
  clear hs hA;go_enter Tryz.func142,Tryz.ntmps142;go_wp2_with fail;go_ret;exact ⟨rfl,0,rfl⟩
 ·obtain ⟨b,off,rfl,hb,hcell⟩:=hA (by omega);have hck:=hcell (i/16) (by omega);have hxk:=nth_lt hs (i/16);generalize nth (limbs m) (i/16)=x at *;generalize (limbs m).length=l at *;have d0:decide (l≤i/16)=false:=by simp;omega
  have hr16:i%16<16:=Nat.mod_lt _ (by decide);have hsh:(x:Int)/2^(i%16)=((x/2^(i%16):Nat):Int):=by simp
  have hand:=Ac1 (x/2^(i%16)) (Nat.lt_of_le_of_lt (Nat.div_le_self _ _) (by omega));rw [hbit,←hsh] at hand;have HB:=hid hbit;clear hcell hA hs hsh hbit;go_enter Tryz.func142,Tryz.ntmps142;go_wp2_with fail;go_ret;exact ⟨rfl,0,rfl⟩
theorem Tf {m n:Nat}(hm:m≠0)(h:n<tz m):m/2^n%2=0:=by
 obtain ⟨q,hq⟩:=Nn m hm;have hp:0<2^n:=Nat.pow_pos (by decide);have e:m/2^n=2*(2^(tz m-n-1)*q):=by
  apply Nat.div_eq_of_eq_mul_right hp;rw [←Nat.mul_assoc,←Nat.mul_assoc,←Nat.pow_succ,←Nat.pow_add];rw [show n+1+(tz m-n-1)=tz m by omega];exact hq
 rw [e];omega
theorem low_c {w:World}{v:Value}{m:Nat}(hv:Lim w v (limbs m))(hl:(limbs m).length≤1000000)(hm:m≠0) :
 Calls Tryz.prog 124 #[v] w (RetQ (.int .i64 (tz m)) w):=by
 have hlt:tz m<16000001:=by
  have h1:tz m<16*(limbs m).length:=by
   refine Rv m _ hm (Nat.lt_of_lt_of_le (lt_pow_length m) ?_);rw [show (65536:Nat)=2^16 from rfl,←Nat.pow_mul];exact Nat.le_refl _
  omega
 have C:=hid (fun q i (hi:i≤100000000)=>Ac2 (hv.drewN q) i hl hi);have H1:=hid (fun n (h:n<tz m)=>Tf hm h);have H2:=hid (Li m hm);obtain ⟨hs,A,c,rfl,hc,hA⟩:=hv;clear hs hA hl hm;generalize tz m=t at *;go_enter Tryz.func124,Tryz.ntmps124;go_wp2_with fail
 go_loopw [3] (fun i wr=>∃ n:Nat,n≤t∧i=.int .i64 n∧∃ q,wr=w.drewN q) (fun i _=>(t-intOf i).toNat)
 case atStart=>exact ⟨0,Nat.zero_le _,rfl,0,rfl⟩
 case round =>
  obtain ⟨n,hn,rfl,q,rfl⟩:=hrel;have D:=hid (C.out q n (by omega));by_cases h:n<t
  ·have h1:=H1.out n h;rw [h1] at D;clear h1
   go_wp2_with (go_at_call 142;refine D.out.mono ?_;rintro e w' ⟨rfl,q2,rfl⟩)
   go_roundw
   case rel=>exact ⟨n+1,by omega,by go_num,_,rfl⟩
   case measure=>simp [intOf];omega
  ·obtain rfl:n=t:=by omega
   rw [H2.out] at D
   go_wp2_with (go_at_call 142;refine D.out.mono ?_;rintro e w' ⟨rfl,q2,rfl⟩)
   go_ret;exact ⟨rfl,_,rfl⟩
end Go.Proofs.YtinbgjcooolbiaaGreatDoor.Dg
namespace Go.Proofs.YtinbgjcooolbiaaGreatDoor.Dg
open Go.Lib (hid)
open Go.RowKit
theorem Gu {x s:Nat}(hx:x<65536)(hs:s≤48):(x:Int)*2^s%18446744073709551616=((x*2^s:Nat):Int)∧x*2^s<18446744073709551616:=by
 have h1:2^s≤2^48:=Nat.pow_le_pow_right (by decide) hs;have h2:x*2^s≤65535*2^48:=Nat.mul_le_mul (by omega) h1;have e:(x:Int)*2^s=((x*2^s:Nat):Int):=by simp
 rw [e];omega
theorem Qy {w:World}{base:Nat}{v:Value}{xs:List Nat}(h:Go.Proofs.YtinbgjcooolbiaaGreatDoor.Own w base v xs):Go.Proofs.YtinbgjcooolbiaaGreatDoor.Own w.drew base v xs:=h
theorem Mg {w Y:World}{k:Nat}(h:Below k w Y):Below k w Y.drew:=⟨h.os,h.tape,h.output,h.size,h.block⟩
theorem Abz {x y s:Nat}(hx:x<65536)(hs:s≤48)(hy:y<2^s):bits .or .u64 (y:Int) (IntKind.u64.wrap ((x:Int)*2^s))=((y+x*2^s:Nat):Int):=by
 obtain ⟨h1,h2⟩:=Gu hx hs;have h3:2^s≤2^48:=Nat.pow_le_pow_right (by decide) hs;rw [IntKind.wrap_u64,h1,Go.Proofs.YtinbgjcooolbiaaGreatDoor.or_u64 _ _ (by omega) h2,Nat.or_comm,St hy,Nat.add_comm]
theorem limbs_c {w:World}{v:Value}{n:Nat}(hv:Lim w v (limbs n))(hl:(limbs n).length≤1000000) :
 Calls Tryz.prog 136 #[v] w (Go.Proofs.YtinbgjcooolbiaaGreatDoor.RetLim (Go.Proofs.YtinbgjcooolbiaaGreatDoor.limbs n) w):=by
 obtain ⟨hs,A,c,rfl,hc,hA⟩:=hv;have HX:=hid (fun i=>nth_lt hs i);have HA:=hid hA;have HF:=hid (fun L=>Ws (L:=L) (n:=n));clear hA hs;generalize limbs n=xs at *;generalize hlx:xs.length=l at *;have HLX:=hid hlx;clear hlx;obtain ⟨i0,hi,hz0,hz1,hz2⟩:=info_parts Go.Proofs.YtinbgjcooolbiaaGreatDoor.uinfo;go_enter Tryz.func136,Tryz.ntmps136;go_wp2_with fail
 go_loopw [3,4] (fun o i wr=>∃ (k:Nat) (L:List Nat),k≤l∧i=.int .i64 k∧Rx L xs k∧Go.Proofs.YtinbgjcooolbiaaGreatDoor.Own wr w.heap.size o L∧Below w.heap.size w wr) (fun _ i _=>(l-intOf i).toNat)
 case atStart=>exact ⟨0,[],Nat.zero_le _,rfl,Adc _,World.ownsRow_nil _ _ _ _,Below.refl _ _⟩
 case round =>
  obtain ⟨k,L,hk,rfl,hG,hO,hB⟩:=hrel;by_cases h1:k<l
  ·obtain ⟨b,off,rfl,hb,hcell⟩:=HA.out (by omega);have hck:=(hB.cell (p:=⟨b,off+k,none⟩) hb).trans (hcell k h1);have hxk:=HX.out k;have HCK:=hid (hcell k h1);clear hcell;have HX1:=hid hxk;by_cases h4:k%4=0
   ·have HN:=hid (Wt hG hxk h4);have hgl:=hG.len;have HO:=hid hO;have HB:=hid hB;have hll:k/4=L.length:=by omega
    generalize nth xs k=x at *;have HLN:Hid (L.length=k/4):=hll.symm;clear hG hO hB hgl hll;have hk0:((k:Int)%4==0)=true:=by rw [beq_iff_eq];omega
    go_wp2_with (at_builtin;go_must (refine wpList_append_own _ rfl _ _ 22 rfl w.heap.size 40 i0 (.int .u64 0) 1 8 Tryz.underlying22 hi hz0 hz1 hz2 rfl (by decide) _ L.length (L.map Go.Proofs.YtinbgjcooolbiaaGreatDoor.U) rfl (World.ownsRow.alloc HO.out _) ⟨_,0,none⟩ 1 1 [.int .u64 0] rfl rfl (Bl _ _ _) (by simp [Value.oneCell']) (by rw [HLN.out];unfold maxLen;omega) (by rw [HLN.out];omega) (by have:=HB.out.size;simp;omega) ?_))
    intro v' w2 hown2 hgrow2 _;have ho:Hid (Go.Proofs.YtinbgjcooolbiaaGreatDoor.Own w2 w.heap.size v' (L++[0])):=Go.Proofs.YtinbgjcooolbiaaGreatDoor.own_of_rows (ys:=[0]) hown2;have hk:Hid (Below w.heap.size w w2):=Below.grown (HB.out.alloc HB.out.size _) hgrow2 (by have:=HB.out.size;simp;omega) (fun k hk=>(World.ownsRow.lt HO.out k hk).1);clear hown2 hgrow2 HO HB;have hml:(L++[0]).length=k/4+1:=by rw [List.length_append,HLN.out];rfl
    have hnz:nth (L++[0]) (k/4)=0:=by rw [←HLN.out];simp [nth]
    obtain ⟨g,cap,rfl,hg,hgs,hcap⟩:=ho.out.shape (by rw [hml];omega);have hoc:=ho.out.cell (k/4) (by rw [hml];omega);have hof:=ho.out.frozen (k/4);rw [hnz] at hoc;have hck:=(hk.out.cell (p:=⟨b,off+k,none⟩) hb).trans HCK.out;rw [hml] at ho hcap ⊢;generalize L++[0]=M at *;have hor:bits .or .u64 0 (x:Int)=(x:Int):=by
     have h:=Go.Proofs.YtinbgjcooolbiaaGreatDoor.or_u64 0 x (by decide) (by omega);rwa [Nat.zero_or] at h
    have hl5:L.length=k/4:=HLN.out;go_wp2_with fail;go_region
    all_goals
     go_wp2_with fail;go_roundw
     case rel=>exact ⟨k+1,_,by omega,by go_num,HN.out,Qy (ho.out.stored (k/4) x),Mg (hk.out.setCell hg _)⟩
     case measure=>simp [intOf];omega
   ·have HN:=hid (Wu hG hxk h4);have hgl:=hG.len;have hro:=hG.room h4;have HO:=hid hO;have HB:=hid hB;obtain ⟨g,cap,rfl,hg,hgs,hcap⟩:=HO.out.shape (by omega);have hoc:=HO.out.cell (k/4) (by omega);have hof:=HO.out.frozen (k/4);have hll:k/4<L.length:=by omega
    generalize nth xs k=x at *;generalize nth L (k/4)=y at *;generalize L.length=m at *;have hk4:k%4<4:=Nat.mod_lt _ (by decide);have hm4:decide (k%4=0)=false:=by simp;omega
    clear hG hO hB;obtain ⟨z,hz⟩:∃ z,z=y+x*2^(16*(k%4)):=⟨_,rfl⟩;have hor:=Abz hxk (show 16*(k%4)≤48 by omega) hro;rw [←hz] at hor HN;have HZ:=hid hz;clear hz hro;go_wp2_with fail;go_region
    all_goals
     go_wp2_with fail;go_roundw
     case rel=>exact ⟨k+1,_,by omega,by go_num,HN.out,Qy (HO.out.stored (k/4) z),Mg (HB.out.setCell hg _)⟩
     case measure=>simp [intOf];omega
  ·obtain rfl:k=l:=by omega
   rw [←HLX.out] at hG;have he:=HF.out L (by rw [←HLX.out];exact hG);have hlim:=hO.lim hG.small;rw [he] at hlim;have HLM:=hid hlim;have HB:=hid hB;obtain ⟨A5,c5,he5,-⟩:=hO.shape0;subst he5;clear hlim hG hO hB he;go_wp2_with fail;go_ret;exact ⟨_,rfl,HLM.out,HB.out⟩
end Go.Proofs.YtinbgjcooolbiaaGreatDoor.Dg
namespace Go.Proofs.YtinbgjcooolbiaaGreatDoor.Dg
open Go.Lib (hid)
open Go.RowKit
theorem mul_c {w:World}{v u:Value}{n m:Nat}(hv:Lim w v (limbs n))(hu:Lim w u (limbs m))(hl:(limbs n).length≤1000000)(hl':(limbs m).length≤1000000) :
 Calls Tryz.prog 93 #[v,u] w (RetLim (limbs (n*m)) w):=by
 obtain ⟨hs,A,c,rfl,hc,hA⟩:=hv;obtain ⟨hs',A',c',rfl,hc',hA'⟩:=hu;have hvx:val (limbs n)=n:=val_limbs n;have hvy:val (limbs m)=m:=val_limbs m;generalize limbs n=xs at *;generalize limbs m=ys at *;have HSX:=hid hs;have HSY:=hid hs';have HX:=hid (fun i=>nth_lt hs i);have HY:=hid (fun i=>nth_lt hs' i);have HA:=hid hA;have HA':=hid hA';obtain ⟨l,hlx⟩:∃ l,xs.length=l:=⟨_,rfl⟩;obtain ⟨l',hly⟩:∃ l,ys.length=l:=⟨_,rfl⟩;have HLX:=hid hlx;have HLY:=hid hly;have HVX:=hid hvx;have HVY:=hid hvy;rw [hlx] at hl HA hc ⊢;rw [hly] at hl' HA' hc' ⊢;clear hA hA' hs hs' hlx hly hvx hvy
 -- the whole is short enough
 have HB0:Hid (∀ i,i<l→val (xs.take (i+1))*val ys<65536^(l+l')):=by
  intro i hi;have h1:=val_lt (xs.take (i+1)) (small_take HSX.out _);have h2:=val_lt ys HSY.out;rw [HLY.out] at h2;rw [List.length_take,HLX.out] at h1;rw [Nat.pow_add];have h3:val (xs.take (i+1))<65536^l:=Nat.lt_of_lt_of_le h1 (Nat.pow_le_pow_right (by decide) (by omega));exact Nat.mul_lt_mul'' h3 h2
 obtain ⟨i0,hi,hz0,hz1,hz2⟩:=info_parts uinfo;go_enter Tryz.func93,Tryz.ntmps93
 go_wp2_with (at_make;go_must (refine wpList_make_full _ rfl _ _ 79 rfl w.heap.size 91 i0 (.int .u32 0) 1 Tryz.underlying79 hi hz0 hz1 .i64 .i64 _ _ (l+l') rfl rfl (by omega) (by omega) (by rw [hz2];omega) (by unfold maxLen;omega) (by simp) ?_))
 intro w1 hown1 hgrow1;have ho:Hid (Own w1 w.heap.size (.slice (some ⟨w.heap.size,0,none⟩) (l+l') (l+l')) (List.replicate (l+l') 0)):=Fm hown1;have hk:Hid (Below w.heap.size w w1):=Below.grown (Below.refl _ _) hgrow1 (by simp) (by intro k hk;cases hk);clear hown1 hgrow1;go_wp2_with fail
 go_loopw [6] (fun i wr=>∃ (k:Nat) (L:List Nat),k≤l∧i=.int .i64 k∧L.length=l+l'∧Small L∧val L=val (xs.take k)*val ys∧Own wr w.heap.size (.slice (some ⟨w.heap.size,0,none⟩) (l+l') (l+l')) L∧Below w.heap.size w wr) (fun i _=>(l-intOf i).toNat)
 case atStart=>exact ⟨0,_,Nat.zero_le _,rfl,List.length_replicate ..,Tb _,by rw [Yv];simp [val],ho.out,hk.out⟩
 case round =>
  clear ho hk;obtain ⟨i,L,hil,rfl,hLl,hLs,hLv,hO,hB⟩:=hrel;have HO:=hid hO;have HB:=hid hB;have HLL:=hid hLl;have HLS:=hid hLs;have HLV:=hid hLv;clear hO hB hLl hLs hLv;by_cases hlt:i<l
  ·obtain ⟨b,off,rfl,hb,hcell⟩:=HA.out (by omega);have HCX:=hid (hcell i hlt);have hxk:=HX.out i;have HXI:Hid (val (xs.take (i+1))=val (xs.take i)+65536^i*nth xs i):=De xs i;have hbd:=HB0.out i hlt;rw [HXI.out] at hbd;have HBD:=hid hbd;clear hcell hbd;obtain ⟨x,hx⟩:∃ x,nth xs i=x:=⟨_,rfl⟩;rw [hx] at HCX hxk HXI HBD;clear hx;have HM:=hid (Jv L i x ys);have HMS:=hid (K0 HLS.out i x ys);have HMC:=hid (Od HLS.out i hxk HSY.out);have HMV:=hid (Tu L i x ys (by rw [HLY.out,HLL.out];omega));go_wp2_with fail
   go_loopw [7,8] (fun cy k wr=>∃ j:Nat,j≤l'∧k=.int .i64 j∧cy=.int .u32 ((mlS L i x ys j).2:Nat)∧Own wr w.heap.size (.slice (some ⟨w.heap.size,0,none⟩) (l+l') (l+l')) (mlS L i x ys j).1∧Below w.heap.size w wr) (fun _ k _=>(l'-intOf k).toNat)
   case atStart=>exact ⟨0,Nat.zero_le _,rfl,rfl,HO.out,HB.out⟩
   case round =>
    obtain ⟨j,hj,rfl,rfl,hO,hB⟩:=hrel;replace HO:=hid hO;replace HB:=hid hB;clear hO hB;by_cases hjl:j<l'
    ·obtain ⟨b',off',rfl,hb',hcell'⟩:=HA'.out (by omega);have hck':=(HB.out.cell (p:=⟨b',off'+j,none⟩) hb').trans (hcell' j hjl);have hck:=(HB.out.cell (p:=⟨b,off+i,none⟩) hb).trans HCX.out;have hyk:=HY.out j;have hoc:=HO.out.cell (i+j) (by rw [HM.out,HLL.out];omega);have hof:=HO.out.frozen (i+j);have hzk:=nth_lt (HMS.out j) (i+j);have hcy:=HMC.out j;have HST:=hid (show mlS L i x ys (j+1)=((mlS L i x ys j).1.set (i+j) ((x*nth ys j+nth (mlS L i x ys j).1 (i+j)+(mlS L i x ys j).2)%65536),(x*nth ys j+nth (mlS L i x ys j).1 (i+j)+(mlS L i x ys j).2)/65536) from rfl);clear hcell';generalize (mlS L i x ys j).2=cy at *
     obtain ⟨M,hM⟩:∃ M,(mlS L i x ys j).1=M:=⟨_,rfl⟩;rw [hM] at HO HST hoc hzk;generalize nth ys j=y at *;generalize nth M (i+j)=z at *;have hrb:=On hxk hyk hzk hcy;obtain ⟨t,ht⟩:∃ t,t=x*y+z:=⟨_,rfl⟩;rw [←ht] at HST hrb;have htb:t≤4294901760:=hrb.1;have hxy:((x:Int)*(y:Int)%4294967296+(z:Int))%4294967296=(t:Int):=by
      have e:(x:Int)*(y:Int)=((x*y:Nat):Int):=by simp
      rw [e];generalize x*y=xy at *;omega
     have HT:=hid ht;clear hrb ht;obtain ⟨s',hs'⟩:∃ s',t+cy=s':=⟨_,rfl⟩;rw [hs'] at HST;have hsum:(t:Int)+(cy:Int)=(s':Int):=by omega
     have hsb:s'≤4294967296:=by omega
     have HS':=hid hs';clear hs';by_cases hov:s'<4294967296
     ·obtain ⟨d,hd⟩:∃ d,d=s'%65536:=⟨_,rfl⟩;have hand:=Hp s' hov;rw [←hd] at HST hand;have hnl:decide (s'<t)=false:=by have:=HS'.out;simp;omega
      have HD:=hid hd;clear hd;go_wp2_with fail
      go_quiet (fail)
      go_wp2_with fail;go_roundw
      case rel=>exact ⟨j+1,by omega,by go_num,by rw [HST.out];go_num,by rw [HST.out];exact (HO.out.drewN nq).stored (i+j) d,(Kept.drewN HB.out nq).setCell (Nat.le_refl _) _⟩
      case measure=>simp [intOf];omega
     ·have hse:s'=4294967296:=by omega
      have hw:(s':Int)%4294967296=0:=by rw [hse];rfl
      have hnl:decide (0<t)=true:=by have:=HS'.out;simp;omega
      have hnl2:0<t:=by have:=HS'.out;omega
      have hnl3:decide ((0:Int)<(t:Int))=true:=by have:=HS'.out;simp;omega
      have HFL:Hid (bits .and .u32 (((x:Int)*(y:Int)%4294967296+(z:Int)+(cy:Int))%4294967296) 65535=((0:Nat):Int)):=by
       have e:((x:Int)*(y:Int)%4294967296+(z:Int)+(cy:Int))%4294967296=0:=by
        generalize (x:Int)*(y:Int)=xy at *;omega
       rw [e];exact (by decide:bits .and .u32 0 65535=((0:Nat):Int))
      rw [show s'%65536=0 by rw [hse],show s'/65536=65536 by rw [hse]] at HST;have HSE:=hid hse;clear hse hov hsb;go_wp2_with fail
      go_quiet (fail)
      go_wp2_with fail;go_roundw
      case rel=>exact ⟨j+1,by omega,by go_num,by rw [HST.out];go_num,by rw [HST.out,HFL.out];exact (HO.out.drewN nq).stored (i+j) 0,(Kept.drewN HB.out nq).setCell (Nat.le_refl _) _⟩
      case measure=>simp [intOf];omega
    ·obtain rfl:j=l':=by omega
     have hmv:=HMV.out j (by rw [HLY.out];exact Nat.le_refl _);rw [List.take_of_length_le (by rw [HLY.out];exact Nat.le_refl _),HLV.out] at hmv;have htot:val (mlS L i x ys j).1+65536^(i+j)*(mlS L i x ys j).2=(val (xs.take i)+65536^i*x)*val ys:=by
      rw [hmv,Nat.add_mul,Nat.mul_assoc]
     have hMl:(mlS L i x ys j).1.length=l+j:=by rw [HM.out,HLL.out]
     have hMs:=HMS.out j;have hMc:=HMC.out j;generalize (mlS L i x ys j).2=C at *;generalize (mlS L i x ys j).1=M at *;have HTOT:=hid htot;have HML:=hid hMl;have HPS:=hid (K8 hMs C (i+j));have HPC:=hid (Oj hMs hMc (i+j));have HPL:=hid (Jw M C (i+j));have HPV:=hid (Po M C (i+j));have HPR:=hid (fun t (h1:i+j+t≤l+j) h0=>Xl (out:=M) (c:=C) (k:=i+j) (j:=t) (by rw [hMl];exact h1) (by rw [htot,hMl];exact HBD.out) h0);clear htot hMl hMs hMc hmv HMV HM HMS HMC;go_wp2_with fail
     go_loopw [7,12] (fun cy k wr=>∃ t:Nat,i+j+t≤l+j∧k=.int .i64 ((i+j+t:Nat):Int)∧cy=.int .u32 ((prS M C (i+j) t).2:Nat)∧Own wr w.heap.size (.slice (some ⟨w.heap.size,0,none⟩) (l+j) (l+j)) (prS M C (i+j) t).1∧Below w.heap.size w wr) (fun _ k _=>(l+j-intOf k).toNat)
     case atStart=>exact ⟨0,by omega,by go_num,rfl,HO.out,HB.out⟩
     case round =>
      obtain ⟨t,ht,rfl,rfl,hO,hB⟩:=hrel;replace HO:=hid hO;replace HB:=hid hB;clear hO hB;by_cases h0:(prS M C (i+j) t).2=0
      ·have hv:=HPV.out t (by rw [HML.out];exact ht);rw [h0,Nat.mul_zero,Nat.add_zero,HTOT.out] at hv;have hlen:=HPL.out t;rw [HML.out] at hlen;have hsm:=HPS.out t;rw [h0];generalize (prS M C (i+j) t).1=N at *;have HV:=hid hv;have HN:=hid hlen;have HNS:=hid hsm;have H00:=hid h0;clear hv hlen hsm h0;go_wp2_with fail;go_roundw
       case rel=>exact ⟨i+1,N,by omega,by go_num,HN.out,HNS.out,by rw [HXI.out];exact HV.out,HO.out,HB.out⟩
       case measure=>simp [intOf];omega
      ·have hroom:=HPR.out t ht h0;rw [HML.out] at hroom;have hoc:=HO.out.cell (i+j+t) (by rw [HPL.out,HML.out];exact hroom);have hof:=HO.out.frozen (i+j+t);have hzk:=nth_lt (HPS.out t) (i+j+t);have hcy:=HPC.out t;have HST:=hid (show prS M C (i+j) (t+1)=((prS M C (i+j) t).1.set (i+j+t) (((prS M C (i+j) t).2+nth (prS M C (i+j) t).1 (i+j+t))%65536),((prS M C (i+j) t).2+nth (prS M C (i+j) t).1 (i+j+t))/65536) from rfl);generalize (prS M C (i+j) t).2=cy at *;obtain ⟨N,hN⟩:∃ N,(prS M C (i+j) t).1=N:=⟨_,rfl⟩;rw [hN] at HO HST hoc hzk;obtain ⟨g,hg⟩:∃ g,i+j+t=g:=⟨_,rfl⟩;rw [hg] at HST hoc hzk hof hroom ⊢
       generalize nth N g=z at *;obtain ⟨s',hs'⟩:∃ s',cy+z=s':=⟨_,rfl⟩;rw [hs'] at HST;have hsum:(cy:Int)+(z:Int)=(s':Int):=by omega
       have hsb:s'<4294967296:=by omega
       obtain ⟨d,hd⟩:∃ d,d=s'%65536:=⟨_,rfl⟩;have hand:=Hp s' hsb;rw [←hd] at HST hand;have n1:decide (0<cy)=true:=by simp;omega
       have n2:0<cy:=by omega
       have HD:=hid hd;have HG:=hid hg;have HS':=hid hs';clear hd hg hs' h0;go_wp2_with fail;go_roundw
       case rel=>exact ⟨t+1,by have:=HG.out;omega,by have:=HG.out;go_num,by rw [HST.out];go_num,by rw [HST.out];exact HO.out.stored g d,HB.out.setCell (Nat.le_refl _) _⟩
       case measure=>have:=HG.out;simp [intOf];omega
  ·obtain rfl:i=l:=by omega
   rw [List.take_of_length_le (by rw [HLX.out];exact Nat.le_refl _),HVX.out,HVY.out] at HLV;have hlim:=HO.out.lim HLS.out;have HLM:=hid hlim;clear hlim
   go_wp2_with (go_at_call 130;refine (Eu HLM.out (by rw [HLL.out];omega)).mono ?_;rintro e w' ⟨v',rfl,hv',rfl⟩;have HV':=hid hv';clear hv')
   go_ret;exact ⟨_,rfl,by rw [←HLV.out];exact HV'.out,HB.out⟩
end Go.Proofs.YtinbgjcooolbiaaGreatDoor.Dg
namespace Go.Proofs.YtinbgjcooolbiaaGreatDoor.Dg
open Go.Lib (hid)
open Go.RowKit
theorem L7 (n:Nat):(limbs n).length≤bl n:=by
 rw [length_limbs];unfold bl;split<;>omega
theorem Y7 (n:Nat):bl n≤16*(limbs n).length:=by
 apply G8;have:=lt_pow_length n;rwa [show (65536:Nat)=2^16 from rfl,←Nat.pow_mul] at this
theorem len_mono {a b:Nat}(h:a≤b):(limbs a).length≤(limbs b).length:=by
 by_cases h1:(limbs a).length≤(limbs b).length
 ·exact h1
 ·exact absurd (Dc b a (by omega)) (by omega)
theorem limbs_one:limbs 1=[1]:=by rw [A0 1 (by decide)];simp [limbs_zero]
theorem lim_one (w:World):Lim (w.alloc (.cells #[.int .u32 1] 91)) (.slice (some ⟨w.heap.size,0,none⟩) 1 1) (limbs 1):=by
 rw [limbs_one];refine ⟨fun x hx=>by simp at hx;omega,some ⟨w.heap.size,0,none⟩,1,rfl,Nat.le_refl _,fun _=>⟨w.heap.size,0,rfl,by simp,fun i hi=>?_⟩⟩;have hi:i<1:=hi;obtain rfl:i=0:=by omega
 have h:(w.alloc (.cells #[.int .u32 1] 91)).cell? ⟨w.heap.size,0,none⟩=some (.int .u32 1):=by simp [go_sem]
 exact h
theorem Ts (w:World)(o:Obj):Kept w (w.alloc o):=(Below.refl _ _).alloc (Nat.le_refl _) _
theorem S8 {m s t:Nat}(h:m<(0+2^(s+1))*(0+2^(s+1)))(ht:t*t≤m):t<2^(s+2):=by
 rw [Nat.zero_add] at h;by_cases hc:t<2^(s+2)
 ·exact hc
 ·have hc:2^(s+2)≤t:=by omega
  have h1:=Nat.mul_le_mul hc hc;have h2:(2:Nat)^(s+1)≤2^(s+2):=Nat.pow_le_pow_right (by decide) (by omega);have h3:=Nat.mul_le_mul h2 h2;omega
def Yy (m:Nat) (w:World) (e:Ending) (w':World):Prop:=∃ r,r*r≤m∧m<(r+1)*(r+1)∧RetLim (limbs r) w e w'
theorem S9 {w:World}{v:Value}{m:Nat}(hv:Lim w v (limbs m))(hl:(limbs m).length≤10000) :
 Calls Tryz.prog 91 #[v] w (Yy m w):=by
 have hb:=Y7 m;have C1:=hid (fun w1 (k:Kept w w1)=>bits_c (hv.kept k) (by omega));have C2:=hid (fun w1 u i (hu:Lim w1 u (limbs 1)) (hi:i≤90000)=>shl_c hu i (by rw [limbs_one];decide) (by omega));have C3:=hid (fun w1 x y r i (hx:Lim w1 x (limbs r)) (hy:Lim w1 y (limbs (1*2^i))) (hr:r≤m) (hi:i≤90000)=>add_c hx hy (by have:=len_mono hr;omega) (by have h:=L7 (1*2^i);rw [Cs 1 i (by decide)] at h;have:bl 1=1:=rfl;omega));have C4:=hid (fun w1 x t (hx:Lim w1 x (limbs t)) (ht:bl t≤200000)=>mul_c hx hx (by have:=L7 t;omega) (by have:=L7 t;omega));have C5:=hid (fun w1 x t (k:Kept w w1) (hx:Lim w1 x (limbs (t*t))) (ht:bl (t*t)≤400000)=>cmp_c hx (hv.kept k) (by have:=L7 (t*t);omega) (by omega))
 obtain ⟨s0,hs0⟩:∃ s0,(bl m+1)/2=s0:=⟨_,rfl⟩;have hsb:s0≤80001:=by omega
 have hst:m<(0+2^(s0+1))*(0+2^(s0+1)):=by
  rw [Nat.zero_add,←Nat.pow_add];exact Nat.lt_of_lt_of_le (Bg m) (Nat.pow_le_pow_right (by decide) (by omega))
 have HST:=hid hst;obtain ⟨hs,A,c,rfl,hc,hA⟩:=hv;clear hs hA hst;have hbb:bl m≤160000:=by omega
 obtain ⟨bm,hbm⟩:∃ b,bl m=b:=⟨_,rfl⟩;rw [hbm] at hs0 hbb C1;clear hb hbm;generalize (limbs m).length=l at *;go_enter Tryz.func91,Tryz.ntmps91
 go_wp2_with (go_at_call 89;refine (C1.out _ (Below.refl _ _)).mono ?_;rintro e w' ⟨rfl,q,rfl⟩)
 go_loopw [3,4] (fun rv iv wr=>∃ (j r:Nat),iv=.int .i64 ((j:Int)-1)∧j≤s0+1∧r*r≤m∧m<(r+2^j)*(r+2^j)∧r<2^(s0+2)∧Lim wr rv (limbs r)∧Kept w wr) (fun _ iv _=>(intOf iv+1).toNat)
 case atStart=>exact ⟨s0+1,0,by go_num,Nat.le_refl _,Nat.zero_le _,HST.out,Nat.pow_pos (by decide),by rw [limbs_zero];exact Lim.nil _ _ _,Kept.drewN (Below.refl _ _) q⟩
 case round =>
  obtain ⟨j,r,rfl,hj,h1,h2,h3,hR,hK⟩:=hrel;have HR:=hid hR;have K:=hid hK;have H1:=hid h1;have H2:=hid h2;have H3:=hid h3;clear hR hK h1 h2 h3;cases j with
  | zero =>
    obtain ⟨A2,c2,he,-⟩:=HR.out.2;subst he;go_wp2_with fail;go_ret;exact ⟨r,H1.out,H2.out,_,rfl,HR.out,K.out⟩
  | succ i =>
    have hji:(((i+1:Nat):Int)-1)=(i:Int):=by omega
    rw [hji];clear hji;have hi:i≤90000:=by omega
    have hrm:r≤m:=by
     have:=H1.out;cases r with
     | zero=>exact Nat.zero_le _
     | succ r=>exact Nat.le_trans (Nat.le_mul_of_pos_left _ (Nat.succ_pos _)) this
    obtain ⟨t,ht⟩:∃ t,r+1*2^i=t:=⟨_,rfl⟩;have htb:t<2^(s0+3):=by
     have h3:=H3.out;have:2^i≤2^(s0+2):=Nat.pow_le_pow_right (by decide) (by omega);rw [show s0+3=(s0+2)+1 by omega,Nat.pow_succ];omega
    have hbt:bl t≤90000:=Nat.le_trans (G8 t _ htb) (by omega);have hbtt:bl (t*t)≤400000:=by
     refine Nat.le_trans (G8 (t*t) (s0+3+(s0+3)) ?_) (by omega);rw [Nat.pow_add];exact Nat.mul_lt_mul'' htb htb
    have D2:=hid (fun w1 u (hu:Lim w1 u (limbs 1))=>C2.out w1 u i hu hi);have D3:=hid (fun w1 x y (hx:Lim w1 x (limbs r)) (hy:Lim w1 y (limbs (1*2^i)))=>C3.out w1 x y r i hx hy hrm hi);rw [ht] at D3;have D4:=hid (fun w1 x (hx:Lim w1 x (limbs t))=>C4.out w1 x t hx (by omega));have D5:=hid (fun w1 x (k:Kept w w1) (hx:Lim w1 x (limbs (t*t)))=>C5.out w1 x t k hx hbtt);have HT:=hid ht;have HTB:=hid htb;clear ht htb hbt hbtt hrm;go_wp2_with fail;refine (D2.out _ _ (lim_one _)).mono ?_;rintro e w3 ⟨v3,rfl,hv3,k3⟩;simp only [];have V3:=hid hv3;have K3:=hid (K.out.trans ((Ts _ _).trans k3));have R3:=hid (HR.out.kept ((Ts _ _).trans k3))
    clear hv3 k3;go_wp2_with fail;refine (D3.out _ _ _ R3.out V3.out).mono ?_;rintro e w4 ⟨v4,rfl,hv4,k4⟩;simp only [];have V4:=hid hv4;have K4:=hid (K3.out.trans k4);have R4:=hid (R3.out.kept k4);clear hv4 k4;go_wp2_with fail;refine (D4.out _ _ V4.out).mono ?_;rintro e w5 ⟨v5,rfl,hv5,k5⟩;simp only [];have V5:=hid hv5;have K5:=hid (K4.out.trans k5);have R5:=hid (R4.out.kept k5);have T5:=hid (V4.out.kept k5);clear hv5 k5;go_wp2_with fail;refine (D5.out _ _ K5.out V5.out).mono ?_;rintro e w6 ⟨rfl,q6,rfl⟩;simp only [];by_cases hle:t*t≤m
    ·have hc:Bw (t*t) m≤0:=by unfold Bw;split;decide;split;decide;omega
     have hd:decide (Bw (t*t) m≤0)=true:=by simp [hc]
     have HLE:=hid hle;clear hc hle;generalize Bw (t*t) m=cc at *;go_wp2_with fail;go_roundw
     case rel=>exact ⟨i,t,by go_num,by omega,HLE.out,by rw [←HT.out,Nat.one_mul,Nat.add_assoc,←Nat.two_mul,←Nat.pow_succ'];exact H2.out,S8 HST.out HLE.out,T5.out.drewN q6,Kept.drewN K5.out q6⟩
     case measure=>simp [intOf]
    ·have hc:¬Bw (t*t) m≤0:=by unfold Bw;rw [if_neg (by omega),if_neg (by omega)];decide
     have hd:decide (Bw (t*t) m≤0)=false:=by simp [hc]
     have HLE:=hid hle;clear hc hle;generalize Bw (t*t) m=cc at *;go_wp2_with fail;go_roundw
     case rel=>exact ⟨i,r,by go_num,by omega,H1.out,by have:=HLE.out;rw [←HT.out,Nat.one_mul] at this;omega,H3.out,R5.out.drewN q6,Kept.drewN K5.out q6⟩
     case measure=>simp [intOf]
end Go.Proofs.YtinbgjcooolbiaaGreatDoor.Dg
