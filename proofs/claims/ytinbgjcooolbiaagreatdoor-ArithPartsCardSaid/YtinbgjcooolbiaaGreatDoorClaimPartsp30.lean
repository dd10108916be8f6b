/- Words and contracts, part 30. -/
import Derived.Test.YtinbgjcooolbiaaGreatDoorClaimPartsp21
set_option maxRecDepth 100000
set_option maxHeartbeats 0
namespace Go.Proofs.YtinbgjcooolbiaaGreatDoor.Dg
open Go.Lib (hid)
open Go.RowKit
theorem Aa3 {w:World}{v u:Value}{n m:Nat}(hv:Lim w v (limbs n))(hu:Lim w u (limbs m))(hl:(limbs n).length≤1000000)(hl':(limbs m).length≤1000000) :
 Calls Tryz.prog 94 #[v,u] w (RetLimF (limbs (n+m)) w):=by
 obtain ⟨hs,A,c,rfl,hc,hA⟩:=hv;obtain ⟨hs',A',c',rfl,hc',hA'⟩:=hu;have HE:=hid (fun i (h1:(limbs n).length≤i) (h2:(limbs m).length≤i) h0=>Zg (xs:=limbs n) (ys:=limbs m) h1 h2 h0);rw [val_limbs,val_limbs] at HE;have HZ:=hid (fun i (h1:(limbs n).length≤i) (h2:(limbs m).length≤i)=>Vw hs hs' h1 h2);have HX:=hid (fun i=>nth_lt hs i);have HY:=hid (fun i=>nth_lt hs' i);have HCY:=hid (Kg hs hs');have HBX:=hid (fun i (h:(limbs n).length≤i)=>Gq h);have HBY:=hid (fun i (h:(limbs m).length≤i)=>Gq h);have HA:=hid hA;have HA':=hid hA';clear hA hA' hs hs';obtain ⟨s,hsm⟩:∃ s,s=n+m:=⟨_,rfl⟩
 rw [←hsm] at HE ⊢;clear hsm;generalize limbs n=xs at *;generalize limbs m=ys at *;generalize xs.length=l at *;generalize ys.length=l' at *;obtain ⟨i0,hi,hz0,hz1,hz2⟩:=info_parts uinfo;go_enter Tryz.func94,Tryz.ntmps94;go_wp2_with fail
 go_loopw [5,6,7] (fun o cy i wr=>∃ k:Nat,k≤max l l'+1∧i=.int .i64 k∧cy=.int .u32 ((adS xs ys k).2:Nat)∧Own wr w.heap.size o (adS xs ys k).1∧Below w.heap.size w wr) (fun _ _ i _=>(max l l'+1-intOf i).toNat)
 case atStart=>exact ⟨0,Nat.zero_le _,rfl,rfl,World.ownsRow_nil _ _ _ _,Below.refl _ _⟩
 case round =>
  obtain ⟨k,hk,rfl,rfl,hO,hB⟩:=hrel;have HO:=hid hO;have HB:=hid hB;clear hO hB;have hcy:=HCY.out k;have HLN:=hid (Jk xs ys k);have HST:=hid (show adS xs ys (k+1)=((adS xs ys k).1++[((adS xs ys k).2+nth xs k+nth ys k)%65536],((adS xs ys k).2+nth xs k+nth ys k)/65536) from rfl);obtain ⟨L,hL⟩:∃ L,(adS xs ys k).1=L:=⟨_,rfl⟩;obtain ⟨cy,hcc⟩:∃ cy,(adS xs ys k).2=cy:=⟨_,rfl⟩;rw [hcc] at hcy;have HCC:=hid hcc;rw [hL] at HO HLN HST;rw [hcc] at HST;by_cases h1:k<l
  ·obtain ⟨b,off,rfl,hb,hcell⟩:=HA.out (by omega);have hck:=(HB.out.cell (p:=⟨b,off+k,none⟩) hb).trans (hcell k h1);have hxk:=HX.out k;clear hcell;by_cases h2:k<l'
   ·obtain ⟨b',off',rfl,hb',hcell'⟩:=HA'.out (by omega);have hck':=(HB.out.cell (p:=⟨b',off'+k,none⟩) hb').trans (hcell' k h2);have hyk:=HY.out k;clear hcell';rw [hcc];generalize nth xs k=x at *;generalize nth ys k=y at *;obtain ⟨t,ht⟩:∃ t,t=cy+x+y:=⟨_,rfl⟩;rw [←ht] at HST;have hlt:t<4294967296:=by omega
    obtain ⟨d,hd⟩:∃ d,d=t%65536:=⟨_,rfl⟩;have hand:bits .and .u32 ((cy:Int)+(x:Int)+(y:Int)) 65535=(d:Int):=by rw [hd,←Hl t hlt];congr 1;omega
    rw [←hd] at HST;have HD:=hid hd;have HT:=hid ht;clear hd
    go_wp2_with (at_builtin;go_must (refine wpList_append_own _ rfl _ _ 79 rfl w.heap.size 91 i0 (.int .u32 0) 1 4 Tryz.underlying79 hi hz0 hz1 hz2 rfl (by decide) _ L.length (L.map U) rfl (World.ownsRow.alloc HO.out _) ⟨_,0,none⟩ 1 1 [_] rfl rfl (Bk _ _ _) (by simp [Value.oneCell']) (by rw [HLN.out];unfold maxLen;omega) (by rw [HLN.out];omega) (by have:=HB.out.size;simp;omega) ?_))
    intro v' w2 hown2 hgrow2 _;have ho:Hid (Own w2 w.heap.size v' (L++[d])):=own_of_rows (ys:=[d]) hown2;have hk:Hid (Below w.heap.size w w2):=Below.grown (HB.out.alloc HB.out.size _) hgrow2 (by have:=HB.out.size;simp;omega) (fun k hk=>(World.ownsRow.lt HO.out k hk).1);clear hown2 hgrow2;go_wp2_with fail;go_roundw
    case rel=>exact ⟨k+1,by omega,by go_num,by rw [HST.out];go_num,by rw [HST.out];exact ho.out,hk.out⟩
    case measure=>simp [intOf];omega
   ·rw [hcc];rw [HBY.out k (by omega)] at HST;generalize nth xs k=x at *;obtain ⟨t,ht⟩:∃ t,t=cy+x+0:=⟨_,rfl⟩;rw [←ht] at HST;have hlt:t<4294967296:=by omega
    obtain ⟨d,hd⟩:∃ d,d=t%65536:=⟨_,rfl⟩;have hand:bits .and .u32 ((cy:Int)+(x:Int)) 65535=(d:Int):=by rw [hd,←Hl t hlt];congr 1;omega
    rw [←hd] at HST;have HD:=hid hd;have HT:=hid ht;clear hd;have n2:decide (k<l')=false:=by simp;omega
    go_wp2_with (at_builtin;go_must (refine wpList_append_own _ rfl _ _ 79 rfl w.heap.size 91 i0 (.int .u32 0) 1 4 Tryz.underlying79 hi hz0 hz1 hz2 rfl (by decide) _ L.length (L.map U) rfl (World.ownsRow.alloc HO.out _) ⟨_,0,none⟩ 1 1 [_] rfl rfl (Bk _ _ _) (by simp [Value.oneCell']) (by rw [HLN.out];unfold maxLen;omega) (by rw [HLN.out];omega) (by have:=HB.out.size;simp;omega) ?_))
    intro v' w2 hown2 hgrow2 _;have ho:Hid (Own w2 w.heap.size v' (L++[d])):=own_of_rows (ys:=[d]) hown2;have hk:Hid (Below w.heap.size w w2):=Below.grown (HB.out.alloc HB.out.size _) hgrow2 (by have:=HB.out.size;simp;omega) (fun k hk=>(World.ownsRow.lt HO.out k hk).1);clear hown2 hgrow2;go_wp2_with fail;go_roundw
    case rel=>exact ⟨k+1,by omega,by go_num,by rw [HST.out];go_num,by rw [HST.out];exact ho.out,hk.out⟩
    case measure=>simp [intOf];omega
  ·by_cases h2:k<l'
   ·obtain ⟨b',off',rfl,hb',hcell'⟩:=HA'.out (by omega);have hck':=(HB.out.cell (p:=⟨b',off'+k,none⟩) hb').trans (hcell' k h2);have hyk:=HY.out k;clear hcell';rw [hcc];rw [HBX.out k (by omega)] at HST;generalize nth ys k=y at *;obtain ⟨t,ht⟩:∃ t,t=cy+0+y:=⟨_,rfl⟩;rw [←ht] at HST;have hlt:t<4294967296:=by omega
    obtain ⟨d,hd⟩:∃ d,d=t%65536:=⟨_,rfl⟩;have hand:bits .and .u32 ((cy:Int)+(y:Int)) 65535=(d:Int):=by rw [hd,←Hl t hlt];congr 1;omega
    rw [←hd] at HST;have HD:=hid hd;have HT:=hid ht;clear hd;have n1:decide (k<l)=false:=by simp;omega
    go_wp2_with (at_builtin;go_must (refine wpList_append_own _ rfl _ _ 79 rfl w.heap.size 91 i0 (.int .u32 0) 1 4 Tryz.underlying79 hi hz0 hz1 hz2 rfl (by decide) _ L.length (L.map U) rfl (World.ownsRow.alloc HO.out _) ⟨_,0,none⟩ 1 1 [_] rfl rfl (Bk _ _ _) (by simp [Value.oneCell']) (by rw [HLN.out];unfold maxLen;omega) (by rw [HLN.out];omega) (by have:=HB.out.size;simp;omega) ?_))
    intro v' w2 hown2 hgrow2 _;have ho:Hid (Own w2 w.heap.size v' (L++[d])):=own_of_rows (ys:=[d]) hown2;have hk:Hid (Below w.heap.size w w2):=Below.grown (HB.out.alloc HB.out.size _) hgrow2 (by have:=HB.out.size;simp;omega) (fun k hk=>(World.ownsRow.lt HO.out k hk).1);clear hown2 hgrow2;go_wp2_with fail;go_roundw
    case rel=>exact ⟨k+1,by omega,by go_num,by rw [HST.out];go_num,by rw [HST.out];exact ho.out,hk.out⟩
    case measure=>simp [intOf];omega
   ·by_cases h0:cy=0
    ·have he:=HE.out k (by omega) (by omega) (by rw [HCC.out];exact h0);rw [hL] at he;have hlim:=HO.out.lim (by rw [←hL];exact Nn xs ys k);rw [hcc,h0];have n1:decide (k<l)=false:=by simp;omega
     have n2:decide (k<l')=false:=by simp;omega
     have HLM:=hid hlim;have HEE:=hid he;clear hlim he
     go_wp2_with (go_at_call 130;refine (S5 HO.out HLM.out.1 (by rw [HLN.out];omega)).mono ?_;rintro e w' ⟨v',rfl,hv',hf',rfl⟩;have HV':=hid hv';have FR:=hid hf';clear hv' hf')
     go_ret;exact ⟨_,rfl,by rw [←HEE.out];exact HV'.out,HB.out,.inr FR.out⟩
    ·have hkk:¬k=max l l'+1:=by
      intro hk';have:=HZ.out (k-1) (by omega) (by omega);rw [show k-1+1=k by omega,hcc] at this;exact h0 this
     have n3:decide (0<cy)=true:=by simp;omega
     have n4:0<cy:=by omega
     rw [hcc];rw [HBX.out k (by omega)] at HST;rw [HBY.out k (by omega)] at HST;obtain ⟨t,ht⟩:∃ t,t=cy+0+0:=⟨_,rfl⟩;rw [←ht] at HST;have hlt:t<4294967296:=by omega
     obtain ⟨d,hd⟩:∃ d,d=t%65536:=⟨_,rfl⟩;have hand:bits .and .u32 ((cy:Int)) 65535=(d:Int):=by rw [hd,←Hl t hlt];congr 1;omega
     rw [←hd] at HST;have HD:=hid hd;have HT:=hid ht;clear hd;have n1:decide (k<l)=false:=by simp;omega
     have n2:decide (k<l')=false:=by simp;omega
     go_wp2_with (at_builtin;go_must (refine wpList_append_own _ rfl _ _ 79 rfl w.heap.size 91 i0 (.int .u32 0) 1 4 Tryz.underlying79 hi hz0 hz1 hz2 rfl (by decide) _ L.length (L.map U) rfl (World.ownsRow.alloc HO.out _) ⟨_,0,none⟩ 1 1 [_] rfl rfl (Bk _ _ _) (by simp [Value.oneCell']) (by rw [HLN.out];unfold maxLen;omega) (by rw [HLN.out];omega) (by have:=HB.out.size;simp;omega) ?_))
     intro v' w2 hown2 hgrow2 _;have ho:Hid (Own w2 w.heap.size v' (L++[d])):=own_of_rows (ys:=[d]) hown2;have hk:Hid (Below w.heap.size w w2):=Below.grown (HB.out.alloc HB.out.size _) hgrow2 (by have:=HB.out.size;simp;omega) (fun k hk=>(World.ownsRow.lt HO.out k hk).1);clear hown2 hgrow2;go_wp2_with fail;go_roundw
     case rel=>exact ⟨k+1,by omega,by go_num,by rw [HST.out];go_num,by rw [HST.out];exact ho.out,hk.out⟩
     case measure=>simp [intOf];omega
theorem Adp {w:World}{v u:Value}{n m:Nat}(hv:Lim w v (limbs n))(hu:Lim w u (limbs m))(hl:(limbs n).length≤1000000)(hm:m≤n) :
 Calls Tryz.prog 102 #[v,u] w (RetLimF (limbs (n-m)) w):=by
 have hll:(limbs m).length≤(limbs n).length:=by
  by_cases h:(limbs m).length≤(limbs n).length
  ·exact h
  ·exact absurd (C0 n m (by omega)) (by omega)
 obtain ⟨hs,A,c,rfl,hc,hA⟩:=hv;obtain ⟨hs',A',c',rfl,hc',hA'⟩:=hu;have HE:=hid (Aaq hs hs' hll (by rw [val_limbs,val_limbs];exact hm));rw [val_limbs,val_limbs] at HE;have HX:=hid (fun i=>nth_lt hs i);have HY:=hid (fun i=>nth_lt hs' i);have HSM:=hid (Ku hs hs');have HBY:=hid (fun i (h:(limbs m).length≤i)=>Gq h);have HA:=hid hA;have HA':=hid hA';clear hA hA' hs hs' hm;obtain ⟨s,hsm⟩:∃ s,s=n-m:=⟨_,rfl⟩;rw [←hsm] at HE ⊢;clear hsm;generalize limbs n=xs at *;generalize limbs m=ys at *;generalize xs.length=l at *;generalize ys.length=l' at *;obtain ⟨i0,hi,hz0,hz1,hz2⟩:=info_parts uinfo
 go_enter Tryz.func102,Tryz.ntmps102;go_wp2_with fail
 go_loopw [5,6,7] (fun o cy i wr=>∃ k:Nat,k≤l∧i=.int .i64 k∧cy=.int .i32 ((sbS xs ys k).2:Nat)∧Own wr w.heap.size o (sbS xs ys k).1∧Below w.heap.size w wr) (fun _ _ i _=>(l-intOf i).toNat)
 case atStart=>exact ⟨0,Nat.zero_le _,rfl,rfl,World.ownsRow_nil _ _ _ _,Below.refl _ _⟩
 case round =>
  obtain ⟨k,hk,rfl,rfl,hO,hB⟩:=hrel;have HO:=hid hO;have HB:=hid hB;clear hO hB;have hcy:=Kt xs ys k;have HLN:=hid (H6 xs ys k)
  have HST:=hid (show sbS xs ys (k+1)=((sbS xs ys k).1++[if nth xs k<nth ys k+(sbS xs ys k).2 then nth xs k+65536-(nth ys k+(sbS xs ys k).2) else nth xs k-(nth ys k+(sbS xs ys k).2)],
   if nth xs k<nth ys k+(sbS xs ys k).2 then 1 else 0) from rfl)
  by_cases h1:k<l
  ·obtain ⟨L,hL⟩:∃ L,(sbS xs ys k).1=L:=⟨_,rfl⟩;obtain ⟨cy,hcc⟩:∃ cy,(sbS xs ys k).2=cy:=⟨_,rfl⟩;rw [hcc] at hcy;rw [hL] at HO HLN HST;rw [hcc] at HST;obtain ⟨b,off,rfl,hb,hcell⟩:=HA.out (by omega);have hck:=(HB.out.cell (p:=⟨b,off+k,none⟩) hb).trans (hcell k h1);have hxk:=HX.out k;clear hcell;by_cases h2:k<l'
   ·obtain ⟨b',off',rfl,hb',hcell'⟩:=HA'.out (by omega);have hck':=(HB.out.cell (p:=⟨b',off'+k,none⟩) hb').trans (hcell' k h2);have hyk:=HY.out k;clear hcell';rw [hcc];generalize nth xs k=x at *;generalize nth ys k=y at *;obtain ⟨z1,hz1'⟩:∃ z1:Int,(x:Int)-(cy:Int)=z1:=⟨_,rfl⟩;have z1a:-1≤z1:=by omega
    have z1b:z1≤65535:=by omega
    obtain ⟨z,hzz⟩:∃ z:Int,z1-(y:Int)=z:=⟨_,rfl⟩;have za:-65536≤z:=by omega
    have zb:z≤65535:=by omega
    by_cases hlt:x<y+cy
    ·rw [if_pos hlt,if_pos hlt] at HST;obtain ⟨d,hd⟩:∃ d,d=x+65536-(y+cy):=⟨_,rfl⟩;rw [←hd] at HST;have hneg:decide (z<0)=true:=by simp;omega
     have hadd:z+65536=(d:Int):=by omega
     have hdb:d<65536:=by omega
     have HD:=hid hd;have HLT:=hid hlt;clear hd hlt
     go_wp2_with (at_builtin;go_must (refine wpList_append_own _ rfl _ _ 79 rfl w.heap.size 91 i0 (.int .u32 0) 1 4 Tryz.underlying79 hi hz0 hz1 hz2 rfl (by decide) _ L.length (L.map U) rfl (World.ownsRow.alloc HO.out _) ⟨_,0,none⟩ 1 1 [_] rfl rfl (Bk _ _ _) (by simp [Value.oneCell']) (by rw [HLN.out];unfold maxLen;omega) (by rw [HLN.out];omega) (by have:=HB.out.size;simp;omega) ?_))
     intro v' w2 hown2 hgrow2 _;have ho:Hid (Own w2 w.heap.size v' (L++[d])):=own_of_rows (ys:=[d]) hown2;have hk:Hid (Below w.heap.size w w2):=Below.grown (HB.out.alloc HB.out.size _) hgrow2 (by have:=HB.out.size;simp;omega) (fun k hk=>(World.ownsRow.lt HO.out k hk).1);clear hown2 hgrow2;go_wp2_with fail;go_roundw
     case rel=>exact ⟨k+1,by omega,by go_num,by rw [HST.out];rfl,by rw [HST.out];exact ho.out,hk.out⟩
     case measure=>simp [intOf];omega
    ·rw [if_neg hlt,if_neg hlt] at HST;obtain ⟨d,hd⟩:∃ d,d=x-(y+cy):=⟨_,rfl⟩;rw [←hd] at HST;have hneg:decide (z<0)=false:=by simp;omega
     obtain rfl:z=(d:Int):=by omega
     have hdb:d<65536:=by omega
     have HD:=hid hd;have HLT:=hid hlt;clear hd hlt
     go_wp2_with (at_builtin;go_must (refine wpList_append_own _ rfl _ _ 79 rfl w.heap.size 91 i0 (.int .u32 0) 1 4 Tryz.underlying79 hi hz0 hz1 hz2 rfl (by decide) _ L.length (L.map U) rfl (World.ownsRow.alloc HO.out _) ⟨_,0,none⟩ 1 1 [_] rfl rfl (Bk _ _ _) (by simp [Value.oneCell']) (by rw [HLN.out];unfold maxLen;omega) (by rw [HLN.out];omega) (by have:=HB.out.size;simp;omega) ?_))
     intro v' w2 hown2 hgrow2 _;have ho:Hid (Own w2 w.heap.size v' (L++[d])):=own_of_rows (ys:=[d]) hown2;have hk:Hid (Below w.heap.size w w2):=Below.grown (HB.out.alloc HB.out.size _) hgrow2 (by have:=HB.out.size;simp;omega) (fun k hk=>(World.ownsRow.lt HO.out k hk).1);clear hown2 hgrow2;go_wp2_with fail;go_roundw
     case rel=>exact ⟨k+1,by omega,by go_num,by rw [HST.out];rfl,by rw [HST.out];exact ho.out,hk.out⟩
     case measure=>simp [intOf];omega
   ·rw [hcc];rw [HBY.out k (by omega),Nat.zero_add] at HST;generalize nth xs k=x at *;obtain ⟨z1,hz1'⟩:∃ z1:Int,(x:Int)-(cy:Int)=z1:=⟨_,rfl⟩;have z1a:-1≤z1:=by omega
    have z1b:z1≤65535:=by omega
    have n2:decide (k<l')=false:=by simp;omega
    by_cases hlt:x<cy
    ·rw [if_pos hlt,if_pos hlt] at HST;obtain ⟨d,hd⟩:∃ d,d=x+65536-(cy):=⟨_,rfl⟩;rw [←hd] at HST;have hneg:decide (z1<0)=true:=by simp;omega
     have hadd:z1+65536=(d:Int):=by omega
     have hdb:d<65536:=by omega
     have HD:=hid hd;have HLT:=hid hlt;clear hd hlt
     go_wp2_with (at_builtin;go_must (refine wpList_append_own _ rfl _ _ 79 rfl w.heap.size 91 i0 (.int .u32 0) 1 4 Tryz.underlying79 hi hz0 hz1 hz2 rfl (by decide) _ L.length (L.map U) rfl (World.ownsRow.alloc HO.out _) ⟨_,0,none⟩ 1 1 [_] rfl rfl (Bk _ _ _) (by simp [Value.oneCell']) (by rw [HLN.out];unfold maxLen;omega) (by rw [HLN.out];omega) (by have:=HB.out.size;simp;omega) ?_))
     intro v' w2 hown2 hgrow2 _;have ho:Hid (Own w2 w.heap.size v' (L++[d])):=own_of_rows (ys:=[d]) hown2;have hk:Hid (Below w.heap.size w w2):=Below.grown (HB.out.alloc HB.out.size _) hgrow2 (by have:=HB.out.size;simp;omega) (fun k hk=>(World.ownsRow.lt HO.out k hk).1);clear hown2 hgrow2;go_wp2_with fail;go_roundw
     case rel=>exact ⟨k+1,by omega,by go_num,by rw [HST.out];rfl,by rw [HST.out];exact ho.out,hk.out⟩
     case measure=>simp [intOf];omega
    ·rw [if_neg hlt,if_neg hlt] at HST;obtain ⟨d,hd⟩:∃ d,d=x-(cy):=⟨_,rfl⟩;rw [←hd] at HST;have hneg:decide (z1<0)=false:=by simp;omega
     obtain rfl:z1=(d:Int):=by omega
     have hdb:d<65536:=by omega
     have HD:=hid hd;have HLT:=hid hlt;clear hd hlt
     go_wp2_with (at_builtin;go_must (refine wpList_append_own _ rfl _ _ 79 rfl w.heap.size 91 i0 (.int .u32 0) 1 4 Tryz.underlying79 hi hz0 hz1 hz2 rfl (by decide) _ L.length (L.map U) rfl (World.ownsRow.alloc HO.out _) ⟨_,0,none⟩ 1 1 [_] rfl rfl (Bk _ _ _) (by simp [Value.oneCell']) (by rw [HLN.out];unfold maxLen;omega) (by rw [HLN.out];omega) (by have:=HB.out.size;simp;omega) ?_))
     intro v' w2 hown2 hgrow2 _;have ho:Hid (Own w2 w.heap.size v' (L++[d])):=own_of_rows (ys:=[d]) hown2;have hk:Hid (Below w.heap.size w w2):=Below.grown (HB.out.alloc HB.out.size _) hgrow2 (by have:=HB.out.size;simp;omega) (fun k hk=>(World.ownsRow.lt HO.out k hk).1);clear hown2 hgrow2;go_wp2_with fail;go_roundw
     case rel=>exact ⟨k+1,by omega,by go_num,by rw [HST.out];rfl,by rw [HST.out];exact ho.out,hk.out⟩
     case measure=>simp [intOf];omega
  ·obtain rfl:k=l:=by omega
   have he:=HE.out;have hlim:=HO.out.lim (HSM.out k);have HLM:=hid hlim;have HEE:=hid he;clear hlim he
   go_wp2_with (go_at_call 130;refine (S5 HO.out HLM.out.1 (by rw [HLN.out];omega)).mono ?_;rintro e w' ⟨v',rfl,hv',hf',rfl⟩;have HV':=hid hv';have FR:=hid hf';clear hv' hf')
   go_ret;exact ⟨_,rfl,by rw [←HEE.out];exact HV'.out,HB.out,.inr FR.out⟩
theorem add_c {w:World}{v u:Value}{n m:Nat}(hv:Lim w v (limbs n))(hu:Lim w u (limbs m))(hl:(limbs n).length≤1000000)(hl':(limbs m).length≤1000000) :
 Calls Tryz.prog 94 #[v,u] w (RetLim (limbs (n+m)) w):=(Aa3 hv hu hl hl').mono fun _ _ h=>h.lim
end Go.Proofs.YtinbgjcooolbiaaGreatDoor.Dg
namespace Go.Proofs.YtinbgjcooolbiaaGreatDoor.Dg
open Go.Lib (hid)
open Go.RowKit
theorem mul_c {w:World}{v u:Value}{n m:Nat}(hv:Lim w v (limbs n))(hu:Lim w u (limbs m))(hl:(limbs n).length≤1000000)(hl':(limbs m).length≤1000000) :
 Calls Tryz.prog 93 #[v,u] w (RetLim (limbs (n*m)) w):=by
 obtain ⟨hs,A,c,rfl,hc,hA⟩:=hv;obtain ⟨hs',A',c',rfl,hc',hA'⟩:=hu;have hvx:val (limbs n)=n:=val_limbs n;have hvy:val (limbs m)=m:=val_limbs m;generalize limbs n=xs at *;generalize limbs m=ys at *;have HSX:=hid hs;have HSY:=hid hs';have HX:=hid (fun i=>nth_lt hs i);have HY:=hid (fun i=>nth_lt hs' i);have HA:=hid hA;have HA':=hid hA';obtain ⟨l,hlx⟩:∃ l,xs.length=l:=⟨_,rfl⟩;obtain ⟨l',hly⟩:∃ l,ys.length=l:=⟨_,rfl⟩;have HLX:=hid hlx;have HLY:=hid hly;have HVX:=hid hvx;have HVY:=hid hvy;rw [hlx] at hl HA hc ⊢;rw [hly] at hl' HA' hc' ⊢;clear hA hA' hs hs' hlx hly hvx hvy
 -- the whole is short enough
 have HB0:Hid (∀ i,i<l→val (xs.take (i+1))*val ys<65536^(l+l')):=by
  intro i hi;have h1:=val_lt (xs.take (i+1)) (small_take HSX.out _);have h2:=val_lt ys HSY.out;rw [HLY.out] at h2;rw [List.length_take,HLX.out] at h1;rw [Nat.pow_add];have h3:val (xs.take (i+1))<65536^l:=Nat.lt_of_lt_of_le h1 (Nat.pow_le_pow_right (by decide) (by omega));exact Nat.mul_lt_mul'' h3 h2
 obtain ⟨i0,hi,hz0,hz1,hz2⟩:=info_parts uinfo;go_enter Tryz.func93,Tryz.ntmps93
 go_wp2_with (at_make;go_must (refine wpList_make_full _ rfl _ _ 79 rfl w.heap.size 91 i0 (.int .u32 0) 1 Tryz.underlying79 hi hz0 hz1 .i64 .i64 _ _ (l+l') rfl rfl (by omega) (by omega) (by rw [hz2];omega) (by unfold maxLen;omega) (by simp) ?_))
 intro w1 hown1 hgrow1;have ho:Hid (Own w1 w.heap.size (.slice (some ⟨w.heap.size,0,none⟩) (l+l') (l+l')) (List.replicate (l+l') 0)):=E8 hown1;have hk:Hid (Below w.heap.size w w1):=Below.grown (Below.refl _ _) hgrow1 (by simp) (by intro k hk;cases hk);clear hown1 hgrow1;go_wp2_with fail
 go_loopw [6] (fun i wr=>∃ (k:Nat) (L:List Nat),k≤l∧i=.int .i64 k∧L.length=l+l'∧Small L∧val L=val (xs.take k)*val ys∧Own wr w.heap.size (.slice (some ⟨w.heap.size,0,none⟩) (l+l') (l+l')) L∧Below w.heap.size w wr) (fun i _=>(l-intOf i).toNat)
 case atStart=>exact ⟨0,_,Nat.zero_le _,rfl,List.length_replicate ..,Mw _,by rw [Rr];simp [val],ho.out,hk.out⟩
 case round =>
  clear ho hk;obtain ⟨i,L,hil,rfl,hLl,hLs,hLv,hO,hB⟩:=hrel;have HO:=hid hO;have HB:=hid hB;have HLL:=hid hLl;have HLS:=hid hLs;have HLV:=hid hLv;clear hO hB hLl hLs hLv;by_cases hlt:i<l
  ·obtain ⟨b,off,rfl,hb,hcell⟩:=HA.out (by omega);have HCX:=hid (hcell i hlt);have hxk:=HX.out i;have HXI:Hid (val (xs.take (i+1))=val (xs.take i)+65536^i*nth xs i):=C9 xs i;have hbd:=HB0.out i hlt;rw [HXI.out] at hbd;have HBD:=hid hbd;clear hcell hbd;obtain ⟨x,hx⟩:∃ x,nth xs i=x:=⟨_,rfl⟩;rw [hx] at HCX hxk HXI HBD;clear hx;have HM:=hid (Jp L i x ys);have HMS:=hid (Km HLS.out i x ys);have HMC:=hid (Nz HLS.out i hxk HSY.out);have HMV:=hid (Ts L i x ys (by rw [HLY.out,HLL.out];omega));go_wp2_with fail
   go_loopw [7,8] (fun cy k wr=>∃ j:Nat,j≤l'∧k=.int .i64 j∧cy=.int .u32 ((mlS L i x ys j).2:Nat)∧Own wr w.heap.size (.slice (some ⟨w.heap.size,0,none⟩) (l+l') (l+l')) (mlS L i x ys j).1∧Below w.heap.size w wr) (fun _ k _=>(l'-intOf k).toNat)
   case atStart=>exact ⟨0,Nat.zero_le _,rfl,rfl,HO.out,HB.out⟩
   case round =>
    obtain ⟨j,hj,rfl,rfl,hO,hB⟩:=hrel;replace HO:=hid hO;replace HB:=hid hB;clear hO hB;by_cases hjl:j<l'
    ·obtain ⟨b',off',rfl,hb',hcell'⟩:=HA'.out (by omega);have hck':=(HB.out.cell (p:=⟨b',off'+j,none⟩) hb').trans (hcell' j hjl);have hck:=(HB.out.cell (p:=⟨b,off+i,none⟩) hb).trans HCX.out;have hyk:=HY.out j;have hoc:=HO.out.cell (i+j) (by rw [HM.out,HLL.out];omega);have hof:=HO.out.frozen (i+j);have hzk:=nth_lt (HMS.out j) (i+j);have hcy:=HMC.out j;have HST:=hid (show mlS L i x ys (j+1)=((mlS L i x ys j).1.set (i+j) ((x*nth ys j+nth (mlS L i x ys j).1 (i+j)+(mlS L i x ys j).2)%65536),(x*nth ys j+nth (mlS L i x ys j).1 (i+j)+(mlS L i x ys j).2)/65536) from rfl);clear hcell';generalize (mlS L i x ys j).2=cy at *
     obtain ⟨M,hM⟩:∃ M,(mlS L i x ys j).1=M:=⟨_,rfl⟩;rw [hM] at HO HST hoc hzk;generalize nth ys j=y at *;generalize nth M (i+j)=z at *;have hrb:=Oa hxk hyk hzk hcy;obtain ⟨t,ht⟩:∃ t,t=x*y+z:=⟨_,rfl⟩;rw [←ht] at HST hrb;have htb:t≤4294901760:=hrb.1;have hxy:((x:Int)*(y:Int)%4294967296+(z:Int))%4294967296=(t:Int):=by
      have e:(x:Int)*(y:Int)=((x*y:Nat):Int):=by simp
      rw [e];generalize x*y=xy at *;omega
     have HT:=hid ht;clear hrb ht;obtain ⟨s',hs'⟩:∃ s',t+cy=s':=⟨_,rfl⟩;rw [hs'] at HST;have hsum:(t:Int)+(cy:Int)=(s':Int):=by omega
     have hsb:s'≤4294967296:=by omega
     have HS':=hid hs';clear hs';by_cases hov:s'<4294967296
     ·obtain ⟨d,hd⟩:∃ d,d=s'%65536:=⟨_,rfl⟩;have hand:=Hl s' hov;rw [←hd] at HST hand;have hnl:decide (s'<t)=false:=by have:=HS'.out;simp;omega
      have HD:=hid hd;clear hd;go_wp2_with fail
      go_quiet (fail)
      go_wp2_with fail;go_roundw
      case rel=>exact ⟨j+1,by omega,by go_num,by rw [HST.out];go_num,by rw [HST.out];exact (HO.out.drewN nq).stored (i+j) d,(Kept.drewN HB.out nq).setCell (Nat.le_refl _) _⟩
      case measure=>simp [intOf];omega
     ·have hse:s'=4294967296:=by omega
      have hw:(s':Int)%4294967296=0:=by rw [hse];rfl
      have hnl:decide (0<t)=true:=by have:=HS'.out;simp;omega
      have hnl2:0<t:=by have:=HS'.out;omega
      have hnl3:decide ((0:Int)<(t:Int))=true:=by have:=HS'.out;simp;omega
      have HFL:Hid (bits .and .u32 (((x:Int)*(y:Int)%4294967296+(z:Int)+(cy:Int))%4294967296) 65535=((0:Nat):Int)):=by
       have e:((x:Int)*(y:Int)%4294967296+(z:Int)+(cy:Int))%4294967296=0:=by
        generalize (x:Int)*(y:Int)=xy at *;omega
       rw [e];exact (by decide:bits .and .u32 0 65535=((0:Nat):Int))
      rw [show s'%65536=0 by rw [hse],show s'/65536=65536 by rw [hse]] at HST;have HSE:=hid hse;clear hse hov hsb;go_wp2_with fail
      go_quiet (fail)
      go_wp2_with fail;go_roundw
      case rel=>exact ⟨j+1,by omega,by go_num,by rw [HST.out];go_num,by rw [HST.out,HFL.out];exact (HO.out.drewN nq).stored (i+j) 0,(Kept.drewN HB.out nq).setCell (Nat.le_refl _) _⟩
      case measure=>simp [intOf];omega
    ·obtain rfl:j=l':=by omega
     have hmv:=HMV.out j (by rw [HLY.out];exact Nat.le_refl _);rw [List.take_of_length_le (by rw [HLY.out];exact Nat.le_refl _),HLV.out] at hmv;have htot:val (mlS L i x ys j).1+65536^(i+j)*(mlS L i x ys j).2=(val (xs.take i)+65536^i*x)*val ys:=by
      rw [hmv,Nat.add_mul,Nat.mul_assoc]
     have hMl:(mlS L i x ys j).1.length=l+j:=by rw [HM.out,HLL.out]
     have hMs:=HMS.out j;have hMc:=HMC.out j;generalize (mlS L i x ys j).2=C at *;generalize (mlS L i x ys j).1=M at *;have HTOT:=hid htot;have HML:=hid hMl;have HPS:=hid (Ko hMs C (i+j));have HPC:=hid (N7 hMs hMc (i+j));have HPL:=hid (Jq M C (i+j));have HPV:=hid (Pe M C (i+j));have HPR:=hid (fun t (h1:i+j+t≤l+j) h0=>Ya (out:=M) (c:=C) (k:=i+j) (j:=t) (by rw [hMl];exact h1) (by rw [htot,hMl];exact HBD.out) h0);clear htot hMl hMs hMc hmv HMV HM HMS HMC;go_wp2_with fail
     go_loopw [7,12] (fun cy k wr=>∃ t:Nat,i+j+t≤l+j∧k=.int .i64 ((i+j+t:Nat):Int)∧cy=.int .u32 ((prS M C (i+j) t).2:Nat)∧Own wr w.heap.size (.slice (some ⟨w.heap.size,0,none⟩) (l+j) (l+j)) (prS M C (i+j) t).1∧Below w.heap.size w wr) (fun _ k _=>(l+j-intOf k).toNat)
     case atStart=>exact ⟨0,by omega,by go_num,rfl,HO.out,HB.out⟩
     case round =>
      obtain ⟨t,ht,rfl,rfl,hO,hB⟩:=hrel;replace HO:=hid hO;replace HB:=hid hB;clear hO hB;by_cases h0:(prS M C (i+j) t).2=0
      ·have hv:=HPV.out t (by rw [HML.out];exact ht);rw [h0,Nat.mul_zero,Nat.add_zero,HTOT.out] at hv;have hlen:=HPL.out t;rw [HML.out] at hlen;have hsm:=HPS.out t;rw [h0];generalize (prS M C (i+j) t).1=N at *;have HV:=hid hv;have HN:=hid hlen;have HNS:=hid hsm;have H00:=hid h0;clear hv hlen hsm h0;go_wp2_with fail;go_roundw
       case rel=>exact ⟨i+1,N,by omega,by go_num,HN.out,HNS.out,by rw [HXI.out];exact HV.out,HO.out,HB.out⟩
       case measure=>simp [intOf];omega
      ·have hroom:=HPR.out t ht h0;rw [HML.out] at hroom;have hoc:=HO.out.cell (i+j+t) (by rw [HPL.out,HML.out];exact hroom);have hof:=HO.out.frozen (i+j+t);have hzk:=nth_lt (HPS.out t) (i+j+t);have hcy:=HPC.out t;have HST:=hid (show prS M C (i+j) (t+1)=((prS M C (i+j) t).1.set (i+j+t) (((prS M C (i+j) t).2+nth (prS M C (i+j) t).1 (i+j+t))%65536),((prS M C (i+j) t).2+nth (prS M C (i+j) t).1 (i+j+t))/65536) from rfl);generalize (prS M C (i+j) t).2=cy at *;obtain ⟨N,hN⟩:∃ N,(prS M C (i+j) t).1=N:=⟨_,rfl⟩;rw [hN] at HO HST hoc hzk;obtain ⟨g,hg⟩:∃ g,i+j+t=g:=⟨_,rfl⟩;rw [hg] at HST hoc hzk hof hroom ⊢
       generalize nth N g=z at *;obtain ⟨s',hs'⟩:∃ s',cy+z=s':=⟨_,rfl⟩;rw [hs'] at HST;have hsum:(cy:Int)+(z:Int)=(s':Int):=by omega
       have hsb:s'<4294967296:=by omega
       obtain ⟨d,hd⟩:∃ d,d=s'%65536:=⟨_,rfl⟩;have hand:=Hl s' hsb;rw [←hd] at HST hand;have n1:decide (0<cy)=true:=by simp;omega
       have n2:0<cy:=by omega
       have HD:=hid hd;have HG:=hid hg;have HS':=hid hs';clear hd hg hs' h0;go_wp2_with fail;go_roundw
       case rel=>exact ⟨t+1,by have:=HG.out;omega,by have:=HG.out;go_num,by rw [HST.out];go_num,by rw [HST.out];exact HO.out.stored g d,HB.out.setCell (Nat.le_refl _) _⟩
       case measure=>have:=HG.out;simp [intOf];omega
  ·obtain rfl:i=l:=by omega
   rw [List.take_of_length_le (by rw [HLX.out];exact Nat.le_refl _),HVX.out,HVY.out] at HLV;have hlim:=HO.out.lim HLS.out;have HLM:=hid hlim;clear hlim
   go_wp2_with (go_at_call 130;refine (Em HLM.out (by rw [HLL.out];omega)).mono ?_;rintro e w' ⟨v',rfl,hv',rfl⟩;have HV':=hid hv';clear hv')
   go_ret;exact ⟨_,rfl,by rw [←HLV.out];exact HV'.out,HB.out⟩
end Go.Proofs.YtinbgjcooolbiaaGreatDoor.Dg
namespace Go.Proofs.YtinbgjcooolbiaaGreatDoor.Dg
open Go.Lib (hid)
open Go.RowKit
theorem J6 (n:Nat):(limbs n).length≤bl n:=by
 rw [length_limbs];unfold bl;split<;>omega
theorem Oj (n:Nat):bl n≤16*(limbs n).length:=by
 apply Gb;have:=lt_pow_length n;rwa [show (65536:Nat)=2^16 from rfl,←Nat.pow_mul] at this
theorem len_mono {a b:Nat}(h:a≤b):(limbs a).length≤(limbs b).length:=by
 by_cases h1:(limbs a).length≤(limbs b).length
 ·exact h1
 ·exact absurd (C0 b a (by omega)) (by omega)
theorem limbs_one:limbs 1=[1]:=by rw [Bc 1 (by decide)];simp [limbs_zero]
theorem lim_one (w:World):Lim (w.alloc (.cells #[.int .u32 1] 91)) (.slice (some ⟨w.heap.size,0,none⟩) 1 1) (limbs 1):=by
 rw [limbs_one];refine ⟨fun x hx=>by simp at hx;omega,some ⟨w.heap.size,0,none⟩,1,rfl,Nat.le_refl _,fun _=>⟨w.heap.size,0,rfl,by simp,fun i hi=>?_⟩⟩;have hi:i<1:=hi;obtain rfl:i=0:=by omega
 have h:(w.alloc (.cells #[.int .u32 1] 91)).cell? ⟨w.heap.size,0,none⟩=some (.int .u32 1):=by simp [go_sem]
 exact h
theorem Lr (w:World)(o:Obj):Kept w (w.alloc o):=(Below.refl _ _).alloc (Nat.le_refl _) _
theorem Sx {m s t:Nat}(h:m<(0+2^(s+1))*(0+2^(s+1)))(ht:t*t≤m):t<2^(s+2):=by
 rw [Nat.zero_add] at h;by_cases hc:t<2^(s+2)
 ·exact hc
 ·have hc:2^(s+2)≤t:=by omega
  have h1:=Nat.mul_le_mul hc hc;have h2:(2:Nat)^(s+1)≤2^(s+2):=Nat.pow_le_pow_right (by decide) (by omega);have h3:=Nat.mul_le_mul h2 h2;omega
def Zf (m:Nat) (w:World) (e:Ending) (w':World):Prop:=∃ r,r*r≤m∧m<(r+1)*(r+1)∧RetLim (limbs r) w e w'
theorem root_c {w:World}{v:Value}{m:Nat}(hv:Lim w v (limbs m))(hl:(limbs m).length≤10000) :
 Calls Tryz.prog 91 #[v] w (Zf m w):=by
 have hb:=Oj m;have C1:=hid (fun w1 (k:Kept w w1)=>bits_c (hv.kept k) (by omega));have C2:=hid (fun w1 u i (hu:Lim w1 u (limbs 1)) (hi:i≤90000)=>shl_c hu i (by rw [limbs_one];decide) (by omega));have C3:=hid (fun w1 x y r i (hx:Lim w1 x (limbs r)) (hy:Lim w1 y (limbs (1*2^i))) (hr:r≤m) (hi:i≤90000)=>add_c hx hy (by have:=len_mono hr;omega) (by have h:=J6 (1*2^i);rw [Ci 1 i (by decide)] at h;have:bl 1=1:=rfl;omega));have C4:=hid (fun w1 x t (hx:Lim w1 x (limbs t)) (ht:bl t≤200000)=>mul_c hx hx (by have:=J6 t;omega) (by have:=J6 t;omega));have C5:=hid (fun w1 x t (k:Kept w w1) (hx:Lim w1 x (limbs (t*t))) (ht:bl (t*t)≤400000)=>cmp_c hx (hv.kept k) (by have:=J6 (t*t);omega) (by omega))
 obtain ⟨s0,hs0⟩:∃ s0,(bl m+1)/2=s0:=⟨_,rfl⟩;have hsb:s0≤80001:=by omega
 have hst:m<(0+2^(s0+1))*(0+2^(s0+1)):=by
  rw [Nat.zero_add,←Nat.pow_add];exact Nat.lt_of_lt_of_le (Bi m) (Nat.pow_le_pow_right (by decide) (by omega))
 have HST:=hid hst;obtain ⟨hs,A,c,rfl,hc,hA⟩:=hv;clear hs hA hst;have hbb:bl m≤160000:=by omega
 obtain ⟨bm,hbm⟩:∃ b,bl m=b:=⟨_,rfl⟩;rw [hbm] at hs0 hbb C1;clear hb hbm;generalize (limbs m).length=l at *;go_enter Tryz.func91,Tryz.ntmps91
 go_wp2_with (go_at_call 89;refine (C1.out _ (Below.refl _ _)).mono ?_;rintro e w' ⟨rfl,q,rfl⟩)
 go_loopw [3,4] (fun rv iv wr=>∃ (j r:Nat),iv=.int .i64 ((j:Int)-1)∧j≤s0+1∧r*r≤m∧m<(r+2^j)*(r+2^j)∧r<2^(s0+2)∧Lim wr rv (limbs r)∧Kept w wr) (fun _ iv _=>(intOf iv+1).toNat)
 case atStart=>exact ⟨s0+1,0,by go_num,Nat.le_refl _,Nat.zero_le _,HST.out,Nat.pow_pos (by decide),by rw [limbs_zero];exact Lim.nil _ _ _,Kept.drewN (Below.refl _ _) q⟩
 case round =>
  obtain ⟨j,r,rfl,hj,h1,h2,h3,hR,hK⟩:=hrel;have HR:=hid hR;have K:=hid hK;have H1:=hid h1;have H2:=hid h2;have H3:=hid h3;clear hR hK h1 h2 h3;cases j with
  | zero =>
    obtain ⟨A2,c2,he,-⟩:=HR.out.2;subst he;go_wp2_with fail;go_ret;exact ⟨r,H1.out,H2.out,_,rfl,HR.out,K.out⟩
  | succ i =>
    have hji:(((i+1:Nat):Int)-1)=(i:Int):=by omega
    rw [hji];clear hji;have hi:i≤90000:=by omega
    have hrm:r≤m:=by
     have:=H1.out;cases r with
     | zero=>exact Nat.zero_le _
     | succ r=>exact Nat.le_trans (Nat.le_mul_of_pos_left _ (Nat.succ_pos _)) this
    obtain ⟨t,ht⟩:∃ t,r+1*2^i=t:=⟨_,rfl⟩;have htb:t<2^(s0+3):=by
     have h3:=H3.out;have:2^i≤2^(s0+2):=Nat.pow_le_pow_right (by decide) (by omega);rw [show s0+3=(s0+2)+1 by omega,Nat.pow_succ];omega
    have hbt:bl t≤90000:=Nat.le_trans (Gb t _ htb) (by omega);have hbtt:bl (t*t)≤400000:=by
     refine Nat.le_trans (Gb (t*t) (s0+3+(s0+3)) ?_) (by omega);rw [Nat.pow_add];exact Nat.mul_lt_mul'' htb htb
    have D2:=hid (fun w1 u (hu:Lim w1 u (limbs 1))=>C2.out w1 u i hu hi);have D3:=hid (fun w1 x y (hx:Lim w1 x (limbs r)) (hy:Lim w1 y (limbs (1*2^i)))=>C3.out w1 x y r i hx hy hrm hi);rw [ht] at D3;have D4:=hid (fun w1 x (hx:Lim w1 x (limbs t))=>C4.out w1 x t hx (by omega));have D5:=hid (fun w1 x (k:Kept w w1) (hx:Lim w1 x (limbs (t*t)))=>C5.out w1 x t k hx hbtt);have HT:=hid ht;have HTB:=hid htb;clear ht htb hbt hbtt hrm;go_wp2_with fail;refine (D2.out _ _ (lim_one _)).mono ?_;rintro e w3 ⟨v3,rfl,hv3,k3⟩;simp only [];have V3:=hid hv3;have K3:=hid (K.out.trans ((Lr _ _).trans k3));have R3:=hid (HR.out.kept ((Lr _ _).trans k3))
    clear hv3 k3;go_wp2_with fail;refine (D3.out _ _ _ R3.out V3.out).mono ?_;rintro e w4 ⟨v4,rfl,hv4,k4⟩;simp only [];have V4:=hid hv4;have K4:=hid (K3.out.trans k4);have R4:=hid (R3.out.kept k4);clear hv4 k4;go_wp2_with fail;refine (D4.out _ _ V4.out).mono ?_;rintro e w5 ⟨v5,rfl,hv5,k5⟩;simp only [];have V5:=hid hv5;have K5:=hid (K4.out.trans k5);have R5:=hid (R4.out.kept k5);have T5:=hid (V4.out.kept k5);clear hv5 k5;go_wp2_with fail;refine (D5.out _ _ K5.out V5.out).mono ?_;rintro e w6 ⟨rfl,q6,rfl⟩;simp only [];by_cases hle:t*t≤m
    ·have hc:Bp (t*t) m≤0:=by unfold Bp;split;decide;split;decide;omega
     have hd:decide (Bp (t*t) m≤0)=true:=by simp [hc]
     have HLE:=hid hle;clear hc hle;generalize Bp (t*t) m=cc at *;go_wp2_with fail;go_roundw
     case rel=>exact ⟨i,t,by go_num,by omega,HLE.out,by rw [←HT.out,Nat.one_mul,Nat.add_assoc,←Nat.two_mul,←Nat.pow_succ'];exact H2.out,Sx HST.out HLE.out,T5.out.drewN q6,Kept.drewN K5.out q6⟩
     case measure=>simp [intOf]
    ·have hc:¬Bp (t*t) m≤0:=by unfold Bp;rw [if_neg (by omega),if_neg (by omega)];decide
     have hd:decide (Bp (t*t) m≤0)=false:=by simp [hc]
     have HLE:=hid hle;clear hc hle;generalize Bp (t*t) m=cc at *;go_wp2_with fail;go_roundw
     case rel=>exact ⟨i,r,by go_num,by omega,H1.out,by have:=HLE.out;rw [←HT.out,Nat.one_mul] at this;omega,H3.out,R5.out.drewN q6,Kept.drewN K5.out q6⟩
     case measure=>simp [intOf]
end Go.Proofs.YtinbgjcooolbiaaGreatDoor.Dg
