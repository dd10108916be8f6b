/- Words and contracts, part 7. -/
import Derived.Test.YtmgaloopddiekaaGreatDoorClaimFargsp06
import Derived.Deep.RegionHeld3
import Derived.StillTailTactics
set_option maxRecDepth 100000
set_option maxHeartbeats 0
namespace Go.Proofs.YtmgaloopddiekaaGreatDoor
open Go.Lib (hid)
open Go.RowKit
theorem Kz {w:World}{v:Value}{xs:List Nat}(hv:Lim w v xs)(hl:xs.length≤1000000) :
 Calls Tryz.prog 150 #[v] w fun e w'=>∃ v',e=.returned v'∧Own w' w.heap.size v' xs∧Kept w w':=by
 obtain ⟨hs,A,c,rfl,hc,hA⟩:=hv;cases A with
 | none =>
   have h0:xs.length=0:=by
    by_cases h:0<xs.length
    ·obtain ⟨b,off,h1,_⟩:=hA h;cases h1
    ·omega
   obtain rfl:xs=[]:=List.eq_nil_of_length_eq_zero h0;clear hA hl hc h0 hs;refine Calls.mono (R:=fun e w'=>e=.returned (.slice none 0 0)∧w=w') ?_ (fun e w' ⟨he,hw⟩=>by subst hw;exact ⟨_,he,World.ownsRow_nil _ _ _ _,Below.refl _ _⟩);have e1:=fun (w:World)=>Lib.run_eql_slice_nil (P:=Tryz.prog) w 28 54 none 0 c 0 0 Tryz.underlying28
   go_enter Tryz.func150,Tryz.ntmps150;go_wp2_with fail;go_ret;exact ⟨rfl,rfl⟩
 | some a =>
   have e1:=fun (w:World)=>Lib.run_eql_slice_nil (P:=Tryz.prog) w 28 54 (some a) xs.length c 0 0 Tryz.underlying28
   go_enter Tryz.func150,Tryz.ntmps150;obtain ⟨i0,hi,hz0,hz1,hz2⟩:=info_parts Kx;have hown:(w.alloc (.cells #[] 54)).ownsRow w.heap.size 54 1 (.slice (some ⟨w.heap.size,0,none⟩) 0 0) 0 []:=World.ownsRow_made w #[] 0 (Nat.le_refl _) (by decide) rfl;have hlim:Lim (w.alloc (.cells #[] 54)) (.slice (some a) xs.length c) xs:=Lim.kept ⟨hs,some a,c,rfl,hc,hA⟩ ((Below.refl _ _).alloc (Nat.le_refl _) _);have H1:=hid hown;have H2:=hid hlim;clear hown hlim hA hs
   go_wp2_with (at_builtin;refine wpList_append_own _ rfl _ _ 28 rfl w.heap.size 54 i0 (.int .u64 0) 1 8 Tryz.underlying28 hi hz0 hz1 hz2 rfl (by decide) _ 0 [] rfl H1.out a xs.length c (xs.map U) rfl (by simp) H2.out.news (Rm xs) (by unfold maxLen;omega) (by omega) (by simp) ?_)
   intro v' w1 hown1 hgrow _;have hk:Kept w w1:=Below.grown ((Below.refl _ _).alloc (Nat.le_refl _) _) hgrow (by simp) (by intro k hk;have:w.heap.size=k:=Option.some.inj hk;omega);have HO:Hid (Own w1 w.heap.size v' xs):=Dn (xs:=[]) hown1;have HK:=hid hk;clear hown1 hgrow hk;go_wp2;go_ret;exact ⟨_,rfl,HO.out,HK.out⟩
theorem Sj {w:World}{v:Value}{xs:List Nat}(hv:Lim w v xs)(hl:xs.length≤1000000) :
 Calls Tryz.prog 150 #[v] w (RetLim xs w) :=
 (Kz hv hl).mono fun _ _ ⟨v',he,ho,hk⟩=>⟨v',he,ho.lim hv.1,hk⟩
theorem Jo (xs:List Nat)(h:Small xs):(limbs (val xs)).length≤xs.length:=by
 rw [←Ng xs h,List.length_take];exact Nat.min_le_right _ _
theorem Af9 {w:World}{v:Value}{xs:List Nat}(hv:Lim w v xs)(hl:xs.length≤1000000) :
 Calls Tryz.prog 114 #[v] w (RetLim (limbs (val xs)) w):=by
 have hb:=Jo xs hv.1;have HV:=hid hv;clear hv;go_enter Tryz.func114,Tryz.ntmps114
 go_wp2_with (first
  | (go_at_call 151;refine (G6 HV.out (by omega)).mono ?_;rintro e w' ⟨v',rfl,hv',rfl⟩;have HV':=hid hv';clear hv')
  | (go_at_call 150;refine (Sj HV'.out (by omega)).mono ?_;rintro e w' ⟨v2,rfl,hv2,hk⟩;have HV2:=hid hv2;have HK:=hid hk;clear hv2 hk))
 go_ret;exact ⟨_,rfl,HV2.out,HK.out⟩
theorem Sw (a b:Nat)(ha:a<18446744073709551616)(hb:b<18446744073709551616):bits .or .u64 (a:Int) (b:Int)=((a ||| b:Nat):Int):=bits_or_u64_nat a b ha hb
theorem Li (x r:Nat):IntKind.u64.wrap ((x:Int)*2^r)=((x*2^r%18446744073709551616:Nat):Int):=by
 rw [IntKind.wrap_u64];simp
theorem Ox (x r:Nat):(x:Int)/2^r=((x/2^r:Nat):Int):=by
 simp
theorem Ad3 (x:Nat):(x:Int)/2=((x/2:Nat):Int):=by omega
theorem Acj {w:World}{v:Value}{xs:List Nat}(hv:Lim w v xs)(n:Nat)(hl:xs.length≤100000)(h0:0<xs.length)(hn:n≤6400000) :
 Calls Tryz.prog 129 #[v,.int .i64 n] w (RetLim (limbs (val (Fd xs (n/64) (n%64) (n/64+xs.length+1) xs.length))) w):=by
 obtain ⟨hs,A,c,rfl,hc,hA⟩:=hv;obtain ⟨b,off,rfl,hb,hcell⟩:=hA h0;have HC:=hid hcell;have hx:=nth_lt hs;have HX:=hid hx;have HS:=hid hs;clear hcell hA hx hs;obtain ⟨i0,hi,hz0,hz1,hz2⟩:=info_parts Kx;generalize hlen:xs.length=l at *;have HF:=hid (J1 xs (n/64) (n%64) (n/64+l+1));have HL:=hid hlen;have HSM:=hid (N9 xs HS.out (n/64) (n%64) (n/64+l+1));clear hlen;have e0:(((l:Nat):Int)==0)=false:=by rw [beq_eq_false_iff_ne];omega
 go_enter Tryz.func129,Tryz.ntmps129
 go_wp2_with (at_make;go_must (refine wpList_make_full _ rfl _ _ 28 rfl w.heap.size 54 i0 (.int .u64 0) 1 Tryz.underlying28 hi hz0 hz1 .i64 .i64 _ _ (n/64+l+1) rfl rfl (by omega) (by omega) (by rw [hz2];omega) (by unfold maxLen;omega) (by simp) ?_))
 intro w1 hown1 hgrow1;have ho:Hid (Own w1 w.heap.size (.slice (some ⟨w.heap.size,0,none⟩) (n/64+l+1) (n/64+l+1)) (Fd xs (n/64) (n%64) (n/64+l+1) 0)):=Im hown1;have hk:Hid (Below w.heap.size w w1):=Below.grown (Below.refl _ _) hgrow1 (by simp) (by intro k hk;cases hk);clear hown1 hgrow1;go_wp2_with fail
 go_loopw [20] (fun t wr=>∃ k:Nat,k≤l∧t=.int .i64 k∧Own wr w.heap.size (.slice (some ⟨w.heap.size,0,none⟩) (n/64+l+1) (n/64+l+1)) (Fd xs (n/64) (n%64) (n/64+l+1) k)∧Below w.heap.size w wr) (fun t _=>(l-intOf t).toNat)
 case atStart=>exact ⟨0,Nat.zero_le _,rfl,ho.out,hk.out⟩
 case round =>
  obtain ⟨k,hkl,rfl,hO,hB⟩:=hrel;have HO:=hid hO;have HB:=hid hB;clear hO hB;by_cases hlt:k<l
  ·have hck:=(HB.out.cell (p:=⟨b,off+k,none⟩) hb).trans (HC.out k hlt);have ho1:=HO.out.cell (n/64+k) (by rw [HF.out];omega);have ho2:=HO.out.cell (n/64+k+1) (by rw [HF.out];omega);have hf1:=HO.out.frozen (n/64+k);have hf2:=HO.out.frozen (n/64+k+1);have hxk:=HX.out k;have HST:=hid (show Fd xs (n/64) (n%64) (n/64+l+1) (k+1)=Jn (Fd xs (n/64) (n%64) (n/64+l+1) k) (n/64) (n%64) k (nth xs k) from rfl);have HY:Hid (nth (Fd xs (n/64) (n%64) (n/64+l+1) k) (n/64+k)<18446744073709551616∧nth (Fd xs (n/64) (n%64) (n/64+l+1) k) (n/64+k+1)<18446744073709551616):=⟨nth_lt (HSM.out k) _,nth_lt (HSM.out k) _⟩
   unfold Jn at HST;generalize Fd xs (n/64) (n%64) (n/64+l+1) k=out at *;generalize nth xs k=x at *;generalize nth out (n/64+k)=y0 at *;generalize nth out (n/64+k+1)=y1 at *;go_wp2_with fail;go_roundw
   case rel =>
    refine ⟨k+1,by omega,by go_num,?_,(HB.out.setCell (by simp) _).setCell (by simp) _⟩;rw [Li,Ad3,Ox,Sw _ _ HY.out.1 (Nat.mod_lt _ (by decide)),Sw _ _ HY.out.2 (Nat.lt_of_le_of_lt (Nat.div_le_self _ _) (Nat.lt_of_le_of_lt (Nat.div_le_self _ _) hxk)),HST.out];exact (HO.out.stored _ _).stored _ _
   case measure=>simp [intOf];omega
  ·obtain rfl:k=l:=by omega
   have hlim:=HO.out.lim (HSM.out _);have HLM:=hid hlim;clear hlim
   go_wp2_with (go_at_call 151;refine (G6 HLM.out (by rw [HF.out];omega)).mono ?_;rintro e w' ⟨v',rfl,hv',rfl⟩;have HV':=hid hv';clear hv')
   go_ret;exact ⟨_,rfl,HV'.out,HB.out⟩
theorem Ks {xs:List Nat}(h:Small xs):Small (xs++[0]):=by
 intro x hx;rcases List.mem_append.1 hx with hx | hx
 ·exact h x hx
 ·have:x=0:=by simpa using hx
  omega
theorem Ej (w:World)(u:Value)(T:TypeId):∀ j x,[u][j]?=some x→(w.alloc (.cells #[u] T)).cell? ((⟨w.heap.size,0,none⟩:Addr).add j)=some x:=by
 intro j x hj
 match j,hj with
 | 0, hj =>
   have:u=x:=by simpa using hj
   subst this;simp [Addr.add,go_sem]
 | j+1,hj=>simp at hj
theorem U4 {w:World}{v u:Value}{xs ys:List Nat}(hv:Lim w v xs)(hu:Lim w u ys)(hl:xs.length≤100000)(hle:ys.length≤xs.length)
 {args:Array Value} (hargs:args=#[v,u]∨args=#[u,v]∧ys.length<xs.length) :
 Calls Tryz.prog 135 args w (RetLim (limbs (val (Dh (xs++[0]) ys (xs.length+1)).1)) w):=by
 have hv':=hv;obtain ⟨hs,A,c,rfl,hc,hA⟩:=hv;obtain ⟨hs',A',c',rfl,hc',hA'⟩:=hu;have HV:=hid hv';have HS:=hid hs;have HA':=hid hA';have HS':=hid hs';clear hA hA' hv' hs hs';generalize hlen:xs.length=l at *;generalize hlen':ys.length=l' at *;have HL:=hid hlen;have HL':=hid hlen';clear hlen hlen';obtain ⟨i0,hi,hz0,hz1,hz2⟩:=info_parts Kx;rcases hargs with rfl | ⟨rfl,hlt'⟩
 all_goals
  go_enter Tryz.func135,Tryz.ntmps135;go_wp2_with fail;go_step3
  go_wp2_with (first
   | (go_at_call 150;refine (Kz HV.out (by rw [HL.out];omega)).mono ?_;rintro e w1 ⟨v1,rfl,ho,hk⟩;have HO:=hid ho;have HK:=hid hk;clear ho hk)
   | (at_builtin;go_must (refine wpList_append_own _ rfl _ _ 28 rfl w.heap.size 54 i0 (.int .u64 0) 1 8 Tryz.underlying28 hi hz0 hz1 hz2 rfl (by decide) _ xs.length (xs.map U) rfl (HO.out.alloc _) ⟨w1.heap.size,0,none⟩ 1 1 [.int .u64 0] rfl rfl (Ej w1 _ _) (by simp [Value.oneCell']) (by unfold maxLen;rw [HL.out];omega) (by rw [HL.out];omega) (by have:=HK.out.size;simp;omega) ?_)))
  intro v' w2 hown2 hgrow2 _;have ho:Hid (Own w2 w.heap.size v' (xs++[0])):=Dn (ys:=[0]) hown2;have hk:Hid (Below w.heap.size w w2):=Below.grown (HK.out.alloc HK.out.size _) hgrow2 (by have:=HK.out.size;simp;omega) (fun k hk=>(World.ownsRow.lt HO.out k hk).1);clear hown2 hgrow2;obtain ⟨g,cap,rfl,hg,_,hcap⟩:=ho.out.shape (by simp);have el:(xs++[0]).length=l+1:=by rw [List.length_append,HL.out];rfl
  rw [el] at ho hcap ⊢;have HC:=hid el;clear el HO HK;go_wp2_with fail;go_step3;go_wp2_with fail;have HSM:=hid (F4 (xs++[0]) ys (Ks HS.out));have HCY:=hid (Jv (xs++[0]) ys (Ks HS.out) HS'.out);have HLN:=hid (fun k=>(E7 (xs++[0]) ys k).trans HC.out);have HSTOP:=hid (Q5 (xs++[0]) ys (Ks HS.out))
  go_loopw [6,22] (fun cy t wr=>∃ k:Nat,k≤l+1∧t=.int .i64 k∧cy=.int .u64 (Dh (xs++[0]) ys k).2∧Own wr w.heap.size (.slice (some ⟨g,0,none⟩) (l+1) cap) (Dh (xs++[0]) ys k).1∧Below w.heap.size w wr) (fun _ t _=>(l+1-intOf t).toNat)
  case atStart=>exact ⟨0,Nat.zero_le _,rfl,rfl,ho.out,hk.out⟩
  case round =>
   obtain ⟨k,hkl,rfl,rfl,hO,hB⟩:=hrel;have HO:=hid hO;have HB:=hid hB;clear hO hB;by_cases hlt:k<l+1
   ·have ho1:=HO.out.cell k (by rw [HLN.out];omega);have hf1:=HO.out.frozen k;have hcy:=HCY.out k;have HST:=hid (Gt (xs++[0]) ys k);have hxk:=nth_lt (HSM.out k) k;by_cases hky:k<l'
    ·obtain ⟨b,off,rfl,hb,hcell⟩:=HA'.out (by omega);have hck:=(HB.out.cell (p:=⟨b,off+k,none⟩) hb).trans (hcell k hky);have hyk:=nth_lt HS'.out k;clear hcell;generalize nth ys k=y at *;generalize Dh (xs++[0]) ys k=s at *;obtain ⟨o,q⟩:=s;simp only at *;generalize nth o k=z at *;have hadd:=fun w=>Mh z y q hcy w
     go_wp2_with (fail)
     go_roundw
     case rel=>exact ⟨k+1,by omega,by go_num,by rw [HST.out];rfl,by rw [HST.out];exact HO.out.stored _ _,HB.out.setCell hg _⟩
     case measure=>simp [intOf];omega
    ·have hd:decide ((k:Int)<(l':Int))=false:=by simp;omega
     have hyk:nth ys k=0:=No ys k (by rw [HL'.out];omega);rw [hyk] at HST;clear hyk;by_cases hq:(Dh (xs++[0]) ys k).2=0
     ·have hfin:(Dh (xs++[0]) ys (l+1)).1=(Dh (xs++[0]) ys k).1:=by
       have:=HSTOP.out k (by rw [HL'.out];omega) hq (l+1-k) (by rw [HC.out];omega);rw [show k+(l+1-k)=l+1 by omega] at this;rw [this]
      have hlim:=HO.out.lim (HSM.out k);rw [←hfin] at hlim;have HLM:=hid hlim;rw [hq];have HQ:=hid hq;clear hlim hq hfin hcy
      go_wp2_with (go_at_call 151;refine (G6 HLM.out (by rw [HLN.out];omega)).mono ?_;rintro e w' ⟨v',rfl,hv',rfl⟩;have HV':=hid hv';clear hv')
      rw [Exit.noGoto_ret];go_ret;exact ⟨_,rfl,HV'.out,HB.out⟩
     ·generalize Dh (xs++[0]) ys k=s at *;obtain ⟨o,q⟩:=s;simp only at *;have hq1:(((q:Nat):Int)==0)=false:=by rw [beq_eq_false_iff_ne];omega
      generalize nth o k=z at *;have hadd:∀ w,(callFunc 166 #[.int .u64 z,.int .u64 0,.int .u64 q]).run Tryz.prog w=.ok (.value (.tuple #[.int .u64 (Cz z 0 q),.int .u64 (C7 z 0 q)])) w:=fun w=>Mh z 0 q hcy w
      have HQ:=hid hq;clear hq
      go_wp2_with (fail)
      go_roundw
      case rel=>exact ⟨k+1,by omega,by go_num,by rw [HST.out];rfl,by rw [HST.out];exact HO.out.stored _ _,HB.out.setCell hg _⟩
      case measure=>simp [intOf];omega
   ·obtain rfl:k=l+1:=by omega
    have hlim:=HO.out.lim (HSM.out _);have HLM:=hid hlim;clear hlim
    go_wp2_with (go_at_call 151;refine (G6 HLM.out (by rw [HLN.out];omega)).mono ?_;rintro e w' ⟨v',rfl,hv',rfl⟩;have HV':=hid hv';clear hv')
    rw [Exit.noGoto_ret];go_ret;exact ⟨_,rfl,HV'.out,HB.out⟩
theorem Adl {w:World}{v u:Value}{n m:Nat}(hv:Lim w v (limbs n))(hu:Lim w u (limbs m))(hl:(limbs n).length≤100000)(hl':(limbs m).length≤100000) :
 Calls Tryz.prog 135 #[v,u] w (RetLim (limbs (n+m)) w):=by
 by_cases hle:(limbs m).length≤(limbs n).length
 ·have:=U4 hv hu hl hle (Or.inl rfl);rwa [Tk _ _ hv.1 hu.1 hle,Ca,Ca] at this
 ·have:=U4 hu hv hl' (by omega) (Or.inr ⟨rfl,by omega⟩);rwa [Tk _ _ hu.1 hv.1 (by omega),Ca,Ca,Nat.add_comm] at this
theorem Nn {w:World}{v:Value}{m:Nat}(hv:Lim w v (limbs m))(n:Nat)(hl:(limbs m).length≤100000)(hn:n≤6400000) :
 Calls Tryz.prog 129 #[v,.int .i64 n] w (RetLim (limbs (m*2^n)) w):=by
 by_cases h0:m=0
 ·subst h0;rw [Bd] at *;rw [Nat.zero_mul,Bd];obtain ⟨hs,A,c,rfl,hc,hA⟩:=hv;clear hs hA hc hl;refine Calls.mono (R:=fun e w'=>e=.returned (.slice none 0 0)∧w=w') ?_ (fun e w' ⟨he,hw⟩=>by subst hw;exact ⟨_,he,Lim.nil _ _ _,Below.refl _ _⟩);have e0:(((([]:List Nat).length:Nat):Int)==0)=true:=rfl;go_enter Tryz.func129,Tryz.ntmps129;go_wp2_with fail;go_ret;exact ⟨rfl,rfl⟩
 ·have:=Acj hv n hl (Bq m h0) hn;rwa [Zp _ hv.1,Ca] at this
theorem Zw {w:World}{v u:Value}{xs ys:List Nat}(hv:Lim w v xs)(hu:Lim w u ys)(hl:xs.length≤100000) :
 Calls Tryz.prog 136 #[v,u] w (RetLim (limbs (val (Iy xs ys xs.length).1)) w):=by
 have hv':=hv;obtain ⟨hs,A,c,rfl,hc,hA⟩:=hv;obtain ⟨hs',A',c',rfl,hc',hA'⟩:=hu;have HV:=hid hv';have HS:=hid hs;have HS':=hid hs';have HA':=hid hA';clear hA hA' hv' hs hs';generalize hlen:xs.length=l at *;generalize hlen':ys.length=l' at *;have HL:=hid hlen;have HL':=hid hlen';clear hlen hlen';have HSM:=hid (J7 xs ys HS.out);have HCY:=hid (Ku xs ys);have HLN:=hid (fun k=>(I5 xs ys k).trans HL.out);go_enter Tryz.func136,Tryz.ntmps136
 go_wp2_with (go_at_call 150;refine (Kz HV.out (by rw [HL.out];omega)).mono ?_;rintro e w1 ⟨v1,rfl,ho,hk⟩;obtain ⟨A1,cap1,rfl,hg1⟩:=ho.shape0;rw [HL.out] at ho hg1 ⊢;have HO1:=hid ho;have HG1:=hid hg1;have HK:=hid hk;clear ho hk hg1)
 go_loopw [6,13] (fun cy t wr=>∃ k:Nat,k≤l∧t=.int .i64 k∧cy=.int .u64 (Iy xs ys k).2∧Own wr w.heap.size (.slice A1 l cap1) (Iy xs ys k).1∧Below w.heap.size w wr) (fun _ t _=>(l-intOf t).toNat)
 case atStart=>exact ⟨0,Nat.zero_le _,rfl,rfl,HO1.out,HK.out⟩
 case round =>
  obtain ⟨k,hkl,rfl,rfl,hO,hB⟩:=hrel;have HO:=hid hO;have HB:=hid hB;clear hO hB;by_cases hlt:k<l
  ·obtain ⟨g,rfl,hg,hg'⟩:=HG1.out (by omega);have ho1:=HO.out.cell k (by rw [HLN.out];omega);have hf1:=HO.out.frozen k;have hcy:=HCY.out k;have HST:=hid (Ju xs ys k);have hxk:=nth_lt (HSM.out k) k;have hyk:=nth_lt HS'.out k;by_cases hky:k<l'
   ·obtain ⟨b,off,rfl,hb,hcell⟩:=HA'.out (by omega);have hck:=(HB.out.cell (p:=⟨b,off+k,none⟩) hb).trans (hcell k hky);clear hcell;generalize nth ys k=y at *;generalize Iy xs ys k=s at *;obtain ⟨o,q⟩:=s;simp only at *;generalize nth o k=z at *;have hsub:=fun w=>Y8 z y q hcy w
    go_wp2_with (fail)
    go_roundw
    case rel=>exact ⟨k+1,by omega,by go_num,by rw [HST.out];rfl,by rw [HST.out];exact HO.out.stored _ _,HB.out.setCell hg _⟩
    case measure=>simp [intOf];omega
   ·have hd:decide ((k:Int)<(l':Int))=false:=by simp;omega
    have hy0:nth ys k=0:=No ys k (by rw [HL'.out];omega);rw [hy0] at HST;clear hy0;generalize Iy xs ys k=s at *;obtain ⟨o,q⟩:=s;simp only at *;generalize nth o k=z at *;have hsub:∀ w,(callFunc 167 #[.int .u64 z,.int .u64 0,.int .u64 q]).run Tryz.prog w=.ok (.value (.tuple #[.int .u64 (Lt z 0 q),.int .u64 (Mx z 0 q)])) w:=fun w=>Y8 z 0 q hcy w
    go_wp2_with (fail)
    go_roundw
    case rel=>exact ⟨k+1,by omega,by go_num,by rw [HST.out];rfl,by rw [HST.out];exact HO.out.stored _ _,HB.out.setCell hg _⟩
    case measure=>simp [intOf];omega
  ·obtain rfl:k=l:=by omega
   have hlim:=HO.out.lim (HSM.out _);have HLM:=hid hlim;clear hlim
   go_wp2_with (go_at_call 151;refine (G6 HLM.out (by rw [HLN.out];omega)).mono ?_;rintro e w' ⟨v',rfl,hv',rfl⟩;have HV':=hid hv';clear hv')
   go_ret;exact ⟨_,rfl,HV'.out,HB.out⟩
theorem Yt {w:World}{v u:Value}{n m:Nat}(hv:Lim w v (limbs n))(hu:Lim w u (limbs m))(hl:(limbs n).length≤100000)(hle:m≤n) :
 Calls Tryz.prog 136 #[v,u] w (RetLim (limbs (n-m)) w):=by
 have:=Zw hv hu hl;have hll:(limbs m).length≤(limbs n).length:=by
  by_cases h:(limbs n).length<(limbs m).length
  ·have:=E8 n m h;omega
  ·omega
 rwa [Aee _ _ hv.1 hu.1 hll (by rw [Ca,Ca];exact hle),Ca,Ca] at this
theorem Ac1 (x y:Nat)(hx:x<18446744073709551616)(hy:y<18446744073709551616):x*y≤18446744073709551615*18446744073709551615:=Nat.mul_le_mul (by omega) (by omega)
theorem Aau {w:World}{v u:Value}{xs ys:List Nat}(hv:Lim w v xs)(hu:Lim w u ys)(hl:xs.length≤100000)(hl':ys.length≤100000) :
 Calls Tryz.prog 155 #[v,u] w (RetLim (limbs (val (Kk xs ys (xs.length+ys.length) xs.length))) w):=by
 obtain ⟨hs,A,c,rfl,hc,hA⟩:=hv;obtain ⟨hs',A',c',rfl,hc',hA'⟩:=hu;have HS:=hid hs;have HS':=hid hs';have HA:=hid hA;have HA':=hid hA';clear hA hA' hs hs';generalize hlen:xs.length=l at *;generalize hlen':ys.length=l' at *;have HL:=hid hlen;have HL':=hid hlen';clear hlen hlen';have HSM:=hid (Py xs ys (l+l') HS.out HS'.out);have HLN:=hid (Kl xs ys (l+l'));obtain ⟨i0,hi,hz0,hz1,hz2⟩:=info_parts Kx;go_enter Tryz.func155,Tryz.ntmps155
 go_wp2_with (at_make;go_must (refine wpList_make_full _ rfl _ _ 28 rfl w.heap.size 54 i0 (.int .u64 0) 1 Tryz.underlying28 hi hz0 hz1 .i64 .i64 _ _ (l+l') rfl rfl (by omega) (by omega) (by rw [hz2];omega) (by unfold maxLen;omega) (by simp) ?_))
 intro w1 hown1 hgrow1;have ho:Hid (Own w1 w.heap.size (.slice (some ⟨w.heap.size,0,none⟩) (l+l') (l+l')) (Kk xs ys (l+l') 0)):=Im hown1;have hk:Hid (Below w.heap.size w w1):=Below.grown (Below.refl _ _) hgrow1 (by simp) (by intro k hk;cases hk);clear hown1 hgrow1;go_wp2_with fail;generalize hBase:w.heap.size=B at *;have HBASE:=hid hBase;clear hBase
 go_loopw [22] (fun t wr=>∃ k:Nat,k≤l∧t=.int .i64 k∧Own wr B (.slice (some ⟨B,0,none⟩) (l+l') (l+l')) (Kk xs ys (l+l') k)∧Below B w wr) (fun t _=>(l-intOf t).toNat)
 case atStart=>exact ⟨0,Nat.zero_le _,rfl,ho.out,hk.out⟩
 case round =>
  obtain ⟨k,hkl,rfl,hO,hB⟩:=hrel;have HO:=hid hO;have HB:=hid hB;clear hO hB;by_cases hlt:k<l
  ·obtain ⟨b,off,rfl,hb,hcell⟩:=HA.out (by omega);have hck:=(HB.out.cell (p:=⟨b,off+k,none⟩) hb).trans (hcell k hlt);clear hcell;have hxk:=nth_lt HS.out k;have HST:=hid (Le xs ys (l+l') k);have HSMK:=hid (HSM.out k);have HLNK:=hid (HLN.out k);generalize Kk xs ys (l+l') k=out at *;generalize nth xs k=x at *;have HRS:=hid (J6 out k x ys HSMK.out);have HRC:=hid (Ma out k x ys HSMK.out HS'.out hxk);have HRL:=hid (fun j=>(Gb out k x ys j).trans HLNK.out);go_wp2_with fail;obtain ⟨wo,rfl⟩:∃ wo:World,wo=wr:=⟨_,rfl⟩
   go_loopw [8,29] (fun cy t wr=>∃ j:Nat,j≤l'∧t=.int .i64 j∧cy=.int .u64 (Hs out k x ys j).2∧Own wr B (.slice (some ⟨B,0,none⟩) (l+l') (l+l')) (Hs out k x ys j).1∧Below B w wr) (fun _ t _=>(l'-intOf t).toNat)
   case atStart=>exact ⟨0,Nat.zero_le _,rfl,rfl,HO.out,HB.out⟩
   case round =>
    obtain ⟨j,hjl,rfl,rfl,hO,hB⟩:=hrel;clear HO HB hck;have HO:=hid hO;have HB:=hid hB;clear hO hB;by_cases hjt:j<l'
    ·obtain ⟨b',off',rfl,hb',hcell⟩:=HA'.out (by omega);have hck:=(HB.out.cell (p:=⟨b',off'+j,none⟩) hb').trans (hcell j hjt);clear hcell;have hyj:=nth_lt HS'.out j;have ho1:=HO.out.cell (k+j) (by rw [HRL.out];omega);have hf1:=HO.out.frozen (k+j);have hz:=nth_lt (HRS.out j) (k+j);have hcy:=HRC.out j;have HSJ:=hid (H9 out k x ys j);generalize nth ys j=y at *;generalize Hs out k x ys j=s at *;obtain ⟨o,q⟩:=s;simp only at *;generalize nth o (k+j)=z at *;have HM:=hid (fun w=>Acz x y hxk hyj w);have hadd1:∀ w,(callFunc 166 #[.int .u64 (Ec x y),.int .u64 q,.int .u64 0]).run Tryz.prog w=.ok (.value (.tuple #[.int .u64 (Cz (Ec x y) q 0),.int .u64 (C7 (Ec x y) q 0)])) w:=fun w=>Mh _ _ 0 (by omega) w
     have hadd2:∀ w,(callFunc 166 #[.int .u64 z,.int .u64 (Cz (Ec x y) q 0),.int .u64 0]).run Tryz.prog w=.ok (.value (.tuple #[.int .u64 (Cz z (Cz (Ec x y) q 0) 0),.int .u64 (C7 z (Cz (Ec x y) q 0) 0)])) w:=fun w=>Mh _ _ 0 (by omega) w
     have st:=Ac2 (x*y) q z;have sb:=Lf x y q z hxk hyj hcy hz;have s1:Cz z (Cz (Ec x y) q 0) 0=(x*y+q+z)%18446744073709551616:=by rw [←st.1];rfl
     have s2:Ls x y+C7 (Ec x y) q 0+C7 z (Cz (Ec x y) q 0) 0=(x*y+q+z)/18446744073709551616:=by rw [←st.2];rfl
     have b1:Ls x y+C7 (Ec x y) q 0+C7 z (Cz (Ec x y) q 0) 0≤18446744073709551615:=by rw [s2];omega
     have S1:=hid s1;have S2:=hid s2;clear st sb s1 s2;generalize Ls x y=h1 at *;generalize Ec x y=l1 at *;generalize Cz l1 q 0=l2 at *;generalize C7 l1 q 0=c2 at *;generalize C7 z l2 0=c3 at *;generalize Cz z l2 0=z' at *
     go_wp2_with (go_at_call 185;refine (HM.out _).mono ?_;rintro e w' ⟨rfl,rfl⟩)
     go_roundw
     case rel =>
      refine ⟨j+1,by omega,by go_num,?_,?_,HB.out.setCell (Nat.le_refl _) _⟩
      ·rw [HSJ.out,←S2.out];simp
      ·rw [HSJ.out,←S1.out];exact HO.out.stored _ _
     case measure=>simp [intOf];omega
    ·obtain rfl:j=l':=by omega
     have ho1:=HO.out.cell (k+j) (by rw [HRL.out];omega);have hf1:=HO.out.frozen (k+j);rw [HL'.out] at HST;generalize Hs out k x ys j=s at *;obtain ⟨o,q⟩:=s;simp only at *;go_wp2_with fail;go_roundw
     case rel =>
      refine ⟨k+1,by omega,by go_num,?_,HB.out.setCell (Nat.le_refl _) _⟩;rw [HST.out];exact HO.out.stored _ _
     case measure=>simp [intOf];omega
  ·obtain rfl:k=l:=by omega
   have hlim:=HO.out.lim (HSM.out _);have HLM:=hid hlim;clear hlim
   go_wp2_with (go_at_call 151;refine (G6 HLM.out (by rw [HLN.out];omega)).mono ?_;rintro e w' ⟨v',rfl,hv',rfl⟩;have HV':=hid hv';clear hv')
   go_ret;refine ⟨_,rfl,HV'.out,?_⟩;rw [Kept,HBASE.out];exact HB.out
theorem Agt {w:World}{v u:Value}{n m:Nat}(hv:Lim w v (limbs n))(hu:Lim w u (limbs m))(hl:(limbs n).length≤100000)(hl':(limbs m).length≤100000) :
 Calls Tryz.prog 155 #[v,u] w (RetLim (limbs (n*m)) w):=by
 have:=Aau hv hu hl hl';rwa [Ac0 _ _ hv.1 hu.1,Ca,Ca] at this
theorem Ade (xs:List Nat)(q i:Nat):nth (xs.drop q) i=nth xs (q+i):=by
 unfold nth;rw [List.getD_eq_getElem?_getD,List.getD_eq_getElem?_getD,List.getElem?_drop]
theorem Aag {w:World}{v:Value}{xs:List Nat}(hv:Lim w v xs)(n:Nat)(hl:xs.length≤100000)(hn:n≤6400000)(hq:n/64<xs.length) :
 Calls Tryz.prog 139 #[v,.int .i64 n] w (RetLim (limbs (val (Dt (xs.drop (n/64)) (n%64) (xs.drop (n/64)).length))) w):=by
 obtain ⟨hs,A,c,rfl,hc,hA⟩:=hv;obtain ⟨b,off,rfl,hb,hcell⟩:=hA (by omega);have hcell':∀ i,i<(xs.drop (n/64)).length→w.cell? ⟨b,off+n/64+i,none⟩=some (.int .u64 (nth (xs.drop (n/64)) i)):=by
  intro i hi;rw [List.length_drop] at hi;rw [Ade,Nat.add_assoc];exact hcell _ (by omega)
 have hs':Small (xs.drop (n/64)):=Iu hs _;have hlen':=List.length_drop (i:=n/64) (l:=xs);generalize hlen:xs.length=l at *;generalize xs.drop (n/64)=ys at *;have HS:=hid hs';have HC:=hid hcell';have HL:=hid hlen';have HLN:=hid (He ys (n%64));have HSM:=hid (Nc ys hs' (n%64) (Nat.mod_lt _ (by decide)));clear hlen hcell hcell' hA hs hs' hlen';obtain ⟨i0,hi,hz0,hz1,hz2⟩:=info_parts Kx;have hqc:n/64<c:=by omega
 generalize hq':n/64=q at *;have HQ:=hid hq';clear hq';obtain ⟨m,rfl⟩:∃ m,l=q+m:=⟨l-q,by omega⟩;have hm:ys.length=m:=by rw [HL.out];omega
 have HM:=hid hm;rw [hm] at HC ⊢;clear hm HL;have dq:decide (((q+m:Nat):Int)≤(n:Int)/64)=false:=by have:=HQ.out;simp;omega
 have e1:(n:Int)/64=(q:Int):=by have:=HQ.out;omega
 go_enter Tryz.func139,Tryz.ntmps139
 go_wp2_with (at_make;go_must (refine wpList_make_full _ rfl _ _ 28 rfl w.heap.size 54 i0 (.int .u64 0) 1 Tryz.underlying28 hi hz0 hz1 .i64 .i64 _ _ m rfl rfl (by omega) (by omega) (by rw [hz2];omega) (by unfold maxLen;omega) (by simp) ?_))
 intro w1 hown1 hgrow1;have ho:Hid (Own w1 w.heap.size (.slice (some ⟨w.heap.size,0,none⟩) m m) (List.replicate m 0)):=Im hown1;have hk:Hid (Below w.heap.size w w1):=Below.grown (Below.refl _ _) hgrow1 (by simp) (by intro k hk;cases hk);clear hown1 hgrow1;go_wp2_with fail;generalize hBase:w.heap.size=B at *;have HBASE:=hid hBase;clear hBase
 go_loopw [22] (fun t wr=>∃ k:Nat,k≤m∧t=.int .i64 k∧Own wr B (.slice (some ⟨B,0,none⟩) m m) (Dt ys (n%64) k)∧Below B w wr) (fun t _=>(m-intOf t).toNat)
 case atStart=>exact ⟨0,Nat.zero_le _,rfl,by rw [Dt,HM.out];exact ho.out,hk.out⟩
 case round =>
  obtain ⟨k,hkl,rfl,hO,hB⟩:=hrel;have HO:=hid hO;have HB:=hid hB;clear hO hB;by_cases hlt:k<m
  ·have hck:=(HB.out.cell (p:=⟨b,off+q+k,none⟩) hb).trans (HC.out k hlt);have ho1:=HO.out.cell k (by rw [HLN.out,HM.out];omega);have hf1:=HO.out.frozen k;have hxk:=nth_lt HS.out k;have hyk:=nth_lt HS.out (k+1);by_cases hl1:k+1<m
   ·have hck2:=(HB.out.cell (p:=⟨b,off+q+(k+1),none⟩) hb).trans (HC.out (k+1) hl1);have HST:Hid (Dt ys (n%64) (k+1)=(Dt ys (n%64) k).set k ((nth ys k/2^(n%64)) ||| (nth ys (k+1)*2%18446744073709551616*2^(63-n%64)%18446744073709551616))):=by
     show (Dt ys (n%64) k).set k (Ip ys (n%64) k)=_
     unfold Ip;rw [if_pos (by rw [HM.out];exact hl1)]
    generalize Dt ys (n%64) k=o at *;generalize nth ys k=x at *;generalize nth ys (k+1)=y at *;generalize nth o k=z at *;go_wp2_with fail;go_region;go_wp2_with fail;go_roundw
    case rel =>
     refine ⟨k+1,by omega,by go_num,?_,((HB.out.setCell (Nat.le_refl _) _).setCell (Nat.le_refl _) _).drew⟩;have hx2:x/2^(n%64)<18446744073709551616:=Nat.lt_of_le_of_lt (Nat.div_le_self _ _) hxk;rw [Ox,show (2:Int)=2^1 from rfl,Li,Int.pow_succ,Int.pow_zero,Int.one_mul,Li,Sw _ _ hx2 (Nat.mod_lt _ (by decide)),HST.out];have h1:=(HO.out.stored k (x/2^(n%64))).stored k (x/2^(n%64) ||| y*2^1%18446744073709551616*2^(63-n%64)%18446744073709551616);rw [List.set_set] at h1;exact h1
    case measure=>simp [intOf];omega
   ·have HST:Hid (Dt ys (n%64) (k+1)=(Dt ys (n%64) k).set k (nth ys k/2^(n%64))):=by
     show (Dt ys (n%64) k).set k (Ip ys (n%64) k)=_
     unfold Ip;rw [if_neg (by rw [HM.out];exact hl1)]
    generalize Dt ys (n%64) k=o at *;generalize nth ys k=x at *;generalize nth o k=z at *;go_wp2_with fail;go_roundw
    case rel =>
     refine ⟨k+1,by omega,by go_num,?_,HB.out.setCell (Nat.le_refl _) _⟩;rw [Ox,HST.out];exact HO.out.stored _ _
    case measure=>simp [intOf];omega
  ·obtain rfl:k=m:=by omega
   have hlim:=HO.out.lim (HSM.out _);have HLM:=hid hlim;clear hlim
   go_wp2_with (go_at_call 151;refine (G6 HLM.out (by rw [HLN.out,HM.out];omega)).mono ?_;rintro e w' ⟨v',rfl,hv',rfl⟩;have HV':=hid hv';clear hv')
   go_ret;refine ⟨_,rfl,HV'.out,?_⟩;rw [Kept,HBASE.out];exact HB.out
theorem S8 {w:World}{v:Value}{m:Nat}(hv:Lim w v (limbs m))(n:Nat)(hl:(limbs m).length≤100000)(hn:n≤6400000) :
 Calls Tryz.prog 139 #[v,.int .i64 n] w (RetLim (limbs (m/2^n)) w):=by
 by_cases hq:n/64<(limbs m).length
 ·have:=Aag hv n hl hn hq;rwa [Aaf _ hv.1,Ca] at this
 ·have h0:m/2^n=0:=by
   apply Nat.div_eq_of_lt;have a:=Ci m;have b:18446744073709551616^(limbs m).length≤18446744073709551616^(n/64):=Nat.pow_le_pow_right (by decide) (by omega);have c:18446744073709551616^(n/64)≤2^n:=by
    rw [Jd n];exact Nat.le_mul_of_pos_left _ (Nat.pow_pos (by decide))
   omega
  rw [h0,Bd];obtain ⟨hs,A,c,rfl,hc,hA⟩:=hv;clear hs hA hc h0;refine Calls.mono (R:=fun e w'=>e=.returned (.slice none 0 0)∧w=w') ?_ (fun e w' ⟨he,hw⟩=>by subst hw;exact ⟨_,he,Lim.nil _ _ _,Below.refl _ _⟩);generalize (limbs m).length=l at *;have dq:decide ((l:Int)≤(n:Int)/64)=true:=by simp;omega
  go_enter Tryz.func139,Tryz.ntmps139;go_wp2_with fail;go_ret;exact ⟨rfl,rfl⟩
end Go.Proofs.YtmgaloopddiekaaGreatDoor
namespace Go.Proofs.YtmgaloopddiekaaGreatDoor.Dg
open Go.Lib (hid)
open Go.RowKit
def Ge (x:Nat):List Nat:=[x%65536,x/65536%65536,x/4294967296%65536,x/281474976710656%65536]
def Eq:List Nat→List Nat
 | []=>[]
 | x::xs=>Ge x++Eq xs
theorem Jy:∀ xs,(Eq xs).length=4*xs.length
 | []=>rfl
 | x::xs=>by simp only [Eq,List.length_append,Jy xs,List.length_cons,Ge,List.length_nil];omega
theorem Mu:∀ xs ys,Eq (xs++ys)=Eq xs++Eq ys
 | [],ys=>rfl
 | x::xs,ys=>by simp only [List.cons_append,Eq,Mu xs ys,List.append_assoc]
theorem Wt (xs:List Nat)(k:Nat)(h:k<xs.length):Eq (xs.take (k+1))=Eq (xs.take k)++Ge (nth xs k):=by
 rw [Jc xs k h,Mu,Eq,Eq,List.append_nil]
theorem Ws (x:Nat):Small (Ge x):=by
 intro y hy;simp only [Ge,List.mem_cons,List.not_mem_nil,or_false] at hy;rcases hy with rfl | rfl | rfl | rfl<;>exact Nat.mod_lt _ (by decide)
theorem N6:∀ xs,Small (Eq xs)
 | []=>fun x hx=>by cases hx
 | x :: xs => fun y hy => by
   rcases List.mem_append.1 hy with h | h
   ·exact Ws x y h
   ·exact N6 xs y h
theorem Aeq (x:Nat)(h:x<18446744073709551616):val (Ge x)=x:=by
 simp only [Ge,val];omega
theorem Rz:∀ xs,Go.Proofs.YtmgaloopddiekaaGreatDoor.Small xs→val (Eq xs)=Go.Proofs.YtmgaloopddiekaaGreatDoor.val xs
 | [],_=>rfl
 | x :: xs, h => by
   have h1:=h x (List.mem_cons_self ..);have h2:=Rz xs (fun y hy=>h y (List.mem_cons_of_mem _ hy));rw [Eq,Cp,Aeq x h1,h2,show (Ge x).length=4 from rfl,show (65536:Nat)^4=18446744073709551616 by decide]
   show _=x+_
   rfl
theorem Me (n:Int):IntKind.u32.wrap n=n%4294967296:=by simp [IntKind.wrap,IntKind.signed,IntKind.bits]
theorem X8 (a b:Nat)(ha:a<4294967296)(hb:b<4294967296):bits .and .u32 (a:Int) (b:Int)=((a &&& b:Nat):Int):=by
 have hx:a &&& b<2^32:=Nat.and_lt_two_pow _ (by omega);have h1:(BitVec.ofInt 32 (a:Int)).toNat=a:=by
  rw [BitVec.ofInt_natCast,BitVec.toNat_ofNat];exact Nat.mod_eq_of_lt (by omega)
 have h2:(BitVec.ofInt 32 (b:Int)).toNat=b:=by
  rw [BitVec.ofInt_natCast,BitVec.toNat_ofNat];exact Nat.mod_eq_of_lt (by omega)
 show IntKind.u32.wrap ((BitVec.ofInt 32 (a:Int) &&& BitVec.ofInt 32 (b:Int)).toNat:Int)=_
 rw [BitVec.toNat_and,h1,h2,Me];omega
theorem Aib (a b:Nat)(ha:a<4294967296)(hb:b<4294967296):bits .or .u32 (a:Int) (b:Int)=((a ||| b:Nat):Int):=by
 have hx:a ||| b<2^32:=Nat.or_lt_two_pow (by omega) (by omega)
 have h1:(BitVec.ofInt 32 (a:Int)).toNat=a:=by
  rw [BitVec.ofInt_natCast,BitVec.toNat_ofNat];exact Nat.mod_eq_of_lt (by omega)
 have h2:(BitVec.ofInt 32 (b:Int)).toNat=b:=by
  rw [BitVec.ofInt_natCast,BitVec.toNat_ofNat];exact Nat.mod_eq_of_lt (by omega)
 show IntKind.u32.wrap ((BitVec.ofInt 32 (a:Int) ||| BitVec.ofInt 32 (b:Int)).toNat:Int)=_
 rw [BitVec.toNat_or,h1,h2,Me];omega
theorem X6 (y:Nat):bits .and .u32 (IntKind.u32.wrap (y:Int)) 65535=((y%65536:Nat):Int):=by
 have e:IntKind.u32.wrap (y:Int)=((y%4294967296:Nat):Int):=by rw [Me];omega
 rw [e,show (65535:Int)=((65535:Nat):Int) from rfl,X8 _ _ (Nat.mod_lt _ (by decide)) (by decide)];rw [show (65535:Nat)=2^16-1 from rfl,Nat.and_two_pow_sub_one_eq_mod];omega
theorem Ahv {w:World}{v:Value}{xs:List Nat}(hv:Go.Proofs.YtmgaloopddiekaaGreatDoor.Lim w v xs)(hl:xs.length≤100000) :
 Calls Tryz.prog 56 #[v] w (RetLim (limbs (Go.Proofs.YtmgaloopddiekaaGreatDoor.val xs)) w):=by
 obtain ⟨hs,A,c,rfl,hc,hA⟩:=hv;have HV:=hid (Rz xs hs);have HX:=hid (fun k=>Go.Proofs.YtmgaloopddiekaaGreatDoor.nth_lt hs k);rw [←HV.out];clear HV;have HA:=hid hA;clear hA hs;obtain ⟨i0,hi,hz0,hz1,hz2⟩:=info_parts Kx;generalize hlen:xs.length=l at *;have HL:=hid hlen;clear hlen;go_enter Tryz.func56,Tryz.ntmps56;go_wp2_with fail
 go_loopw [3,4] (fun o i wr=>∃ k:Nat,k≤l∧i=.int .i64 k∧Own wr w.heap.size o (Eq (xs.take k))∧Below w.heap.size w wr) (fun _ i _=>(l-intOf i).toNat)
 case atStart=>exact ⟨0,Nat.zero_le _,rfl,World.ownsRow_nil _ _ _ _,Below.refl _ _⟩
 case round =>
  obtain ⟨k,hkl,rfl,hO,hB⟩:=hrel;have HO:=hid hO;have HB:=hid hB;clear hO hB;by_cases hlt:k<l
  ·obtain ⟨b,off,rfl,hb,hcell⟩:=HA.out (by omega);have HC:=hid (hcell k hlt);have HT:=hid (Wt xs k (by rw [HL.out];omega));have hxk:=HX.out k;have hlo:(Eq (xs.take k)).length=4*k:=by rw [Jy,List.length_take,HL.out];omega
   have HLO:=hid hlo;clear hcell hlo;generalize nth xs k=x at *;go_wp2_with fail
   go_loopw [3,5] (fun o i wr=>∃ j:Nat,j≤4∧i=.int .i64 j∧Own wr w.heap.size o (Eq (xs.take k)++(Ge x).take j)∧Below w.heap.size w wr) (fun _ i _=>(4-intOf i).toNat)
   case atStart=>exact ⟨0,Nat.zero_le _,rfl,by rw [List.take_zero,List.append_nil];exact HO.out,HB.out⟩
   case round =>
    obtain ⟨j,hj,rfl,hO,hB⟩:=hrel;replace HO:=hid hO;replace HB:=hid hB;clear hO hB;have hck:=(HB.out.cell (p:=⟨b,off+k,none⟩) hb).trans HC.out;by_cases hj4:j<4
    ·obtain rfl | rfl | rfl | rfl:j=0∨j=1∨j=2∨j=3:=by omega
     ·obtain ⟨d,hd,hx⟩:∃ d:Nat,d=x%65536∧bits .and .u32 ((x:Int)%4294967296) 65535=(d:Int):=⟨_,rfl,by rw [←X6 (x),Me]⟩;obtain ⟨L,hL⟩:∃ L,L=Eq (xs.take k)++(Ge x).take 0:=⟨_,rfl⟩;rw [←hL] at HO;have HLL:Hid (L.length=4*k+0):=by rw [hL,List.length_append,HLO.out,List.length_take];rfl
      have HD:Hid (L++[d]=Eq (xs.take k)++(Ge x).take (0+1)):=by rw [hL,hd,List.append_assoc];rfl
      clear hd hL
      go_wp2_with (at_builtin;go_must (refine wpList_append_own _ rfl _ _ 60 rfl w.heap.size 91 i0 (.int .u32 0) 1 4 Tryz.underlying60 hi hz0 hz1 hz2 rfl (by decide) _ L.length (L.map U) rfl (World.ownsRow.alloc HO.out _) ⟨_,0,none⟩ 1 1 [_] rfl rfl (Ej _ _ _) (by simp [Value.oneCell']) (by rw [HLL.out];unfold maxLen;omega) (by rw [HLL.out];omega) (by have:=HB.out.size;simp;omega) ?_))
      intro v' w2 hown2 hgrow2 _;have ho:Hid (Own w2 w.heap.size v' (L++[d])):=Dn (ys:=[d]) hown2;have hk:Hid (Below w.heap.size w w2):=Below.grown (HB.out.alloc HB.out.size _) hgrow2 (by have:=HB.out.size;simp;omega) (fun k hk=>(World.ownsRow.lt HO.out k hk).1);clear hown2 hgrow2 hx;go_wp2_with fail;go_roundw
      case rel=>exact ⟨1,by omega,by go_num,by rw [HD.out] at ho;exact ho.out,hk.out⟩
      case measure=>simp [intOf]
     ·obtain ⟨d,hd,hx⟩:∃ d:Nat,d=x/65536%65536∧bits .and .u32 ((x:Int)/65536%4294967296) 65535=(d:Int):=⟨_,rfl,by rw [←X6 (x/65536),Me];rfl⟩;obtain ⟨L,hL⟩:∃ L,L=Eq (xs.take k)++(Ge x).take 1:=⟨_,rfl⟩;rw [←hL] at HO;have HLL:Hid (L.length=4*k+1):=by rw [hL,List.length_append,HLO.out,List.length_take];rfl
      have HD:Hid (L++[d]=Eq (xs.take k)++(Ge x).take (1+1)):=by rw [hL,hd,List.append_assoc];rfl
      clear hd hL
      go_wp2_with (at_builtin;go_must (refine wpList_append_own _ rfl _ _ 60 rfl w.heap.size 91 i0 (.int .u32 0) 1 4 Tryz.underlying60 hi hz0 hz1 hz2 rfl (by decide) _ L.length (L.map U) rfl (World.ownsRow.alloc HO.out _) ⟨_,0,none⟩ 1 1 [_] rfl rfl (Ej _ _ _) (by simp [Value.oneCell']) (by rw [HLL.out];unfold maxLen;omega) (by rw [HLL.out];omega) (by have:=HB.out.size;simp;omega) ?_))
      intro v' w2 hown2 hgrow2 _;have ho:Hid (Own w2 w.heap.size v' (L++[d])):=Dn (ys:=[d]) hown2;have hk:Hid (Below w.heap.size w w2):=Below.grown (HB.out.alloc HB.out.size _) hgrow2 (by have:=HB.out.size;simp;omega) (fun k hk=>(World.ownsRow.lt HO.out k hk).1);clear hown2 hgrow2 hx;go_wp2_with fail;go_roundw
      case rel=>exact ⟨2,by omega,by go_num,by rw [HD.out] at ho;exact ho.out,hk.out⟩
      case measure=>simp [intOf]
     ·obtain ⟨d,hd,hx⟩:∃ d:Nat,d=x/4294967296%65536∧bits .and .u32 ((x:Int)/4294967296%4294967296) 65535=(d:Int):=⟨_,rfl,by rw [←X6 (x/4294967296),Me];rfl⟩;have hx2:bits .and .u32 ((x:Int)/4294967296) 65535=(d:Int):=by rw [←hx];congr 1;omega
      obtain ⟨L,hL⟩:∃ L,L=Eq (xs.take k)++(Ge x).take 2:=⟨_,rfl⟩;rw [←hL] at HO;have HLL:Hid (L.length=4*k+2):=by rw [hL,List.length_append,HLO.out,List.length_take];rfl
      have HD:Hid (L++[d]=Eq (xs.take k)++(Ge x).take (2+1)):=by rw [hL,hd,List.append_assoc];rfl
      clear hd hL
      go_wp2_with (at_builtin;go_must (refine wpList_append_own _ rfl _ _ 60 rfl w.heap.size 91 i0 (.int .u32 0) 1 4 Tryz.underlying60 hi hz0 hz1 hz2 rfl (by decide) _ L.length (L.map U) rfl (World.ownsRow.alloc HO.out _) ⟨_,0,none⟩ 1 1 [_] rfl rfl (Ej _ _ _) (by simp [Value.oneCell']) (by rw [HLL.out];unfold maxLen;omega) (by rw [HLL.out];omega) (by have:=HB.out.size;simp;omega) ?_))
      intro v' w2 hown2 hgrow2 _;have ho:Hid (Own w2 w.heap.size v' (L++[d])):=Dn (ys:=[d]) hown2;have hk:Hid (Below w.heap.size w w2):=Below.grown (HB.out.alloc HB.out.size _) hgrow2 (by have:=HB.out.size;simp;omega) (fun k hk=>(World.ownsRow.lt HO.out k hk).1);clear hown2 hgrow2 hx hx2;go_wp2_with fail;go_roundw
      case rel=>exact ⟨3,by omega,by go_num,by rw [HD.out] at ho;exact ho.out,hk.out⟩
      case measure=>simp [intOf]
     ·obtain ⟨d,hd,hx⟩:∃ d:Nat,d=x/281474976710656%65536∧bits .and .u32 ((x:Int)/281474976710656%4294967296) 65535=(d:Int):=⟨_,rfl,by rw [←X6 (x/281474976710656),Me];rfl⟩;have hx2:bits .and .u32 ((x:Int)/281474976710656) 65535=(d:Int):=by rw [←hx];congr 1;omega
      obtain ⟨L,hL⟩:∃ L,L=Eq (xs.take k)++(Ge x).take 3:=⟨_,rfl⟩;rw [←hL] at HO;have HLL:Hid (L.length=4*k+3):=by rw [hL,List.length_append,HLO.out,List.length_take];rfl
      have HD:Hid (L++[d]=Eq (xs.take k)++(Ge x).take (3+1)):=by rw [hL,hd,List.append_assoc];rfl
      clear hd hL
      go_wp2_with (at_builtin;go_must (refine wpList_append_own _ rfl _ _ 60 rfl w.heap.size 91 i0 (.int .u32 0) 1 4 Tryz.underlying60 hi hz0 hz1 hz2 rfl (by decide) _ L.length (L.map U) rfl (World.ownsRow.alloc HO.out _) ⟨_,0,none⟩ 1 1 [_] rfl rfl (Ej _ _ _) (by simp [Value.oneCell']) (by rw [HLL.out];unfold maxLen;omega) (by rw [HLL.out];omega) (by have:=HB.out.size;simp;omega) ?_))
      intro v' w2 hown2 hgrow2 _;have ho:Hid (Own w2 w.heap.size v' (L++[d])):=Dn (ys:=[d]) hown2;have hk:Hid (Below w.heap.size w w2):=Below.grown (HB.out.alloc HB.out.size _) hgrow2 (by have:=HB.out.size;simp;omega) (fun k hk=>(World.ownsRow.lt HO.out k hk).1);clear hown2 hgrow2 hx hx2;go_wp2_with fail;go_roundw
      case rel=>exact ⟨4,by omega,by go_num,by rw [HD.out] at ho;exact ho.out,hk.out⟩
      case measure=>simp [intOf]
    ·obtain rfl:j=4:=by omega
     go_wp2_with fail;go_roundw
     case rel=>exact ⟨k+1,by omega,by go_num,by rw [HT.out];exact HO.out,HB.out⟩
     case measure=>simp [intOf];omega
  ·obtain rfl:k=l:=by omega
   have hlim:=HO.out.lim (N6 _);rw [List.take_of_length_le (by rw [HL.out];omega)] at hlim;have HLM:=hid hlim;clear hlim
   go_wp2_with (go_at_call 57;refine (G6 HLM.out (by rw [Jy,HL.out];omega)).mono ?_;rintro e w' ⟨v',rfl,hv',rfl⟩;have HV':=hid hv';clear hv')
   go_ret;exact ⟨_,rfl,HV'.out,HB.out⟩
def shS (xs:List Nat) (r:Nat):Nat→List Nat × Nat
 | 0=>([],0)
 | i+1=>((shS xs r i).1++[(nth xs i*2^r+(shS xs r i).2)%65536],(nth xs i*2^r+(shS xs r i).2)/65536)
theorem D9 (xs:List Nat)(r:Nat):∀ i,(shS xs r i).1.length=i
 | 0=>rfl
 | i+1=>by rw [shS,List.length_append,D9 xs r i];rfl
theorem Js (xs:List Nat)(r:Nat):∀ i,Small (shS xs r i).1
 | 0=>fun x hx=>by cases hx
 | i + 1 => fun x hx => by
   rw [shS] at hx;rcases List.mem_append.1 hx with h | h
   ·exact Js xs r i x h
   ·have:x=(nth xs i*2^r+(shS xs r i).2)%65536:=by simpa using h
    rw [this];exact Nat.mod_lt _ (by decide)
theorem Rr {xs:List Nat}(hs:Small xs)(r:Nat):∀ i,(shS xs r i).2<2^r
 | 0=>Nat.pow_pos (by decide)
 | i + 1 => by
   rw [shS];have h1:=nth_lt hs i;have h2:=Rr hs r i;have h3:(nth xs i+1)*2^r≤65536*2^r:=Nat.mul_le_mul_right _ h1;rw [Nat.add_mul,Nat.one_mul] at h3;exact Nat.div_lt_of_lt_mul (by omega)
theorem Nd {xs:List Nat}(r:Nat):∀ i,i≤xs.length→val (shS xs r i).1+65536^i*(shS xs r i).2=val (xs.take i)*2^r
 | 0,_=>by simp [shS,val]
 | i + 1, h => by
   have ih:=Nd (xs:=xs) r i (by omega);rw [shS,Cp,D9,B7 xs i (by omega),Nat.add_mul,←ih,Nat.pow_succ];simp only [val,Nat.mul_zero,Nat.add_zero];generalize (shS xs r i).2=c;have:=Nat.mod_add_div (nth xs i*2^r+c) 65536;rw [Nat.mul_assoc (65536^i) 65536,Nat.add_assoc,←Nat.mul_add,this,Nat.mul_add,←Nat.add_assoc,Nat.mul_assoc (65536^i) (nth xs i)];exact Nat.add_right_comm _ _ _
theorem Aax (q:Nat)(xs:List Nat):val (List.replicate q 0++xs)=65536^q*val xs:=by
 induction q with
 | zero=>simp
 | succ q ih=>rw [List.replicate_succ,List.cons_append,val,ih,Nat.pow_succ];rw [Nat.zero_add,←Nat.mul_assoc,Nat.mul_comm 65536]
theorem Agn {xs:List Nat}(q r:Nat):val (List.replicate q 0++((shS xs r xs.length).1++[(shS xs r xs.length).2]))=val xs*2^(16*q+r):=by
 rw [Aax,Cp,D9];simp only [val,Nat.mul_zero,Nat.add_zero];rw [Nd r xs.length (Nat.le_refl _),List.take_length,Nat.pow_add,Nat.pow_mul,show (2:Nat)^16=65536 from rfl,Nat.mul_left_comm]
theorem Aia {x c r:Nat}(h:c<2^r):x*2^r ||| c=x*2^r+c:=by
 rw [Nat.mul_comm,Nat.two_pow_add_eq_or_of_lt h]
theorem Ad2 {x c r:Nat}(hx:x<65536)(hr:r<16)(hc:c<2^r):bits .or .u32 ((x:Int)*2^r%4294967296) (c:Int)=((x*2^r+c:Nat):Int)∧x*2^r+c<4294967296:=by
 have h1:2^r≤2^15:=Nat.pow_le_pow_right (by decide) (by omega);have h2:x*2^r≤65535*2^15:=Nat.mul_le_mul (by omega) h1;have e:(x:Int)*2^r%4294967296=((x*2^r:Nat):Int):=by
  have:(x:Int)*2^r=((x*2^r:Nat):Int):=by simp
  rw [this];omega
 rw [e,Aib _ _ (by omega) (by omega),Aia hc];exact ⟨rfl,by omega⟩
theorem Ahh (y:Nat)(h:y<4294967296):bits .and .u32 (y:Int) 65535=((y%65536:Nat):Int):=by
 rw [show (65535:Int)=((65535:Nat):Int) from rfl,X8 _ _ h (by decide)];rw [show (65535:Nat)=2^16-1 from rfl,Nat.and_two_pow_sub_one_eq_mod]
theorem Agm {w:World}{v:Value}{xs:List Nat}(hv:Lim w v xs)(n:Nat)(hl:xs.length≤100000)(h0:0<xs.length)(hn:n≤6400000) :
 Calls Tryz.prog 29 #[v,.int .i64 n] w (RetLimF (limbs (val (List.replicate (n/16) 0++((shS xs (n%16) xs.length).1++[(shS xs (n%16) xs.length).2])))) w):=by
 obtain ⟨hs,A,c,rfl,hc,hA⟩:=hv;obtain ⟨b,off,rfl,hb,hcell⟩:=hA h0;have HC:=hid hcell;have HX:=hid (nth_lt hs);have HCY:=hid (Rr hs (n%16));clear hcell hA hs;obtain ⟨i0,hi,hz0,hz1,hz2⟩:=info_parts Kx;generalize hlen:xs.length=l at *;have HL:=hid hlen;clear hlen;have e0:(((l:Nat):Int)==0)=false:=by rw [beq_eq_false_iff_ne];omega
 go_enter Tryz.func29,Tryz.ntmps29
 go_wp2_with (at_make;go_must (refine wpList_make_full _ rfl _ _ 60 rfl w.heap.size 91 i0 (.int .u32 0) 1 Tryz.underlying60 hi hz0 hz1 .i64 .i64 _ _ (n/16) rfl rfl (by omega) (by omega) (by rw [hz2];omega) (by unfold maxLen;omega) (by simp) ?_))
 intro w1 hown1 hgrow1;have ho:Hid (Own w1 w.heap.size (.slice (some ⟨w.heap.size,0,none⟩) (n/16) (n/16)) (List.replicate (n/16) 0)):=Im hown1;have hk:Hid (Below w.heap.size w w1):=Below.grown (Below.refl _ _) hgrow1 (by simp) (by intro k hk;cases hk);clear hown1 hgrow1;have hr16:n%16<16:=Nat.mod_lt _ (by decide);go_wp2_with fail
 go_loopw [5,6,7] (fun o cy i wr=>∃ k:Nat,k≤l∧i=.int .i64 k∧cy=.int .u32 ((shS xs (n%16) k).2:Nat)∧Own wr w.heap.size o (List.replicate (n/16) 0++(shS xs (n%16) k).1)∧Below w.heap.size w wr) (fun _ _ i _=>(l-intOf i).toNat)
 case atStart=>exact ⟨0,Nat.zero_le _,rfl,rfl,by rw [shS,List.append_nil];exact ho.out,hk.out⟩
 case round =>
  obtain ⟨k,hkl,rfl,rfl,hO,hB⟩:=hrel;have HO:=hid hO;have HB:=hid hB;clear hO hB;by_cases hlt:k<l
  ·have hck:=(HB.out.cell (p:=⟨b,off+k,none⟩) hb).trans (HC.out k hlt);have hxk:=HX.out k;have hcy:=HCY.out k;have HST:=hid (show shS xs (n%16) (k+1)=((shS xs (n%16) k).1++[(nth xs k*2^(n%16)+(shS xs (n%16) k).2)%65536],(nth xs k*2^(n%16)+(shS xs (n%16) k).2)/65536) from rfl);have hL:(List.replicate (n/16) 0++(shS xs (n%16) k).1).length=n/16+k:=by rw [List.length_append,List.length_replicate,D9]
   obtain ⟨L,hLL⟩:∃ L,L=List.replicate (n/16) 0++(shS xs (n%16) k).1:=⟨_,rfl⟩;rw [←hLL] at HO hL;have HLL:=hid hLL;have HLN:=hid hL;clear hLL hL;obtain ⟨y,hy⟩:∃ y,y=nth xs k*2^(n%16)+(shS xs (n%16) k).2:=⟨_,rfl⟩;obtain ⟨d,hd⟩:∃ d,d=y%65536:=⟨_,rfl⟩;have hor:=(Ad2 hxk hr16 hcy).1;have hlt2:=(Ad2 hxk hr16 hcy).2;rw [←hy] at HST hor hlt2;have hand:=Ahh y hlt2;rw [←hd] at HST hand;have HD:=hid hd;clear hy hd hcy;generalize (shS xs (n%16) k).2=cy at *;generalize nth xs k=x at *
   go_wp2_with (at_builtin;go_must (refine wpList_append_own _ rfl _ _ 60 rfl w.heap.size 91 i0 (.int .u32 0) 1 4 Tryz.underlying60 hi hz0 hz1 hz2 rfl (by decide) _ L.length (L.map U) rfl (World.ownsRow.alloc HO.out _) ⟨_,0,none⟩ 1 1 [_] rfl rfl (Ej _ _ _) (by simp [Value.oneCell']) (by rw [HLN.out];unfold maxLen;omega) (by rw [HLN.out];omega) (by have:=HB.out.size;simp;omega) ?_))
   intro v' w2 hown2 hgrow2 _;have ho:Hid (Own w2 w.heap.size v' (L++[d])):=Dn (ys:=[d]) hown2;have hk:Hid (Below w.heap.size w w2):=Below.grown (HB.out.alloc HB.out.size _) hgrow2 (by have:=HB.out.size;simp;omega) (fun k hk=>(World.ownsRow.lt HO.out k hk).1);clear hown2 hgrow2 hor hand;go_wp2_with fail;go_roundw
   case rel=>exact ⟨k+1,by omega,by go_num,by rw [HST.out];go_num,by rw [HST.out];rw [HLL.out,List.append_assoc] at ho;exact ho.out,hk.out⟩
   case measure=>simp [intOf];omega
  ·obtain rfl:k=l:=by omega
   have hcy:=HCY.out k;have hL:(List.replicate (n/16) 0++(shS xs (n%16) k).1).length=n/16+k:=by rw [List.length_append,List.length_replicate,D9]
   obtain ⟨L,hLL⟩:∃ L,L=List.replicate (n/16) 0++(shS xs (n%16) k).1:=⟨_,rfl⟩;have hsm:Small L:=by
    rw [hLL];intro x hx;rcases List.mem_append.1 hx with h | h
    ·rw [(List.mem_replicate.1 h).2];decide
    ·exact Js _ _ _ x h
   have hp:2^(n%16)≤2^15:=Nat.pow_le_pow_right (by decide) (by omega);have hgoal:List.replicate (n/16) 0++((shS xs (n%16) k).1++[(shS xs (n%16) k).2])=L++[(shS xs (n%16) k).2]:=by rw [hLL,List.append_assoc]
   have HG:=hid hgoal;rw [←hLL] at HO hL;have HLN:=hid hL;have HSM:=hid hsm;generalize (shS xs (n%16) k).2=cy at *;have hc2:cy<65536:=by omega
   clear hLL hL hsm hgoal hp hcy
   go_wp2_with (at_builtin;go_must (refine wpList_append_own _ rfl _ _ 60 rfl w.heap.size 91 i0 (.int .u32 0) 1 4 Tryz.underlying60 hi hz0 hz1 hz2 rfl (by decide) _ L.length (L.map U) rfl (World.ownsRow.alloc HO.out _) ⟨_,0,none⟩ 1 1 [_] rfl rfl (Ej _ _ _) (by simp [Value.oneCell']) (by rw [HLN.out];unfold maxLen;omega) (by rw [HLN.out];omega) (by have:=HB.out.size;simp;omega) ?_))
   intro v' w2 hown2 hgrow2 _;have ho:Hid (Own w2 w.heap.size v' (L++[cy])):=Dn (ys:=[cy]) hown2;have hk:Hid (Below w.heap.size w w2):=Below.grown (HB.out.alloc HB.out.size _) hgrow2 (by have:=HB.out.size;simp;omega) (fun k hk=>(World.ownsRow.lt HO.out k hk).1);clear hown2 hgrow2;have hlim:=ho.out.lim (by
    intro x hx;rcases List.mem_append.1 hx with h | h
    ·exact HSM.out x h
    ·have:x=cy:=by simpa using h
     omega)
   have HLM:=hid hlim;clear hlim
   go_wp2_with (go_at_call 57;refine (Aio ho.out HLM.out.1 (by rw [List.length_append,HLN.out];simp;omega)).mono ?_;rintro e w' ⟨v',rfl,hv',hf',rfl⟩;have HV':=hid hv';have FR:=hid hf';clear hv' hf')
   go_ret;exact ⟨_,rfl,by rw [HG.out];exact HV'.out,hk.out,.inr FR.out⟩
theorem Aju {w:World}{v:Value}{m:Nat}(hv:Lim w v (limbs m))(n:Nat)(hl:(limbs m).length≤100000)(hn:n≤6400000) :
 Calls Tryz.prog 29 #[v,.int .i64 n] w (RetLimF (limbs (m*2^n)) w):=by
 by_cases h0:m=0
 ·subst h0;rw [Bd] at *;rw [Nat.zero_mul,Bd];have hv':=hv;obtain ⟨hs,A,c,rfl,hc,hA⟩:=hv;clear hs hA hc hl;refine Calls.mono (R:=fun e w'=>e=.returned (.slice A ([]:List Nat).length c)∧w=w') ?_ (fun e w' ⟨he,hw⟩=>by subst hw;exact ⟨_,he,hv',Below.refl _ _,.inl rfl⟩);clear hv';have e0:(((([]:List Nat).length:Nat):Int)==0)=true:=rfl;go_enter Tryz.func29,Tryz.ntmps29;go_wp2_with fail;go_ret;exact ⟨rfl,rfl⟩
 ·have:=Agm hv n hl (Bq m h0) hn;rwa [Agn,Ca,show 16*(n/16)+n%16=n by omega] at this
theorem shl_c {w:World}{v:Value}{m:Nat}(hv:Lim w v (limbs m))(n:Nat)(hl:(limbs m).length≤100000)(hn:n≤6400000) :
 Calls Tryz.prog 29 #[v,.int .i64 n] w (RetLim (limbs (m*2^n)) w):=(Aju hv n hl hn).mono fun _ _ h=>h.lim
end Go.Proofs.YtmgaloopddiekaaGreatDoor.Dg
