/- Words and contracts, part 7. -/
import Derived.Test.YtabjjdicffcolaaGreatDoorClaimJrootp05
import Derived.Test.YtabjjdicffcolaaGreatDoorClaimJrootp06
import Derived.Deep.RegionHeld3
import Derived.StillTailTactics
set_option maxRecDepth 100000
set_option maxHeartbeats 0
namespace Go.Proofs.YtabjjdicffcolaaGreatDoor
open Go.Lib (hid)
open Go.RowKit
theorem Nd {w:World}{v:Value}{xs:List Nat}(hv:Lim w v xs)(hl:xs.length≤1000000) :
 Calls Tryz.prog 81 #[v] w fun e w'=>∃ v',e=.returned v'∧Own w' w.heap.size v' xs∧Kept w w':=by
 obtain ⟨hs,A,c,rfl,hc,hA⟩:=hv;cases A with
 | none =>
   have h0:xs.length=0:=by
    by_cases h:0<xs.length
    ·obtain ⟨b,off,h1,_⟩:=hA h;cases h1
    ·omega
   obtain rfl:xs=[]:=List.eq_nil_of_length_eq_zero h0;clear hA hl hc h0 hs;refine Calls.mono (R:=fun e w'=>e=.returned (.slice none 0 0)∧w=w') ?_ (fun e w' ⟨he,hw⟩=>by subst hw;exact ⟨_,he,World.ownsRow_nil _ _ _ _,Below.refl _ _⟩);have e1:=fun (w:World)=>Lib.run_eql_slice_nil (P:=Tryz.prog) w 26 55 none 0 c 0 0 Tryz.underlying26
   go_enter Tryz.func81,Tryz.ntmps81;go_wp2_with fail;go_ret;exact ⟨rfl,rfl⟩
 | some a =>
   have e1:=fun (w:World)=>Lib.run_eql_slice_nil (P:=Tryz.prog) w 26 55 (some a) xs.length c 0 0 Tryz.underlying26
   go_enter Tryz.func81,Tryz.ntmps81;obtain ⟨i0,hi,hz0,hz1,hz2⟩:=info_parts Rj;have hown:(w.alloc (.cells #[] 55)).ownsRow w.heap.size 55 1 (.slice (some ⟨w.heap.size,0,none⟩) 0 0) 0 []:=World.ownsRow_made w #[] 0 (Nat.le_refl _) (by decide) rfl;have hlim:Lim (w.alloc (.cells #[] 55)) (.slice (some a) xs.length c) xs:=Lim.kept ⟨hs,some a,c,rfl,hc,hA⟩ ((Below.refl _ _).alloc (Nat.le_refl _) _);have H1:=hid hown;have H2:=hid hlim;clear hown hlim hA hs
   go_wp2_with (at_builtin;refine wpList_append_own _ rfl _ _ 26 rfl w.heap.size 55 i0 (.int .u64 0) 1 8 Tryz.underlying26 hi hz0 hz1 hz2 rfl (by decide) _ 0 [] rfl H1.out a xs.length c (xs.map U) rfl (by simp) H2.out.news (Aea xs) (by unfold maxLen;omega) (by omega) (by simp) ?_)
   intro v' w1 hown1 hgrow _;have hk:Kept w w1:=Below.grown ((Below.refl _ _).alloc (Nat.le_refl _) _) hgrow (by simp) (by intro k hk;have:w.heap.size=k:=Option.some.inj hk;omega);have HO:Hid (Own w1 w.heap.size v' xs):=Mz (xs:=[]) hown1;have HK:=hid hk;clear hown1 hgrow hk;go_wp2;go_ret;exact ⟨_,rfl,HO.out,HK.out⟩
theorem Wr {w:World}{v:Value}{xs:List Nat}(hv:Lim w v xs)(hl:xs.length≤1000000) :
 Calls Tryz.prog 81 #[v] w (RetLim xs w) :=
 (Nd hv hl).mono fun _ _ ⟨v',he,ho,hk⟩=>⟨v',he,ho.lim hv.1,hk⟩
theorem Kn (xs:List Nat)(h:Small xs):(Aj (val xs)).length≤xs.length:=by
 rw [←Xw xs h,List.length_take];exact Nat.min_le_right _ _
theorem Aj3 {w:World}{v:Value}{xs:List Nat}(hv:Lim w v xs)(hl:xs.length≤1000000) :
 Calls Tryz.prog 42 #[v] w (RetLim (Aj (val xs)) w):=by
 have hb:=Kn xs hv.1;have HV:=hid hv;clear hv;go_enter Tryz.func42,Tryz.ntmps42
 go_wp2_with (first
  | (go_at_call 82;refine (Jv HV.out (by omega)).mono ?_;rintro e w' ⟨v',rfl,hv',rfl⟩;have HV':=hid hv';clear hv')
  | (go_at_call 81;refine (Wr HV'.out (by omega)).mono ?_;rintro e w' ⟨v2,rfl,hv2,hk⟩;have HV2:=hid hv2;have HK:=hid hk;clear hv2 hk))
 go_ret;exact ⟨_,rfl,HV2.out,HK.out⟩
theorem Xm (a b:Nat)(ha:a<18446744073709551616)(hb:b<18446744073709551616):bits .or .u64 (a:Int) (b:Int)=((a ||| b:Nat):Int):=bits_or_u64_nat a b ha hb
theorem Nz (x r:Nat):IntKind.u64.wrap ((x:Int)*2^r)=((x*2^r%18446744073709551616:Nat):Int):=by
 rw [IntKind.wrap_u64];simp
theorem Sf (x r:Nat):(x:Int)/2^r=((x/2^r:Nat):Int):=by
 simp
theorem Ahv (x:Nat):(x:Int)/2=((x/2:Nat):Int):=by omega
theorem Agh {w:World}{v:Value}{xs:List Nat}(hv:Lim w v xs)(n:Nat)(hl:xs.length≤100000)(h0:0<xs.length)(hn:n≤6400000) :
 Calls Tryz.prog 114 #[v,.int .i64 n] w (RetLim (Aj (val (Fz xs (n/64) (n%64) (n/64+xs.length+1) xs.length))) w):=by
 obtain ⟨hs,A,c,rfl,hc,hA⟩:=hv;obtain ⟨b,off,rfl,hb,hcell⟩:=hA h0;have HC:=hid hcell;have hx:=Bn hs;have HX:=hid hx;have HS:=hid hs;clear hcell hA hx hs;obtain ⟨i0,hi,hz0,hz1,hz2⟩:=info_parts Rj;generalize hlen:xs.length=l at *;have HF:=hid (Lo xs (n/64) (n%64) (n/64+l+1));have HL:=hid hlen;have HSM:=hid (Ra xs HS.out (n/64) (n%64) (n/64+l+1));clear hlen;have e0:(((l:Nat):Int)==0)=false:=by rw [beq_eq_false_iff_ne];omega
 go_enter Tryz.func114,Tryz.ntmps114
 go_wp2_with (at_make;go_must (refine wpList_make_full _ rfl _ _ 26 rfl w.heap.size 55 i0 (.int .u64 0) 1 Tryz.underlying26 hi hz0 hz1 .i64 .i64 _ _ (n/64+l+1) rfl rfl (by omega) (by omega) (by rw [hz2];omega) (by unfold maxLen;omega) (by simp) ?_))
 intro w1 hown1 hgrow1;have ho:Hid (Own w1 w.heap.size (.slice (some ⟨w.heap.size,0,none⟩) (n/64+l+1) (n/64+l+1)) (Fz xs (n/64) (n%64) (n/64+l+1) 0)):=My hown1;have hk:Hid (Below w.heap.size w w1):=Below.grown (Below.refl _ _) hgrow1 (by simp) (by intro k hk;cases hk);clear hown1 hgrow1;go_wp2_with fail
 go_loopw [20] (fun t wr=>∃ k:Nat,k≤l∧t=.int .i64 k∧Own wr w.heap.size (.slice (some ⟨w.heap.size,0,none⟩) (n/64+l+1) (n/64+l+1)) (Fz xs (n/64) (n%64) (n/64+l+1) k)∧Below w.heap.size w wr) (fun t _=>(l-intOf t).toNat)
 case atStart=>exact ⟨0,Nat.zero_le _,rfl,ho.out,hk.out⟩
 case round =>
  obtain ⟨k,hkl,rfl,hO,hB⟩:=hrel;have HO:=hid hO;have HB:=hid hB;clear hO hB;by_cases hlt:k<l
  ·have hck:=(HB.out.cell (p:=⟨b,off+k,none⟩) hb).trans (HC.out k hlt);have ho1:=HO.out.cell (n/64+k) (by rw [HF.out];omega);have ho2:=HO.out.cell (n/64+k+1) (by rw [HF.out];omega);have hf1:=HO.out.frozen (n/64+k);have hf2:=HO.out.frozen (n/64+k+1);have hxk:=HX.out k;have HST:=hid (show Fz xs (n/64) (n%64) (n/64+l+1) (k+1)=Km (Fz xs (n/64) (n%64) (n/64+l+1) k) (n/64) (n%64) k (nth xs k) from rfl);have HY:Hid (nth (Fz xs (n/64) (n%64) (n/64+l+1) k) (n/64+k)<18446744073709551616∧nth (Fz xs (n/64) (n%64) (n/64+l+1) k) (n/64+k+1)<18446744073709551616):=⟨Bn (HSM.out k) _,Bn (HSM.out k) _⟩
   unfold Km at HST;generalize Fz xs (n/64) (n%64) (n/64+l+1) k=out at *;generalize nth xs k=x at *;generalize nth out (n/64+k)=y0 at *;generalize nth out (n/64+k+1)=y1 at *;go_wp2_with fail;go_roundw
   case rel =>
    refine ⟨k+1,by omega,by go_num,?_,(HB.out.setCell (by simp) _).setCell (by simp) _⟩;rw [Nz,Ahv,Sf,Xm _ _ HY.out.1 (Nat.mod_lt _ (by decide)),Xm _ _ HY.out.2 (Nat.lt_of_le_of_lt (Nat.div_le_self _ _) (Nat.lt_of_le_of_lt (Nat.div_le_self _ _) hxk)),HST.out];exact (HO.out.stored _ _).stored _ _
   case measure=>simp [intOf];omega
  ·obtain rfl:k=l:=by omega
   have hlim:=HO.out.lim (HSM.out _);have HLM:=hid hlim;clear hlim
   go_wp2_with (go_at_call 82;refine (Jv HLM.out (by rw [HF.out];omega)).mono ?_;rintro e w' ⟨v',rfl,hv',rfl⟩;have HV':=hid hv';clear hv')
   go_ret;exact ⟨_,rfl,HV'.out,HB.out⟩
theorem M7 {xs:List Nat}(h:Small xs):Small (xs++[0]):=by
 intro x hx;rcases List.mem_append.1 hx with hx | hx
 ·exact h x hx
 ·have:x=0:=by simpa using hx
  omega
theorem Wq (w:World)(u:Value)(T:TypeId):∀ j x,[u][j]?=some x→(w.alloc (.cells #[u] T)).cell? ((⟨w.heap.size,0,none⟩:Addr).add j)=some x:=by
 intro j x hj
 match j,hj with
 | 0, hj =>
   have:u=x:=by simpa using hj
   subst this;simp [Addr.add,go_sem]
 | j+1,hj=>simp at hj
theorem Zg {w:World}{v u:Value}{xs ys:List Nat}(hv:Lim w v xs)(hu:Lim w u ys)(hl:xs.length≤100000)(hle:ys.length≤xs.length)
 {args:Array Value} (hargs:args=#[v,u]∨args=#[u,v]∧ys.length<xs.length) :
 Calls Tryz.prog 194 args w (RetLim (Aj (val (Dr (xs++[0]) ys (xs.length+1)).1)) w):=by
 have hv':=hv;obtain ⟨hs,A,c,rfl,hc,hA⟩:=hv;obtain ⟨hs',A',c',rfl,hc',hA'⟩:=hu;have HV:=hid hv';have HS:=hid hs;have HA':=hid hA';have HS':=hid hs';clear hA hA' hv' hs hs';generalize hlen:xs.length=l at *;generalize hlen':ys.length=l' at *;have HL:=hid hlen;have HL':=hid hlen';clear hlen hlen';obtain ⟨i0,hi,hz0,hz1,hz2⟩:=info_parts Rj;rcases hargs with rfl | ⟨rfl,hlt'⟩
 all_goals
  go_enter Tryz.func194,Tryz.ntmps194;go_wp2_with fail;go_step3
  go_wp2_with (first
   | (go_at_call 81;refine (Nd HV.out (by rw [HL.out];omega)).mono ?_;rintro e w1 ⟨v1,rfl,ho,hk⟩;have HO:=hid ho;have HK:=hid hk;clear ho hk)
   | (at_builtin;go_must (refine wpList_append_own _ rfl _ _ 26 rfl w.heap.size 55 i0 (.int .u64 0) 1 8 Tryz.underlying26 hi hz0 hz1 hz2 rfl (by decide) _ xs.length (xs.map U) rfl (HO.out.alloc _) ⟨w1.heap.size,0,none⟩ 1 1 [.int .u64 0] rfl rfl (Wq w1 _ _) (by simp [Value.oneCell']) (by unfold maxLen;rw [HL.out];omega) (by rw [HL.out];omega) (by have:=HK.out.size;simp;omega) ?_)))
  intro v' w2 hown2 hgrow2 _;have ho:Hid (Own w2 w.heap.size v' (xs++[0])):=Mz (ys:=[0]) hown2;have hk:Hid (Below w.heap.size w w2):=Below.grown (HK.out.alloc HK.out.size _) hgrow2 (by have:=HK.out.size;simp;omega) (fun k hk=>(World.ownsRow.lt HO.out k hk).1);clear hown2 hgrow2;obtain ⟨g,cap,rfl,hg,_,hcap⟩:=ho.out.shape (by simp);have el:(xs++[0]).length=l+1:=by rw [List.length_append,HL.out];rfl
  rw [el] at ho hcap ⊢;have HC:=hid el;clear el HO HK;go_wp2_with fail;go_step3;go_wp2_with fail;have HSM:=hid (Gv (xs++[0]) ys (M7 HS.out));have HCY:=hid (La (xs++[0]) ys (M7 HS.out) HS'.out);have HLN:=hid (fun k=>(Fr (xs++[0]) ys k).trans HC.out);have HSTOP:=hid (Va (xs++[0]) ys (M7 HS.out))
  go_loopw [6,22] (fun cy t wr=>∃ k:Nat,k≤l+1∧t=.int .i64 k∧cy=.int .u64 (Dr (xs++[0]) ys k).2∧Own wr w.heap.size (.slice (some ⟨g,0,none⟩) (l+1) cap) (Dr (xs++[0]) ys k).1∧Below w.heap.size w wr) (fun _ t _=>(l+1-intOf t).toNat)
  case atStart=>exact ⟨0,Nat.zero_le _,rfl,rfl,ho.out,hk.out⟩
  case round =>
   obtain ⟨k,hkl,rfl,rfl,hO,hB⟩:=hrel;have HO:=hid hO;have HB:=hid hB;clear hO hB;by_cases hlt:k<l+1
   ·have ho1:=HO.out.cell k (by rw [HLN.out];omega);have hf1:=HO.out.frozen k;have hcy:=HCY.out k;have HST:=hid (Hp (xs++[0]) ys k);have hxk:=Bn (HSM.out k) k;by_cases hky:k<l'
    ·obtain ⟨b,off,rfl,hb,hcell⟩:=HA'.out (by omega);have hck:=(HB.out.cell (p:=⟨b,off+k,none⟩) hb).trans (hcell k hky);have hyk:=Bn HS'.out k;clear hcell;generalize nth ys k=y at *;generalize Dr (xs++[0]) ys k=s at *;obtain ⟨o,q⟩:=s;simp only at *;generalize nth o k=z at *;have hadd:=fun w=>Pc z y q hcy w
     go_wp2_with (fail)
     go_roundw
     case rel=>exact ⟨k+1,by omega,by go_num,by rw [HST.out];rfl,by rw [HST.out];exact HO.out.stored _ _,HB.out.setCell hg _⟩
     case measure=>simp [intOf];omega
    ·have hd:decide ((k:Int)<(l':Int))=false:=by simp;omega
     have hyk:nth ys k=0:=Qo ys k (by rw [HL'.out];omega);rw [hyk] at HST;clear hyk;by_cases hq:(Dr (xs++[0]) ys k).2=0
     ·have hfin:(Dr (xs++[0]) ys (l+1)).1=(Dr (xs++[0]) ys k).1:=by
       have:=HSTOP.out k (by rw [HL'.out];omega) hq (l+1-k) (by rw [HC.out];omega);rw [show k+(l+1-k)=l+1 by omega] at this;rw [this]
      have hlim:=HO.out.lim (HSM.out k);rw [←hfin] at hlim;have HLM:=hid hlim;rw [hq];have HQ:=hid hq;clear hlim hq hfin hcy
      go_wp2_with (go_at_call 82;refine (Jv HLM.out (by rw [HLN.out];omega)).mono ?_;rintro e w' ⟨v',rfl,hv',rfl⟩;have HV':=hid hv';clear hv')
      rw [Exit.noGoto_ret];go_ret;exact ⟨_,rfl,HV'.out,HB.out⟩
     ·generalize Dr (xs++[0]) ys k=s at *;obtain ⟨o,q⟩:=s;simp only at *;have hq1:(((q:Nat):Int)==0)=false:=by rw [beq_eq_false_iff_ne];omega
      generalize nth o k=z at *;have hadd:∀ w,(callFunc 201 #[.int .u64 z,.int .u64 0,.int .u64 q]).run Tryz.prog w=.ok (.value (.tuple #[.int .u64 (De z 0 q),.int .u64 (Dj z 0 q)])) w:=fun w=>Pc z 0 q hcy w
      have HQ:=hid hq;clear hq
      go_wp2_with (fail)
      go_roundw
      case rel=>exact ⟨k+1,by omega,by go_num,by rw [HST.out];rfl,by rw [HST.out];exact HO.out.stored _ _,HB.out.setCell hg _⟩
      case measure=>simp [intOf];omega
   ·obtain rfl:k=l+1:=by omega
    have hlim:=HO.out.lim (HSM.out _);have HLM:=hid hlim;clear hlim
    go_wp2_with (go_at_call 82;refine (Jv HLM.out (by rw [HLN.out];omega)).mono ?_;rintro e w' ⟨v',rfl,hv',rfl⟩;have HV':=hid hv';clear hv')
    rw [Exit.noGoto_ret];go_ret;exact ⟨_,rfl,HV'.out,HB.out⟩
theorem Abl {w:World}{v u:Value}{n m:Nat}(hv:Lim w v (Aj n))(hu:Lim w u (Aj m))(hl:(Aj n).length≤100000)(hl':(Aj m).length≤100000) :
 Calls Tryz.prog 194 #[v,u] w (RetLim (Aj (n+m)) w):=by
 by_cases hle:(Aj m).length≤(Aj n).length
 ·have:=Zg hv hu hl hle (Or.inl rfl);rwa [X8 _ _ hv.1 hu.1 hle,Cd,Cd] at this
 ·have:=Zg hu hv hl' (by omega) (Or.inr ⟨rfl,by omega⟩);rwa [X8 _ _ hu.1 hv.1 (by omega),Cd,Cd,Nat.add_comm] at this
theorem Mp {w:World}{v:Value}{m:Nat}(hv:Lim w v (Aj m))(n:Nat)(hl:(Aj m).length≤100000)(hn:n≤6400000) :
 Calls Tryz.prog 114 #[v,.int .i64 n] w (RetLim (Aj (m*2^n)) w):=by
 by_cases h0:m=0
 ·subst h0;rw [Ay] at *;rw [Nat.zero_mul,Ay];obtain ⟨hs,A,c,rfl,hc,hA⟩:=hv;clear hs hA hc hl;refine Calls.mono (R:=fun e w'=>e=.returned (.slice none 0 0)∧w=w') ?_ (fun e w' ⟨he,hw⟩=>by subst hw;exact ⟨_,he,Lim.nil _ _ _,Below.refl _ _⟩);have e0:(((([]:List Nat).length:Nat):Int)==0)=true:=rfl;go_enter Tryz.func114,Tryz.ntmps114;go_wp2_with fail;go_ret;exact ⟨rfl,rfl⟩
 ·have:=Agh hv n hl (Bj m h0) hn;rwa [Adz _ hv.1,Cd] at this
theorem Ad4 {w:World}{v u:Value}{xs ys:List Nat}(hv:Lim w v xs)(hu:Lim w u ys)(hl:xs.length≤100000) :
 Calls Tryz.prog 199 #[v,u] w (RetLim (Aj (val (Jw xs ys xs.length).1)) w):=by
 have hv':=hv;obtain ⟨hs,A,c,rfl,hc,hA⟩:=hv;obtain ⟨hs',A',c',rfl,hc',hA'⟩:=hu;have HV:=hid hv';have HS:=hid hs;have HS':=hid hs';have HA':=hid hA';clear hA hA' hv' hs hs';generalize hlen:xs.length=l at *;generalize hlen':ys.length=l' at *;have HL:=hid hlen;have HL':=hid hlen';clear hlen hlen';have HSM:=hid (L6 xs ys HS.out);have HCY:=hid (M8 xs ys);have HLN:=hid (fun k=>(J5 xs ys k).trans HL.out);go_enter Tryz.func199,Tryz.ntmps199
 go_wp2_with (go_at_call 81;refine (Nd HV.out (by rw [HL.out];omega)).mono ?_;rintro e w1 ⟨v1,rfl,ho,hk⟩;obtain ⟨A1,cap1,rfl,hg1⟩:=ho.shape0;rw [HL.out] at ho hg1 ⊢;have HO1:=hid ho;have HG1:=hid hg1;have HK:=hid hk;clear ho hk hg1)
 go_loopw [6,13] (fun cy t wr=>∃ k:Nat,k≤l∧t=.int .i64 k∧cy=.int .u64 (Jw xs ys k).2∧Own wr w.heap.size (.slice A1 l cap1) (Jw xs ys k).1∧Below w.heap.size w wr) (fun _ t _=>(l-intOf t).toNat)
 case atStart=>exact ⟨0,Nat.zero_le _,rfl,rfl,HO1.out,HK.out⟩
 case round =>
  obtain ⟨k,hkl,rfl,rfl,hO,hB⟩:=hrel;have HO:=hid hO;have HB:=hid hB;clear hO hB;by_cases hlt:k<l
  ·obtain ⟨g,rfl,hg,hg'⟩:=HG1.out (by omega);have ho1:=HO.out.cell k (by rw [HLN.out];omega);have hf1:=HO.out.frozen k;have hcy:=HCY.out k;have HST:=hid (Kv xs ys k);have hxk:=Bn (HSM.out k) k;have hyk:=Bn HS'.out k;by_cases hky:k<l'
   ·obtain ⟨b,off,rfl,hb,hcell⟩:=HA'.out (by omega);have hck:=(HB.out.cell (p:=⟨b,off+k,none⟩) hb).trans (hcell k hky);clear hcell;generalize nth ys k=y at *;generalize Jw xs ys k=s at *;obtain ⟨o,q⟩:=s;simp only at *;generalize nth o k=z at *;have hsub:=fun w=>Ada z y q hcy w
    go_wp2_with (fail)
    go_roundw
    case rel=>exact ⟨k+1,by omega,by go_num,by rw [HST.out];rfl,by rw [HST.out];exact HO.out.stored _ _,HB.out.setCell hg _⟩
    case measure=>simp [intOf];omega
   ·have hd:decide ((k:Int)<(l':Int))=false:=by simp;omega
    have hy0:nth ys k=0:=Qo ys k (by rw [HL'.out];omega);rw [hy0] at HST;clear hy0;generalize Jw xs ys k=s at *;obtain ⟨o,q⟩:=s;simp only at *;generalize nth o k=z at *;have hsub:∀ w,(callFunc 206 #[.int .u64 z,.int .u64 0,.int .u64 q]).run Tryz.prog w=.ok (.value (.tuple #[.int .u64 (Oe z 0 q),.int .u64 (Pm z 0 q)])) w:=fun w=>Ada z 0 q hcy w
    go_wp2_with (fail)
    go_roundw
    case rel=>exact ⟨k+1,by omega,by go_num,by rw [HST.out];rfl,by rw [HST.out];exact HO.out.stored _ _,HB.out.setCell hg _⟩
    case measure=>simp [intOf];omega
  ·obtain rfl:k=l:=by omega
   have hlim:=HO.out.lim (HSM.out _);have HLM:=hid hlim;clear hlim
   go_wp2_with (go_at_call 82;refine (Jv HLM.out (by rw [HLN.out];omega)).mono ?_;rintro e w' ⟨v',rfl,hv',rfl⟩;have HV':=hid hv';clear hv')
   go_ret;exact ⟨_,rfl,HV'.out,HB.out⟩
theorem Acx {w:World}{v u:Value}{n m:Nat}(hv:Lim w v (Aj n))(hu:Lim w u (Aj m))(hl:(Aj n).length≤100000)(hle:m≤n) :
 Calls Tryz.prog 199 #[v,u] w (RetLim (Aj (n-m)) w):=by
 have:=Ad4 hv hu hl;have hll:(Aj m).length≤(Aj n).length:=by
  by_cases h:(Aj n).length<(Aj m).length
  ·have:=J0 n m h;omega
  ·omega
 rwa [Ah4 _ _ hv.1 hu.1 hll (by rw [Cd,Cd];exact hle),Cd,Cd] at this
theorem Agt (x y:Nat)(hx:x<18446744073709551616)(hy:y<18446744073709551616):x*y≤18446744073709551615*18446744073709551615:=Nat.mul_le_mul (by omega) (by omega)
theorem Aex {w:World}{v u:Value}{xs ys:List Nat}(hv:Lim w v xs)(hu:Lim w u ys)(hl:xs.length≤100000)(hl':ys.length≤100000) :
 Calls Tryz.prog 180 #[v,u] w (RetLim (Aj (val (Ms xs ys (xs.length+ys.length) xs.length))) w):=by
 obtain ⟨hs,A,c,rfl,hc,hA⟩:=hv;obtain ⟨hs',A',c',rfl,hc',hA'⟩:=hu;have HS:=hid hs;have HS':=hid hs';have HA:=hid hA;have HA':=hid hA';clear hA hA' hs hs';generalize hlen:xs.length=l at *;generalize hlen':ys.length=l' at *;have HL:=hid hlen;have HL':=hid hlen';clear hlen hlen';have HSM:=hid (Tm xs ys (l+l') HS.out HS'.out);have HLN:=hid (Mt xs ys (l+l'));obtain ⟨i0,hi,hz0,hz1,hz2⟩:=info_parts Rj;go_enter Tryz.func180,Tryz.ntmps180
 go_wp2_with (at_make;go_must (refine wpList_make_full _ rfl _ _ 26 rfl w.heap.size 55 i0 (.int .u64 0) 1 Tryz.underlying26 hi hz0 hz1 .i64 .i64 _ _ (l+l') rfl rfl (by omega) (by omega) (by rw [hz2];omega) (by unfold maxLen;omega) (by simp) ?_))
 intro w1 hown1 hgrow1;have ho:Hid (Own w1 w.heap.size (.slice (some ⟨w.heap.size,0,none⟩) (l+l') (l+l')) (Ms xs ys (l+l') 0)):=My hown1;have hk:Hid (Below w.heap.size w w1):=Below.grown (Below.refl _ _) hgrow1 (by simp) (by intro k hk;cases hk);clear hown1 hgrow1;go_wp2_with fail;generalize hBase:w.heap.size=B at *;have HBASE:=hid hBase;clear hBase
 go_loopw [22] (fun t wr=>∃ k:Nat,k≤l∧t=.int .i64 k∧Own wr B (.slice (some ⟨B,0,none⟩) (l+l') (l+l')) (Ms xs ys (l+l') k)∧Below B w wr) (fun t _=>(l-intOf t).toNat)
 case atStart=>exact ⟨0,Nat.zero_le _,rfl,ho.out,hk.out⟩
 case round =>
  obtain ⟨k,hkl,rfl,hO,hB⟩:=hrel;have HO:=hid hO;have HB:=hid hB;clear hO hB;by_cases hlt:k<l
  ·obtain ⟨b,off,rfl,hb,hcell⟩:=HA.out (by omega);have hck:=(HB.out.cell (p:=⟨b,off+k,none⟩) hb).trans (hcell k hlt);clear hcell;have hxk:=Bn HS.out k;have HST:=hid (Np xs ys (l+l') k);have HSMK:=hid (HSM.out k);have HLNK:=hid (HLN.out k);generalize Ms xs ys (l+l') k=out at *;generalize nth xs k=x at *;have HRS:=hid (Lx out k x ys HSMK.out);have HRC:=hid (O6 out k x ys HSMK.out HS'.out hxk);have HRL:=hid (fun j=>(G6 out k x ys j).trans HLNK.out);go_wp2_with fail;obtain ⟨wo,rfl⟩:∃ wo:World,wo=wr:=⟨_,rfl⟩
   go_loopw [8,29] (fun cy t wr=>∃ j:Nat,j≤l'∧t=.int .i64 j∧cy=.int .u64 (Iy out k x ys j).2∧Own wr B (.slice (some ⟨B,0,none⟩) (l+l') (l+l')) (Iy out k x ys j).1∧Below B w wr) (fun _ t _=>(l'-intOf t).toNat)
   case atStart=>exact ⟨0,Nat.zero_le _,rfl,rfl,HO.out,HB.out⟩
   case round =>
    obtain ⟨j,hjl,rfl,rfl,hO,hB⟩:=hrel;clear HO HB hck;have HO:=hid hO;have HB:=hid hB;clear hO hB;by_cases hjt:j<l'
    ·obtain ⟨b',off',rfl,hb',hcell⟩:=HA'.out (by omega);have hck:=(HB.out.cell (p:=⟨b',off'+j,none⟩) hb').trans (hcell j hjt);clear hcell;have hyj:=Bn HS'.out j;have ho1:=HO.out.cell (k+j) (by rw [HRL.out];omega);have hf1:=HO.out.frozen (k+j);have hz:=Bn (HRS.out j) (k+j);have hcy:=HRC.out j;have HSJ:=hid (Ji out k x ys j);generalize nth ys j=y at *;generalize Iy out k x ys j=s at *;obtain ⟨o,q⟩:=s;simp only at *;generalize nth o (k+j)=z at *;have HM:=hid (fun w=>Agr x y hxk hyj w);have hadd1:∀ w,(callFunc 201 #[.int .u64 (Er x y),.int .u64 q,.int .u64 0]).run Tryz.prog w=.ok (.value (.tuple #[.int .u64 (De (Er x y) q 0),.int .u64 (Dj (Er x y) q 0)])) w:=fun w=>Pc _ _ 0 (by omega) w
     have hadd2:∀ w,(callFunc 201 #[.int .u64 z,.int .u64 (De (Er x y) q 0),.int .u64 0]).run Tryz.prog w=.ok (.value (.tuple #[.int .u64 (De z (De (Er x y) q 0) 0),.int .u64 (Dj z (De (Er x y) q 0) 0)])) w:=fun w=>Pc _ _ 0 (by omega) w
     have st:=Agu (x*y) q z;have sb:=Nr x y q z hxk hyj hcy hz;have s1:De z (De (Er x y) q 0) 0=(x*y+q+z)%18446744073709551616:=by rw [←st.1];rfl
     have s2:Od x y+Dj (Er x y) q 0+Dj z (De (Er x y) q 0) 0=(x*y+q+z)/18446744073709551616:=by rw [←st.2];rfl
     have b1:Od x y+Dj (Er x y) q 0+Dj z (De (Er x y) q 0) 0≤18446744073709551615:=by rw [s2];omega
     have S1:=hid s1;have S2:=hid s2;clear st sb s1 s2;generalize Od x y=h1 at *;generalize Er x y=l1 at *;generalize De l1 q 0=l2 at *;generalize Dj l1 q 0=c2 at *;generalize Dj z l2 0=c3 at *;generalize De z l2 0=z' at *
     go_wp2_with (go_at_call 200;refine (HM.out _).mono ?_;rintro e w' ⟨rfl,rfl⟩)
     go_roundw
     case rel =>
      refine ⟨j+1,by omega,by go_num,?_,?_,HB.out.setCell (Nat.le_refl _) _⟩
      ·rw [HSJ.out,←S2.out];simp
      ·rw [HSJ.out,←S1.out];exact HO.out.stored _ _
     case measure=>simp [intOf];omega
    ·obtain rfl:j=l':=by omega
     have ho1:=HO.out.cell (k+j) (by rw [HRL.out];omega);have hf1:=HO.out.frozen (k+j);rw [HL'.out] at HST;generalize Iy out k x ys j=s at *;obtain ⟨o,q⟩:=s;simp only at *;go_wp2_with fail;go_roundw
     case rel =>
      refine ⟨k+1,by omega,by go_num,?_,HB.out.setCell (Nat.le_refl _) _⟩;rw [HST.out];exact HO.out.stored _ _
     case measure=>simp [intOf];omega
  ·obtain rfl:k=l:=by omega
   have hlim:=HO.out.lim (HSM.out _);have HLM:=hid hlim;clear hlim
   go_wp2_with (go_at_call 82;refine (Jv HLM.out (by rw [HLN.out];omega)).mono ?_;rintro e w' ⟨v',rfl,hv',rfl⟩;have HV':=hid hv';clear hv')
   go_ret;refine ⟨_,rfl,HV'.out,?_⟩;rw [Kept,HBASE.out];exact HB.out
theorem Add {w:World}{v u:Value}{n m:Nat}(hv:Lim w v (Aj n))(hu:Lim w u (Aj m))(hl:(Aj n).length≤100000)(hl':(Aj m).length≤100000) :
 Calls Tryz.prog 180 #[v,u] w (RetLim (Aj (n*m)) w):=by
 have:=Aex hv hu hl hl';rwa [Ags _ _ hv.1 hu.1,Cd,Cd] at this
theorem Ag6 (xs:List Nat)(q i:Nat):nth (xs.drop q) i=nth xs (q+i):=by
 unfold nth;rw [List.getD_eq_getElem?_getD,List.getD_eq_getElem?_getD,List.getElem?_drop]
theorem Aeh {w:World}{v:Value}{xs:List Nat}(hv:Lim w v xs)(n:Nat)(hl:xs.length≤100000)(hn:n≤6400000)(hq:n/64<xs.length) :
 Calls Tryz.prog 117 #[v,.int .i64 n] w (RetLim (Aj (val (D8 (xs.drop (n/64)) (n%64) (xs.drop (n/64)).length))) w):=by
 obtain ⟨hs,A,c,rfl,hc,hA⟩:=hv;obtain ⟨b,off,rfl,hb,hcell⟩:=hA (by omega);have hcell':∀ i,i<(xs.drop (n/64)).length→w.cell? ⟨b,off+n/64+i,none⟩=some (.int .u64 (nth (xs.drop (n/64)) i)):=by
  intro i hi;rw [List.length_drop] at hi;rw [Ag6,Nat.add_assoc];exact hcell _ (by omega)
 have hs':Small (xs.drop (n/64)):=L3 hs _;have hlen':=List.length_drop (i:=n/64) (l:=xs);generalize hlen:xs.length=l at *;generalize xs.drop (n/64)=ys at *;have HS:=hid hs';have HC:=hid hcell';have HL:=hid hlen';have HLN:=hid (Ib ys (n%64));have HSM:=hid (Py ys hs' (n%64) (Nat.mod_lt _ (by decide)));clear hlen hcell hcell' hA hs hs' hlen';obtain ⟨i0,hi,hz0,hz1,hz2⟩:=info_parts Rj;have hqc:n/64<c:=by omega
 generalize hq':n/64=q at *;have HQ:=hid hq';clear hq';obtain ⟨m,rfl⟩:∃ m,l=q+m:=⟨l-q,by omega⟩;have hm:ys.length=m:=by rw [HL.out];omega
 have HM:=hid hm;rw [hm] at HC ⊢;clear hm HL;have dq:decide (((q+m:Nat):Int)≤(n:Int)/64)=false:=by have:=HQ.out;simp;omega
 have e1:(n:Int)/64=(q:Int):=by have:=HQ.out;omega
 go_enter Tryz.func117,Tryz.ntmps117
 go_wp2_with (at_make;go_must (refine wpList_make_full _ rfl _ _ 26 rfl w.heap.size 55 i0 (.int .u64 0) 1 Tryz.underlying26 hi hz0 hz1 .i64 .i64 _ _ m rfl rfl (by omega) (by omega) (by rw [hz2];omega) (by unfold maxLen;omega) (by simp) ?_))
 intro w1 hown1 hgrow1;have ho:Hid (Own w1 w.heap.size (.slice (some ⟨w.heap.size,0,none⟩) m m) (List.replicate m 0)):=My hown1;have hk:Hid (Below w.heap.size w w1):=Below.grown (Below.refl _ _) hgrow1 (by simp) (by intro k hk;cases hk);clear hown1 hgrow1;go_wp2_with fail;generalize hBase:w.heap.size=B at *;have HBASE:=hid hBase;clear hBase
 go_loopw [22] (fun t wr=>∃ k:Nat,k≤m∧t=.int .i64 k∧Own wr B (.slice (some ⟨B,0,none⟩) m m) (D8 ys (n%64) k)∧Below B w wr) (fun t _=>(m-intOf t).toNat)
 case atStart=>exact ⟨0,Nat.zero_le _,rfl,by rw [D8,HM.out];exact ho.out,hk.out⟩
 case round =>
  obtain ⟨k,hkl,rfl,hO,hB⟩:=hrel;have HO:=hid hO;have HB:=hid hB;clear hO hB;by_cases hlt:k<m
  ·have hck:=(HB.out.cell (p:=⟨b,off+q+k,none⟩) hb).trans (HC.out k hlt);have ho1:=HO.out.cell k (by rw [HLN.out,HM.out];omega);have hf1:=HO.out.frozen k;have hxk:=Bn HS.out k;have hyk:=Bn HS.out (k+1);by_cases hl1:k+1<m
   ·have hck2:=(HB.out.cell (p:=⟨b,off+q+(k+1),none⟩) hb).trans (HC.out (k+1) hl1);have HST:Hid (D8 ys (n%64) (k+1)=(D8 ys (n%64) k).set k ((nth ys k/2^(n%64)) ||| (nth ys (k+1)*2%18446744073709551616*2^(63-n%64)%18446744073709551616))):=by
     show (D8 ys (n%64) k).set k (Jt ys (n%64) k)=_
     unfold Jt;rw [if_pos (by rw [HM.out];exact hl1)]
    generalize D8 ys (n%64) k=o at *;generalize nth ys k=x at *;generalize nth ys (k+1)=y at *;generalize nth o k=z at *;go_wp2_with fail;go_region;go_wp2_with fail;go_roundw
    case rel =>
     refine ⟨k+1,by omega,by go_num,?_,((HB.out.setCell (Nat.le_refl _) _).setCell (Nat.le_refl _) _).drew⟩;have hx2:x/2^(n%64)<18446744073709551616:=Nat.lt_of_le_of_lt (Nat.div_le_self _ _) hxk;rw [Sf,show (2:Int)=2^1 from rfl,Nz,Int.pow_succ,Int.pow_zero,Int.one_mul,Nz,Xm _ _ hx2 (Nat.mod_lt _ (by decide)),HST.out];have h1:=(HO.out.stored k (x/2^(n%64))).stored k (x/2^(n%64) ||| y*2^1%18446744073709551616*2^(63-n%64)%18446744073709551616);rw [List.set_set] at h1;exact h1
    case measure=>simp [intOf];omega
   ·have HST:Hid (D8 ys (n%64) (k+1)=(D8 ys (n%64) k).set k (nth ys k/2^(n%64))):=by
     show (D8 ys (n%64) k).set k (Jt ys (n%64) k)=_
     unfold Jt;rw [if_neg (by rw [HM.out];exact hl1)]
    generalize D8 ys (n%64) k=o at *;generalize nth ys k=x at *;generalize nth o k=z at *;go_wp2_with fail;go_roundw
    case rel =>
     refine ⟨k+1,by omega,by go_num,?_,HB.out.setCell (Nat.le_refl _) _⟩;rw [Sf,HST.out];exact HO.out.stored _ _
    case measure=>simp [intOf];omega
  ·obtain rfl:k=m:=by omega
   have hlim:=HO.out.lim (HSM.out _);have HLM:=hid hlim;clear hlim
   go_wp2_with (go_at_call 82;refine (Jv HLM.out (by rw [HLN.out,HM.out];omega)).mono ?_;rintro e w' ⟨v',rfl,hv',rfl⟩;have HV':=hid hv';clear hv')
   go_ret;refine ⟨_,rfl,HV'.out,?_⟩;rw [Kept,HBASE.out];exact HB.out
theorem Sd {w:World}{v:Value}{m:Nat}(hv:Lim w v (Aj m))(n:Nat)(hl:(Aj m).length≤100000)(hn:n≤6400000) :
 Calls Tryz.prog 117 #[v,.int .i64 n] w (RetLim (Aj (m/2^n)) w):=by
 by_cases hq:n/64<(Aj m).length
 ·have:=Aeh hv n hl hn hq;rwa [Aeg _ hv.1,Cd] at this
 ·have h0:m/2^n=0:=by
   apply Nat.div_eq_of_lt;have a:=Cs m;have b:18446744073709551616^(Aj m).length≤18446744073709551616^(n/64):=Nat.pow_le_pow_right (by decide) (by omega);have c:18446744073709551616^(n/64)≤2^n:=by
    rw [Kf n];exact Nat.le_mul_of_pos_left _ (Nat.pow_pos (by decide))
   omega
  rw [h0,Ay];obtain ⟨hs,A,c,rfl,hc,hA⟩:=hv;clear hs hA hc h0;refine Calls.mono (R:=fun e w'=>e=.returned (.slice none 0 0)∧w=w') ?_ (fun e w' ⟨he,hw⟩=>by subst hw;exact ⟨_,he,Lim.nil _ _ _,Below.refl _ _⟩);generalize (Aj m).length=l at *;have dq:decide ((l:Int)≤(n:Int)/64)=true:=by simp;omega
  go_enter Tryz.func117,Tryz.ntmps117;go_wp2_with fail;go_ret;exact ⟨rfl,rfl⟩
theorem D9 (u d Y q:Nat)(hY:Y<18446744073709551616)(h0:0<Y)(hq:q=(u*4294967296+d)/Y) :
 IntKind.u64.wrap (IntKind.u64.wrap (IntKind.u64.wrap ((u:Int)*4294967296)+(d:Int))-IntKind.u64.wrap ((q:Int)*(Y:Int)))=(((u*4294967296+d)%Y:Nat):Int):=by
 have:=Adw u d Y q hY h0 hq;rw [←this];simp only [IntKind.wrap_u64];omega
def Aik (u d1 d0 Y s:Nat) (w:World) (e:Ending) (w':World):Prop:=∃ q1 q2 v t:Nat,e=.returned (.tuple #[.int .u64 ((q1*4294967296+q2:Nat):Int),.int .u64 ((t/2^s:Nat):Int)]) ∧
 q1=(u*4294967296+d1)/Y∧(u*4294967296+d1)%Y=v∧q2=(v*4294967296+d0)/Y∧(v*4294967296+d0)%Y=t∧∃ n,w'=w.drewN n
theorem Acd (hi lo y:Nat)(hy:y<18446744073709551616)(hlo:lo<18446744073709551616)(hlt:hi<y)(w:World) :
 Calls Tryz.prog 205 #[.int .u64 hi,.int .u64 lo,.int .u64 y] w (RetQ (.tuple #[.int .u64 ((hi*18446744073709551616+lo)/y:Nat),.int .u64 ((hi*18446744073709551616+lo)%y:Nat)]) w):=by
 by_cases h0:hi=0
 ·subst h0;have e1:(((y:Nat):Int)==0)=false:=by rw [beq_eq_false_iff_ne];omega
  have e2:¬y=0:=by omega
  rw [Nat.zero_mul,Nat.zero_add];go_enter Tryz.func205,Tryz.ntmps205;go_wp2_with fail
  go_quiet (fail)
  go_wp2;have ew:IntKind.u64.wrap ((lo:Int)/(y:Int))=((lo/y:Nat):Int):=by
   rw [←Int.natCast_ediv,IntKind.wrap_u64];have:=Nat.div_le_self lo y;generalize lo/y=z at *;omega
  refine bodyPost_ret (v:=.tuple #[.int .u64 ((lo/y:Nat):Int),.int .u64 ((lo%y:Nat):Int)]) (by simp [results,Tryz.results205,go_sem,ew]) rfl ⟨rfl,_,rfl⟩
 ·have e1:(((y:Nat):Int)==0)=false:=by rw [beq_eq_false_iff_ne];omega
  have e2:(((hi:Nat):Int)==0)=false:=by rw [beq_eq_false_iff_ne];omega
  have hb1:=Bd y;have hb2:=Dl y (by omega);have hb3:=Pf y hy;have hb4:=Co y (by omega);obtain ⟨s,hs⟩:∃ s,s+bl y=64:=⟨64-bl y,by omega⟩;have HB:=hid hs;have hlz:∀ w,Calls Tryz.prog 160 #[.int .u64 y] w fun e w'=>e=.returned (.int .i64 s)∧w=w':=by
   intro w;have:=Amo y w hy;rwa [show ((64:Int)-(bl y:Int))=(s:Int) by omega] at this
  have HLZ:=hid hlz;clear hlz hs;have hs64:s<64:=by have:=HB.out;omega
  have hY:y*2^s<18446744073709551616:=by
   have:=Nat.mul_lt_mul_of_pos_right hb1 (Nat.pow_pos (n:=s) (show 0<2 by decide));rw [←Nat.pow_add,show bl y+s=64 by have:=HB.out;omega] at this;exact this
  have hY2:9223372036854775808≤y*2^s:=by
   have:=Nat.mul_le_mul_right (2^s) hb2;rw [←Nat.pow_add,show bl y-1+s=63 by have:=HB.out;omega] at this;exact this
  clear hb1 hb2 hb3 hb4;obtain ⟨sh1,sh2,sh3,sh4⟩:=Aen hi lo y s hs64 hlo hlt;have hfin1:(hi*18446744073709551616+lo)/y=((hi*18446744073709551616+lo)*2^s)/(y*2^s):=(Nat.mul_div_mul_right _ _ (Nat.pow_pos (by decide))).symm;have hfin2:(hi*18446744073709551616+lo)%y=((hi*18446744073709551616+lo)*2^s)%(y*2^s)/2^s:=by
   rw [Nat.mul_mod_mul_right,Nat.mul_div_cancel _ (Nat.pow_pos (by decide))]
  rw [hfin1,hfin2,sh1];have eY:IntKind.u64.wrap ((y:Int)*2^s)=((y*2^s:Nat):Int):=by rw [Nz,Nat.mod_eq_of_lt hY]
  have eU:bits .or .u64 (IntKind.u64.wrap ((hi:Int)*2^s)) ((lo:Int)/2^(64-s))=((hi*2^s+lo/2^(64-s):Nat):Int):=by
   have a:hi*2^s<18446744073709551616:=by omega
   rw [Nz,Nat.mod_eq_of_lt a,Sf,Xm _ _ a (by omega),Nat.mul_comm hi,←Nat.two_pow_add_eq_or_of_lt sh3]
  have eL:IntKind.u64.wrap ((lo:Int)*2^s)=((lo*2^s%18446744073709551616:Nat):Int):=Nz lo s;have hL:lo*2^s%18446744073709551616<18446744073709551616:=Nat.mod_lt _ (by decide);clear sh1 sh3 sh4 hfin1 hfin2;generalize y*2^s=Y at *;generalize hi*2^s+lo/2^(64-s)=u at *;generalize lo*2^s%18446744073709551616=L at *;have eY1:(Y:Int)/4294967296=((Y/4294967296:Nat):Int):=by omega
  have hyn1:2147483648≤Y/4294967296:=by omega
  have hyn1':Y/4294967296<4294967296:=by omega
  have eY0:bits .and .u64 (Y:Int) 4294967295=((Y%4294967296:Nat):Int):=Mul64.maskN Y hY;have hyn0:Y%4294967296<4294967296:=by omega
  have HYY:Hid (Y/4294967296*4294967296+Y%4294967296=Y):=by show _=_;omega
  generalize Y/4294967296=yn1 at *;generalize Y%4294967296=yn0 at *;have eL1:(L:Int)/4294967296=((L/4294967296:Nat):Int):=by omega
  have eL0:bits .and .u64 (L:Int) 4294967295=((L%4294967296:Nat):Int):=Mul64.maskN L hL;have hd1:L/4294967296<4294967296:=by omega
  have hd0:L%4294967296<4294967296:=by omega
  have eN:u*18446744073709551616+L=(u*4294967296+L/4294967296)*4294967296+L%4294967296:=by omega
  rw [eN];clear eN;generalize L/4294967296=d1 at *;generalize L%4294967296=d0 at *;have hTH:=Ab4 ((u*4294967296+d1)*4294967296+d0) Y d0 (u*4294967296+d1) (by omega) rfl hd0;refine Calls.mono (R:=Aik u d1 d0 Y s w) ?_ (fun e w' ⟨q1,q2,v,t,he,h1,h2,h3,h4,hw⟩=>⟨by rw [he,hTH.1,hTH.2,h2,←h1,←h3,h4],hw⟩);clear hTH;have hS:=Lj u d1 yn1 yn0 hd1 (by omega);have hqn:u/yn1*yn1≤u:=Nat.div_mul_le_self _ _;have hqb:u/yn1≤8589934592:=by
   rw [Nat.div_le_iff_le_mul_add_pred (by omega)];have:2147483648*8589934592≤yn1*8589934592:=Nat.mul_le_mul_right _ hyn1;omega
  have hr0:u%yn1<yn1:=Nat.mod_lt _ (by omega);have eq0:(u:Int)/(yn1:Int)=((u/yn1:Nat):Int):=rfl;generalize u/yn1=q0 at *;generalize u%yn1=r0 at *;have hp0:(0:Int)≤(q0:Int)*(yn1:Int):=by rw [←Int.natCast_mul];omega
  have hp1:(q0:Int)*(yn1:Int)≤(u:Int):=by rw [←Int.natCast_mul];omega
  have er0:(u:Int)-(q0:Int)*(yn1:Int)=(r0:Int):=by
   have:=hS.sum;rw [←Int.natCast_mul];omega
  have HS:=hid hS;have HU:Hid (u<yn1*4294967296+yn0):=by show _<_;rw [HYY.out];exact sh2
  clear hS;go_enter Tryz.func205,Tryz.ntmps205
  go_wp2_with (go_at_call 160;refine (HLZ.out _).mono ?_;rintro e w' ⟨rfl,rfl⟩)
  go_loop [15,16] (fun a b=>∃ q r:Nat,a=.int .u64 q∧b=.int .u64 r∧F6 u d1 yn1 yn0 q r∧r<4294967296∧q≤8589934592) (fun a _=>(intOf a).toNat)
  case atStart=>exact ⟨_,_,rfl,rfl,HS.out,by omega,hqb⟩
  case round =>
   obtain ⟨q,r,rfl,rfl,hI,hr,hq⟩:=hrel;have HI:=hid hI;clear hI HS hqn hqb eq0 hr0 hp0 hp1 er0 eU eY eY1 eY0 eL eL1 eL0;have hp2:(0:Int)≤(q:Int)*(yn0:Int):=by rw [←Int.natCast_mul];omega
   by_cases hA:4294967296≤q
   ·have hA':decide ((4294967296:Int)≤(q:Int))=true:=decide_eq_true (by omega);have hl:=Gy HI.out HU.out hd1 (by omega) (Or.inl hA);obtain ⟨hq1,hI'⟩:=hl;have HI':=hid hI';clear hA;clear hI';obtain ⟨r1,hr1⟩:∃ r1,r+yn1=r1:=⟨_,rfl⟩;obtain ⟨qq,hqe⟩:∃ qq,q-1=qq:=⟨_,rfl⟩;rw [hr1,hqe] at HI';have hri:(r:Int)+(yn1:Int)=(r1:Int):=by omega
    have hqi:(q:Int)-1=(qq:Int):=by omega
    have hqm:qq<q:=by omega
    clear hr1 hqe;by_cases hbr:r1<4294967296
    ·have hbr':decide ((4294967296:Int)≤(r1:Int))=false:=decide_eq_false (by omega);have HBR:=hid hbr;clear hbr;go_wp2_with fail
     go_round
     case rel=>exact ⟨qq,r1,rfl,rfl,HI'.out,HBR.out,by omega⟩
     case measure=>simp [intOf];omega
    ·have hqq:=Fx HI'.out HU.out hyn0 (by omega) (by omega);rw [HYY.out] at hqq;have HQ:=hid hqq;have hbr':decide ((4294967296:Int)≤(r1:Int))=true:=decide_eq_true (by omega);clear hqq hbr;have eR1:=D9 u d1 Y qq hY (by omega) HQ.out;have hq1b:=Dq u d1 Y sh2 hd1;have hv:(u*4294967296+d1)%Y<Y:=Nat.mod_lt _ (by omega);rw [←HQ.out] at hq1b;obtain ⟨v,hve⟩:∃ v,(u*4294967296+d1)%Y=v:=⟨_,rfl⟩;rw [hve] at eR1 hv;have HV:=hid hve;obtain ⟨q1,rfl⟩:∃ x,x=qq:=⟨qq,rfl⟩;have HQ1:=HQ;clear hve HQ;have HU2:Hid (v<yn1*4294967296+yn0):=by show _<_;rw [HYY.out];exact hv
     have hS:=Lj v d0 yn1 yn0 hd0 (by omega);have hqn:v/yn1*yn1≤v:=Nat.div_mul_le_self _ _;have hqb:v/yn1≤8589934592:=by
      rw [Nat.div_le_iff_le_mul_add_pred (by omega)];have:2147483648*8589934592≤yn1*8589934592:=Nat.mul_le_mul_right _ hyn1;omega
     have hr0:v%yn1<yn1:=Nat.mod_lt _ (by omega);have eq0:(v:Int)/(yn1:Int)=((v/yn1:Nat):Int):=rfl;generalize v/yn1=q0 at *;generalize v%yn1=r0 at *;have hp0:(0:Int)≤(q0:Int)*(yn1:Int):=by rw [←Int.natCast_mul];omega
     have hp1:(q0:Int)*(yn1:Int)≤(v:Int):=by rw [←Int.natCast_mul];omega
     have er0:(v:Int)-(q0:Int)*(yn1:Int)=(r0:Int):=by
      have:=hS.sum;rw [←Int.natCast_mul];omega
     have HS:=hid hS;clear hS HU;have HU:=HU2;go_wp2_with fail
     go_loop [18,16] (fun a b=>∃ q r:Nat,a=.int .u64 q∧b=.int .u64 r∧F6 v d0 yn1 yn0 q r∧r<4294967296∧q≤8589934592) (fun a _=>(intOf a).toNat)
     case atStart=>exact ⟨_,_,rfl,rfl,HS.out,by omega,hqb⟩
     case round =>
      obtain ⟨q,r,rfl,rfl,hI,hr,hq⟩:=hrel;have HI:=hid hI;clear hI HS hqn hqb eq0 hr0 hp0 hp1 er0 ;have hp2:(0:Int)≤(q:Int)*(yn0:Int):=by rw [←Int.natCast_mul];omega
      by_cases hA:4294967296≤q
      ·have hA':decide ((4294967296:Int)≤(q:Int))=true:=decide_eq_true (by omega);have hl:=Gy HI.out HU.out hd0 (by omega) (Or.inl hA);obtain ⟨hq1,hI'⟩:=hl;have HI':=hid hI';clear hA;clear hI';obtain ⟨r1,hr1⟩:∃ r1,r+yn1=r1:=⟨_,rfl⟩;obtain ⟨qq,hqe⟩:∃ qq,q-1=qq:=⟨_,rfl⟩;rw [hr1,hqe] at HI';have hri:(r:Int)+(yn1:Int)=(r1:Int):=by omega
       have hqi:(q:Int)-1=(qq:Int):=by omega
       have hqm:qq<q:=by omega
       clear hr1 hqe;by_cases hbr:r1<4294967296
       ·have hbr':decide ((4294967296:Int)≤(r1:Int))=false:=decide_eq_false (by omega);have HBR:=hid hbr;clear hbr;go_wp2_with fail
        go_round
        case rel=>exact ⟨qq,r1,rfl,rfl,HI'.out,HBR.out,by omega⟩
        case measure=>simp [intOf];omega
       ·have hqq:=Fx HI'.out HU.out hyn0 (by omega) (by omega);rw [HYY.out] at hqq;have HQ:=hid hqq;have hbr':decide ((4294967296:Int)≤(r1:Int))=true:=decide_eq_true (by omega);clear hqq hbr;have eR2:=D9 v d0 Y qq hY (by omega) HQ.out;have hqq2:=Dq v d0 Y hv hd0;rw [←HQ.out] at hqq2;obtain ⟨t,ht⟩:∃ t,(v*4294967296+d0)%Y=t:=⟨_,rfl⟩;rw [ht] at eR2;have HT:=hid ht;clear ht;go_wp2_with fail;refine bodyPost_ret (v:=.tuple #[.int .u64 ((q1*4294967296+qq:Nat):Int),.int .u64 ((t/2^s:Nat):Int)]) (by simp [results,Tryz.results205,go_sem]) rfl ⟨q1,qq,v,t,rfl,HQ1.out,HV.out,HQ.out,HT.out,0,rfl⟩
      ·have hp3:q*yn0≤4294967296*4294967295:=Nat.mul_le_mul (by omega) (by omega);have hA':decide ((4294967296:Int)≤(q:Int))=false:=decide_eq_false (by omega);have hm1:(q:Int)*(yn0:Int)=((q*yn0:Nat):Int):=(Int.natCast_mul _ _).symm;have hm2:(4294967296:Int)*(r:Int)=((4294967296*r:Nat):Int):=by omega
       have hm3:((4294967296*r:Nat):Int)+(d0:Int)=((4294967296*r+d0:Nat):Int):=by omega
       have hm4:4294967296*r+d0<18446744073709551616:=by omega
       have hm5:4294967296*r<18446744073709551616:=by omega
       have HM:Hid (4294967296*r+d0<q*yn0∨q*yn0≤4294967296*r+d0):=Nat.lt_or_ge _ _;have HF1:Hid (4294967296*r+d0<q*yn0→1≤q∧F6 v d0 yn1 yn0 (q-1) (r+yn1)):=fun hB=>Gy HI.out HU.out hd0 (by omega) (Or.inr hB)
       have HF2:Hid (q*yn0≤4294967296*r+d0→q=(v*4294967296+d0)/(yn1*4294967296+yn0)):=fun hB=>Kk HI.out (by omega) hB
       clear hp2 hA;generalize 4294967296*r+d0=z at *;generalize 4294967296*r=zr at *;generalize q*yn0=pq at *;by_cases hB:z<pq
       ·have hl:=HF1.out hB;have hB':decide (z<pq)=true:=decide_eq_true hB;obtain ⟨hq1,hI'⟩:=hl;have HI':=hid hI'
        skip
        clear hI';obtain ⟨r1,hr1⟩:∃ r1,r+yn1=r1:=⟨_,rfl⟩;obtain ⟨qq,hqe⟩:∃ qq,q-1=qq:=⟨_,rfl⟩;rw [hr1,hqe] at HI';have hri:(r:Int)+(yn1:Int)=(r1:Int):=by omega
        have hqi:(q:Int)-1=(qq:Int):=by omega
        have hqm:qq<q:=by omega
        clear hr1 hqe;by_cases hbr:r1<4294967296
        ·have hbr':decide ((4294967296:Int)≤(r1:Int))=false:=decide_eq_false (by omega);have HBR:=hid hbr;clear hbr;go_wp2_with fail
         go_round
         case rel=>exact ⟨qq,r1,rfl,rfl,HI'.out,HBR.out,by omega⟩
         case measure=>simp [intOf];omega
        ·have hqq:=Fx HI'.out HU.out hyn0 (by omega) (by omega);rw [HYY.out] at hqq;have HQ:=hid hqq;have hbr':decide ((4294967296:Int)≤(r1:Int))=true:=decide_eq_true (by omega);clear hqq hbr;have eR2:=D9 v d0 Y qq hY (by omega) HQ.out;have hqq2:=Dq v d0 Y hv hd0;rw [←HQ.out] at hqq2;obtain ⟨t,ht⟩:∃ t,(v*4294967296+d0)%Y=t:=⟨_,rfl⟩;rw [ht] at eR2;have HT:=hid ht;clear ht;go_wp2_with fail;refine bodyPost_ret (v:=.tuple #[.int .u64 ((q1*4294967296+qq:Nat):Int),.int .u64 ((t/2^s:Nat):Int)]) (by simp [results,Tryz.results205,go_sem]) rfl ⟨q1,qq,v,t,rfl,HQ1.out,HV.out,HQ.out,HT.out,0,rfl⟩
       ·have hB':decide (z<pq)=false:=decide_eq_false hB;have hqq:=HF2.out (by omega);rw [HYY.out] at hqq;have HQ:=hid hqq;clear hqq;obtain ⟨qq,rfl⟩:∃ x,x=q:=⟨q,rfl⟩;have eR2:=D9 v d0 Y qq hY (by omega) HQ.out;have hqq2:=Dq v d0 Y hv hd0;rw [←HQ.out] at hqq2;obtain ⟨t,ht⟩:∃ t,(v*4294967296+d0)%Y=t:=⟨_,rfl⟩;rw [ht] at eR2;have HT:=hid ht;clear ht;go_wp2_with fail;refine bodyPost_ret (v:=.tuple #[.int .u64 ((q1*4294967296+qq:Nat):Int),.int .u64 ((t/2^s:Nat):Int)]) (by simp [results,Tryz.results205,go_sem]) rfl ⟨q1,qq,v,t,rfl,HQ1.out,HV.out,HQ.out,HT.out,0,rfl⟩
   ·have hp3:q*yn0≤4294967296*4294967295:=Nat.mul_le_mul (by omega) (by omega);have hA':decide ((4294967296:Int)≤(q:Int))=false:=decide_eq_false (by omega);have hm1:(q:Int)*(yn0:Int)=((q*yn0:Nat):Int):=(Int.natCast_mul _ _).symm;have hm2:(4294967296:Int)*(r:Int)=((4294967296*r:Nat):Int):=by omega
    have hm3:((4294967296*r:Nat):Int)+(d1:Int)=((4294967296*r+d1:Nat):Int):=by omega
    have hm4:4294967296*r+d1<18446744073709551616:=by omega
    have hm5:4294967296*r<18446744073709551616:=by omega
    have HM:Hid (4294967296*r+d1<q*yn0∨q*yn0≤4294967296*r+d1):=Nat.lt_or_ge _ _;have HF1:Hid (4294967296*r+d1<q*yn0→1≤q∧F6 u d1 yn1 yn0 (q-1) (r+yn1)):=fun hB=>Gy HI.out HU.out hd1 (by omega) (Or.inr hB)
    have HF2:Hid (q*yn0≤4294967296*r+d1→q=(u*4294967296+d1)/(yn1*4294967296+yn0)):=fun hB=>Kk HI.out (by omega) hB
    clear hp2 hA;generalize 4294967296*r+d1=z at *;generalize 4294967296*r=zr at *;generalize q*yn0=pq at *;by_cases hB:z<pq
    ·have hl:=HF1.out hB;have hB':decide (z<pq)=true:=decide_eq_true hB;obtain ⟨hq1,hI'⟩:=hl;have HI':=hid hI'
     skip
     clear hI';obtain ⟨r1,hr1⟩:∃ r1,r+yn1=r1:=⟨_,rfl⟩;obtain ⟨qq,hqe⟩:∃ qq,q-1=qq:=⟨_,rfl⟩;rw [hr1,hqe] at HI';have hri:(r:Int)+(yn1:Int)=(r1:Int):=by omega
     have hqi:(q:Int)-1=(qq:Int):=by omega
     have hqm:qq<q:=by omega
     clear hr1 hqe;by_cases hbr:r1<4294967296
     ·have hbr':decide ((4294967296:Int)≤(r1:Int))=false:=decide_eq_false (by omega);have HBR:=hid hbr;clear hbr;go_wp2_with fail
      go_round
      case rel=>exact ⟨qq,r1,rfl,rfl,HI'.out,HBR.out,by omega⟩
      case measure=>simp [intOf];omega
     ·have hqq:=Fx HI'.out HU.out hyn0 (by omega) (by omega);rw [HYY.out] at hqq;have HQ:=hid hqq;have hbr':decide ((4294967296:Int)≤(r1:Int))=true:=decide_eq_true (by omega);clear hqq hbr;have eR1:=D9 u d1 Y qq hY (by omega) HQ.out;have hq1b:=Dq u d1 Y sh2 hd1;have hv:(u*4294967296+d1)%Y<Y:=Nat.mod_lt _ (by omega);rw [←HQ.out] at hq1b;obtain ⟨v,hve⟩:∃ v,(u*4294967296+d1)%Y=v:=⟨_,rfl⟩;rw [hve] at eR1 hv;have HV:=hid hve;obtain ⟨q1,rfl⟩:∃ x,x=qq:=⟨qq,rfl⟩;have HQ1:=HQ;clear hve HQ;have HU2:Hid (v<yn1*4294967296+yn0):=by show _<_;rw [HYY.out];exact hv
      have hS:=Lj v d0 yn1 yn0 hd0 (by omega);have hqn:v/yn1*yn1≤v:=Nat.div_mul_le_self _ _;have hqb:v/yn1≤8589934592:=by
       rw [Nat.div_le_iff_le_mul_add_pred (by omega)];have:2147483648*8589934592≤yn1*8589934592:=Nat.mul_le_mul_right _ hyn1;omega
      have hr0:v%yn1<yn1:=Nat.mod_lt _ (by omega);have eq0:(v:Int)/(yn1:Int)=((v/yn1:Nat):Int):=rfl;generalize v/yn1=q0 at *;generalize v%yn1=r0 at *;have hp0:(0:Int)≤(q0:Int)*(yn1:Int):=by rw [←Int.natCast_mul];omega
      have hp1:(q0:Int)*(yn1:Int)≤(v:Int):=by rw [←Int.natCast_mul];omega
      have er0:(v:Int)-(q0:Int)*(yn1:Int)=(r0:Int):=by
       have:=hS.sum;rw [←Int.natCast_mul];omega
      have HS:=hid hS;clear hS HU;have HU:=HU2;go_wp2_with fail
      go_loop [18,16] (fun a b=>∃ q r:Nat,a=.int .u64 q∧b=.int .u64 r∧F6 v d0 yn1 yn0 q r∧r<4294967296∧q≤8589934592) (fun a _=>(intOf a).toNat)
      case atStart=>exact ⟨_,_,rfl,rfl,HS.out,by omega,hqb⟩
      case round =>
       obtain ⟨q,r,rfl,rfl,hI,hr,hq⟩:=hrel;have HI:=hid hI;clear hI HS hqn hqb eq0 hr0 hp0 hp1 er0 ;have hp2:(0:Int)≤(q:Int)*(yn0:Int):=by rw [←Int.natCast_mul];omega
       by_cases hA:4294967296≤q
       ·have hA':decide ((4294967296:Int)≤(q:Int))=true:=decide_eq_true (by omega);have hl:=Gy HI.out HU.out hd0 (by omega) (Or.inl hA);obtain ⟨hq1,hI'⟩:=hl;have HI':=hid hI';clear hA;clear hI';obtain ⟨r1,hr1⟩:∃ r1,r+yn1=r1:=⟨_,rfl⟩;obtain ⟨qq,hqe⟩:∃ qq,q-1=qq:=⟨_,rfl⟩;rw [hr1,hqe] at HI';have hri:(r:Int)+(yn1:Int)=(r1:Int):=by omega
        have hqi:(q:Int)-1=(qq:Int):=by omega
        have hqm:qq<q:=by omega
        clear hr1 hqe;by_cases hbr:r1<4294967296
        ·have hbr':decide ((4294967296:Int)≤(r1:Int))=false:=decide_eq_false (by omega);have HBR:=hid hbr;clear hbr;go_wp2_with fail
         go_round
         case rel=>exact ⟨qq,r1,rfl,rfl,HI'.out,HBR.out,by omega⟩
         case measure=>simp [intOf];omega
        ·have hqq:=Fx HI'.out HU.out hyn0 (by omega) (by omega);rw [HYY.out] at hqq;have HQ:=hid hqq;have hbr':decide ((4294967296:Int)≤(r1:Int))=true:=decide_eq_true (by omega);clear hqq hbr;have eR2:=D9 v d0 Y qq hY (by omega) HQ.out;have hqq2:=Dq v d0 Y hv hd0;rw [←HQ.out] at hqq2;obtain ⟨t,ht⟩:∃ t,(v*4294967296+d0)%Y=t:=⟨_,rfl⟩;rw [ht] at eR2;have HT:=hid ht;clear ht;go_wp2_with fail;refine bodyPost_ret (v:=.tuple #[.int .u64 ((q1*4294967296+qq:Nat):Int),.int .u64 ((t/2^s:Nat):Int)]) (by simp [results,Tryz.results205,go_sem]) rfl ⟨q1,qq,v,t,rfl,HQ1.out,HV.out,HQ.out,HT.out,0,rfl⟩
       ·have hp3:q*yn0≤4294967296*4294967295:=Nat.mul_le_mul (by omega) (by omega);have hA':decide ((4294967296:Int)≤(q:Int))=false:=decide_eq_false (by omega);have hm1:(q:Int)*(yn0:Int)=((q*yn0:Nat):Int):=(Int.natCast_mul _ _).symm;have hm2:(4294967296:Int)*(r:Int)=((4294967296*r:Nat):Int):=by omega
        have hm3:((4294967296*r:Nat):Int)+(d0:Int)=((4294967296*r+d0:Nat):Int):=by omega
        have hm4:4294967296*r+d0<18446744073709551616:=by omega
        have hm5:4294967296*r<18446744073709551616:=by omega
        have HM:Hid (4294967296*r+d0<q*yn0∨q*yn0≤4294967296*r+d0):=Nat.lt_or_ge _ _;have HF1:Hid (4294967296*r+d0<q*yn0→1≤q∧F6 v d0 yn1 yn0 (q-1) (r+yn1)):=fun hB=>Gy HI.out HU.out hd0 (by omega) (Or.inr hB)
        have HF2:Hid (q*yn0≤4294967296*r+d0→q=(v*4294967296+d0)/(yn1*4294967296+yn0)):=fun hB=>Kk HI.out (by omega) hB
        clear hp2 hA;generalize 4294967296*r+d0=z at *;generalize 4294967296*r=zr at *;generalize q*yn0=pq at *;by_cases hB:z<pq
        ·have hl:=HF1.out hB;have hB':decide (z<pq)=true:=decide_eq_true hB;obtain ⟨hq1,hI'⟩:=hl;have HI':=hid hI'
         skip
         clear hI';obtain ⟨r1,hr1⟩:∃ r1,r+yn1=r1:=⟨_,rfl⟩;obtain ⟨qq,hqe⟩:∃ qq,q-1=qq:=⟨_,rfl⟩;rw [hr1,hqe] at HI';have hri:(r:Int)+(yn1:Int)=(r1:Int):=by omega
         have hqi:(q:Int)-1=(qq:Int):=by omega
         have hqm:qq<q:=by omega
         clear hr1 hqe;by_cases hbr:r1<4294967296
         ·have hbr':decide ((4294967296:Int)≤(r1:Int))=false:=decide_eq_false (by omega);have HBR:=hid hbr;clear hbr;go_wp2_with fail
          go_round
          case rel=>exact ⟨qq,r1,rfl,rfl,HI'.out,HBR.out,by omega⟩
          case measure=>simp [intOf];omega
         ·have hqq:=Fx HI'.out HU.out hyn0 (by omega) (by omega);rw [HYY.out] at hqq;have HQ:=hid hqq;have hbr':decide ((4294967296:Int)≤(r1:Int))=true:=decide_eq_true (by omega);clear hqq hbr;have eR2:=D9 v d0 Y qq hY (by omega) HQ.out;have hqq2:=Dq v d0 Y hv hd0;rw [←HQ.out] at hqq2;obtain ⟨t,ht⟩:∃ t,(v*4294967296+d0)%Y=t:=⟨_,rfl⟩;rw [ht] at eR2;have HT:=hid ht;clear ht;go_wp2_with fail;refine bodyPost_ret (v:=.tuple #[.int .u64 ((q1*4294967296+qq:Nat):Int),.int .u64 ((t/2^s:Nat):Int)]) (by simp [results,Tryz.results205,go_sem]) rfl ⟨q1,qq,v,t,rfl,HQ1.out,HV.out,HQ.out,HT.out,0,rfl⟩
        ·have hB':decide (z<pq)=false:=decide_eq_false hB;have hqq:=HF2.out (by omega);rw [HYY.out] at hqq;have HQ:=hid hqq;clear hqq;obtain ⟨qq,rfl⟩:∃ x,x=q:=⟨q,rfl⟩;have eR2:=D9 v d0 Y qq hY (by omega) HQ.out;have hqq2:=Dq v d0 Y hv hd0;rw [←HQ.out] at hqq2;obtain ⟨t,ht⟩:∃ t,(v*4294967296+d0)%Y=t:=⟨_,rfl⟩;rw [ht] at eR2;have HT:=hid ht;clear ht;go_wp2_with fail;refine bodyPost_ret (v:=.tuple #[.int .u64 ((q1*4294967296+qq:Nat):Int),.int .u64 ((t/2^s:Nat):Int)]) (by simp [results,Tryz.results205,go_sem]) rfl ⟨q1,qq,v,t,rfl,HQ1.out,HV.out,HQ.out,HT.out,0,rfl⟩
    ·have hB':decide (z<pq)=false:=decide_eq_false hB;have hqq:=HF2.out (by omega);rw [HYY.out] at hqq;have HQ:=hid hqq;clear hqq;obtain ⟨qq,rfl⟩:∃ x,x=q:=⟨q,rfl⟩;have eR1:=D9 u d1 Y qq hY (by omega) HQ.out;have hq1b:=Dq u d1 Y sh2 hd1;have hv:(u*4294967296+d1)%Y<Y:=Nat.mod_lt _ (by omega);rw [←HQ.out] at hq1b;obtain ⟨v,hve⟩:∃ v,(u*4294967296+d1)%Y=v:=⟨_,rfl⟩;rw [hve] at eR1 hv;have HV:=hid hve;obtain ⟨q1,rfl⟩:∃ x,x=qq:=⟨qq,rfl⟩;have HQ1:=HQ;clear hve HQ;have HU2:Hid (v<yn1*4294967296+yn0):=by show _<_;rw [HYY.out];exact hv
     have hS:=Lj v d0 yn1 yn0 hd0 (by omega);have hqn:v/yn1*yn1≤v:=Nat.div_mul_le_self _ _;have hqb:v/yn1≤8589934592:=by
      rw [Nat.div_le_iff_le_mul_add_pred (by omega)];have:2147483648*8589934592≤yn1*8589934592:=Nat.mul_le_mul_right _ hyn1;omega
     have hr0:v%yn1<yn1:=Nat.mod_lt _ (by omega);have eq0:(v:Int)/(yn1:Int)=((v/yn1:Nat):Int):=rfl;generalize v/yn1=q0 at *;generalize v%yn1=r0 at *;have hp0:(0:Int)≤(q0:Int)*(yn1:Int):=by rw [←Int.natCast_mul];omega
     have hp1:(q0:Int)*(yn1:Int)≤(v:Int):=by rw [←Int.natCast_mul];omega
     have er0:(v:Int)-(q0:Int)*(yn1:Int)=(r0:Int):=by
      have:=hS.sum;rw [←Int.natCast_mul];omega
     have HS:=hid hS;clear hS HU;have HU:=HU2;go_wp2_with fail
     go_loop [18,16] (fun a b=>∃ q r:Nat,a=.int .u64 q∧b=.int .u64 r∧F6 v d0 yn1 yn0 q r∧r<4294967296∧q≤8589934592) (fun a _=>(intOf a).toNat)
     case atStart=>exact ⟨_,_,rfl,rfl,HS.out,by omega,hqb⟩
     case round =>
      obtain ⟨q,r,rfl,rfl,hI,hr,hq⟩:=hrel;have HI:=hid hI;clear hI HS hqn hqb eq0 hr0 hp0 hp1 er0 ;have hp2:(0:Int)≤(q:Int)*(yn0:Int):=by rw [←Int.natCast_mul];omega
      by_cases hA:4294967296≤q
      ·have hA':decide ((4294967296:Int)≤(q:Int))=true:=decide_eq_true (by omega);have hl:=Gy HI.out HU.out hd0 (by omega) (Or.inl hA);obtain ⟨hq1,hI'⟩:=hl;have HI':=hid hI';clear hA;clear hI';obtain ⟨r1,hr1⟩:∃ r1,r+yn1=r1:=⟨_,rfl⟩;obtain ⟨qq,hqe⟩:∃ qq,q-1=qq:=⟨_,rfl⟩;rw [hr1,hqe] at HI';have hri:(r:Int)+(yn1:Int)=(r1:Int):=by omega
       have hqi:(q:Int)-1=(qq:Int):=by omega
       have hqm:qq<q:=by omega
       clear hr1 hqe;by_cases hbr:r1<4294967296
       ·have hbr':decide ((4294967296:Int)≤(r1:Int))=false:=decide_eq_false (by omega);have HBR:=hid hbr;clear hbr;go_wp2_with fail
        go_round
        case rel=>exact ⟨qq,r1,rfl,rfl,HI'.out,HBR.out,by omega⟩
        case measure=>simp [intOf];omega
       ·have hqq:=Fx HI'.out HU.out hyn0 (by omega) (by omega);rw [HYY.out] at hqq;have HQ:=hid hqq;have hbr':decide ((4294967296:Int)≤(r1:Int))=true:=decide_eq_true (by omega);clear hqq hbr;have eR2:=D9 v d0 Y qq hY (by omega) HQ.out;have hqq2:=Dq v d0 Y hv hd0;rw [←HQ.out] at hqq2;obtain ⟨t,ht⟩:∃ t,(v*4294967296+d0)%Y=t:=⟨_,rfl⟩;rw [ht] at eR2;have HT:=hid ht;clear ht;go_wp2_with fail;refine bodyPost_ret (v:=.tuple #[.int .u64 ((q1*4294967296+qq:Nat):Int),.int .u64 ((t/2^s:Nat):Int)]) (by simp [results,Tryz.results205,go_sem]) rfl ⟨q1,qq,v,t,rfl,HQ1.out,HV.out,HQ.out,HT.out,0,rfl⟩
      ·have hp3:q*yn0≤4294967296*4294967295:=Nat.mul_le_mul (by omega) (by omega);have hA':decide ((4294967296:Int)≤(q:Int))=false:=decide_eq_false (by omega);have hm1:(q:Int)*(yn0:Int)=((q*yn0:Nat):Int):=(Int.natCast_mul _ _).symm;have hm2:(4294967296:Int)*(r:Int)=((4294967296*r:Nat):Int):=by omega
       have hm3:((4294967296*r:Nat):Int)+(d0:Int)=((4294967296*r+d0:Nat):Int):=by omega
       have hm4:4294967296*r+d0<18446744073709551616:=by omega
       have hm5:4294967296*r<18446744073709551616:=by omega
       have HM:Hid (4294967296*r+d0<q*yn0∨q*yn0≤4294967296*r+d0):=Nat.lt_or_ge _ _;have HF1:Hid (4294967296*r+d0<q*yn0→1≤q∧F6 v d0 yn1 yn0 (q-1) (r+yn1)):=fun hB=>Gy HI.out HU.out hd0 (by omega) (Or.inr hB)
       have HF2:Hid (q*yn0≤4294967296*r+d0→q=(v*4294967296+d0)/(yn1*4294967296+yn0)):=fun hB=>Kk HI.out (by omega) hB
       clear hp2 hA;generalize 4294967296*r+d0=z at *;generalize 4294967296*r=zr at *;generalize q*yn0=pq at *;by_cases hB:z<pq
       ·have hl:=HF1.out hB;have hB':decide (z<pq)=true:=decide_eq_true hB;obtain ⟨hq1,hI'⟩:=hl;have HI':=hid hI'
        skip
        clear hI';obtain ⟨r1,hr1⟩:∃ r1,r+yn1=r1:=⟨_,rfl⟩;obtain ⟨qq,hqe⟩:∃ qq,q-1=qq:=⟨_,rfl⟩;rw [hr1,hqe] at HI';have hri:(r:Int)+(yn1:Int)=(r1:Int):=by omega
        have hqi:(q:Int)-1=(qq:Int):=by omega
        have hqm:qq<q:=by omega
        clear hr1 hqe;by_cases hbr:r1<4294967296
        ·have hbr':decide ((4294967296:Int)≤(r1:Int))=false:=decide_eq_false (by omega);have HBR:=hid hbr;clear hbr;go_wp2_with fail
         go_round
         case rel=>exact ⟨qq,r1,rfl,rfl,HI'.out,HBR.out,by omega⟩
         case measure=>simp [intOf];omega
        ·have hqq:=Fx HI'.out HU.out hyn0 (by omega) (by omega);rw [HYY.out] at hqq;have HQ:=hid hqq;have hbr':decide ((4294967296:Int)≤(r1:Int))=true:=decide_eq_true (by omega);clear hqq hbr;have eR2:=D9 v d0 Y qq hY (by omega) HQ.out;have hqq2:=Dq v d0 Y hv hd0;rw [←HQ.out] at hqq2;obtain ⟨t,ht⟩:∃ t,(v*4294967296+d0)%Y=t:=⟨_,rfl⟩;rw [ht] at eR2;have HT:=hid ht;clear ht;go_wp2_with fail;refine bodyPost_ret (v:=.tuple #[.int .u64 ((q1*4294967296+qq:Nat):Int),.int .u64 ((t/2^s:Nat):Int)]) (by simp [results,Tryz.results205,go_sem]) rfl ⟨q1,qq,v,t,rfl,HQ1.out,HV.out,HQ.out,HT.out,0,rfl⟩
       ·have hB':decide (z<pq)=false:=decide_eq_false hB;have hqq:=HF2.out (by omega);rw [HYY.out] at hqq;have HQ:=hid hqq;clear hqq;obtain ⟨qq,rfl⟩:∃ x,x=q:=⟨q,rfl⟩;have eR2:=D9 v d0 Y qq hY (by omega) HQ.out;have hqq2:=Dq v d0 Y hv hd0;rw [←HQ.out] at hqq2;obtain ⟨t,ht⟩:∃ t,(v*4294967296+d0)%Y=t:=⟨_,rfl⟩;rw [ht] at eR2;have HT:=hid ht;clear ht;go_wp2_with fail;refine bodyPost_ret (v:=.tuple #[.int .u64 ((q1*4294967296+qq:Nat):Int),.int .u64 ((t/2^s:Nat):Int)]) (by simp [results,Tryz.results205,go_sem]) rfl ⟨q1,qq,v,t,rfl,HQ1.out,HV.out,HQ.out,HT.out,0,rfl⟩
end Go.Proofs.YtabjjdicffcolaaGreatDoor
