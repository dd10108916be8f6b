/- Words and contracts, part 8. -/
import Derived.Test.YtinbgjcooolbiaaGreatDoorClaimPartsp07
import Derived.Deep.RegionHeld3
import Derived.StillTailTactics
set_option maxRecDepth 100000
set_option maxHeartbeats 0
namespace Go.Proofs.YtinbgjcooolbiaaGreatDoor
open Go.Lib (hid)
open Go.RowKit
theorem Iz {w:World}{v:Value}{xs:List Nat}(hv:Lim w v xs)(hl:xs.length≤1000000) :
 Calls Tryz.prog 111 #[v] w fun e w'=>∃ v',e=.returned v'∧Own w' w.heap.size v' xs∧Kept w w':=by
 obtain ⟨hs,A,c,rfl,hc,hA⟩:=hv;cases A with
 | none =>
   have h0:xs.length=0:=by
    by_cases h:0<xs.length
    ·obtain ⟨b,off,h1,_⟩:=hA h;cases h1
    ·omega
   obtain rfl:xs=[]:=List.eq_nil_of_length_eq_zero h0;clear hA hl hc h0 hs;refine Calls.mono (R:=fun e w'=>e=.returned (.slice none 0 0)∧w=w') ?_ (fun e w' ⟨he,hw⟩=>by subst hw;exact ⟨_,he,World.ownsRow_nil _ _ _ _,Below.refl _ _⟩);have e1:=fun (w:World)=>Lib.run_eql_slice_nil (P:=Tryz.prog) w 22 40 none 0 c 0 0 Tryz.underlying22
   go_enter Tryz.func111,Tryz.ntmps111;go_wp2_with fail;go_ret;exact ⟨rfl,rfl⟩
 | some a =>
   have e1:=fun (w:World)=>Lib.run_eql_slice_nil (P:=Tryz.prog) w 22 40 (some a) xs.length c 0 0 Tryz.underlying22
   go_enter Tryz.func111,Tryz.ntmps111;obtain ⟨i0,hi,hz0,hz1,hz2⟩:=info_parts uinfo;have hown:(w.alloc (.cells #[] 40)).ownsRow w.heap.size 40 1 (.slice (some ⟨w.heap.size,0,none⟩) 0 0) 0 []:=World.ownsRow_made w #[] 0 (Nat.le_refl _) (by decide) rfl;have hlim:Lim (w.alloc (.cells #[] 40)) (.slice (some a) xs.length c) xs:=Lim.kept ⟨hs,some a,c,rfl,hc,hA⟩ ((Below.refl _ _).alloc (Nat.le_refl _) _);have H1:=hid hown;have H2:=hid hlim;clear hown hlim hA hs
   go_wp2_with (at_builtin;refine wpList_append_own _ rfl _ _ 22 rfl w.heap.size 40 i0 (.int .u64 0) 1 8 Tryz.underlying22 hi hz0 hz1 hz2 rfl (by decide) _ 0 [] rfl H1.out a xs.length c (xs.map U) rfl (by simp) H2.out.news (N4 xs) (by unfold maxLen;omega) (by omega) (by simp) ?_)
   intro v' w1 hown1 hgrow _;have hk:Kept w w1:=Below.grown ((Below.refl _ _).alloc (Nat.le_refl _) _) hgrow (by simp) (by intro k hk;have:w.heap.size=k:=Option.some.inj hk;omega);have HO:Hid (Own w1 w.heap.size v' xs):=own_of_rows (xs:=[]) hown1;have HK:=hid hk;clear hown1 hgrow hk;go_wp2;go_ret;exact ⟨_,rfl,HO.out,HK.out⟩
theorem Oo {w:World}{v:Value}{xs:List Nat}(hv:Lim w v xs)(hl:xs.length≤1000000) :
 Calls Tryz.prog 111 #[v] w (RetLim xs w) :=
 (Iz hv hl).mono fun _ _ ⟨v',he,ho,hk⟩=>⟨v',he,ho.lim hv.1,hk⟩
theorem G9 (xs:List Nat)(h:Small xs):(limbs (val xs)).length≤xs.length:=by
 rw [←take_tl xs h,List.length_take];exact Nat.min_le_right _ _
theorem Aae {w:World}{v:Value}{xs:List Nat}(hv:Lim w v xs)(hl:xs.length≤1000000) :
 Calls Tryz.prog 65 #[v] w (RetLim (limbs (val xs)) w):=by
 have hb:=G9 xs hv.1;have HV:=hid hv;clear hv;go_enter Tryz.func65,Tryz.ntmps65
 go_wp2_with (first
  | (go_at_call 112;refine (Em HV.out (by omega)).mono ?_;rintro e w' ⟨v',rfl,hv',rfl⟩;have HV':=hid hv';clear hv')
  | (go_at_call 111;refine (Oo HV'.out (by omega)).mono ?_;rintro e w' ⟨v2,rfl,hv2,hk⟩;have HV2:=hid hv2;have HK:=hid hk;clear hv2 hk))
 go_ret;exact ⟨_,rfl,HV2.out,HK.out⟩
theorem or_u64 (a b:Nat)(ha:a<18446744073709551616)(hb:b<18446744073709551616):bits .or .u64 (a:Int) (b:Int)=((a ||| b:Nat):Int):=bits_or_u64_nat a b ha hb
theorem Gr (x r:Nat):IntKind.u64.wrap ((x:Int)*2^r)=((x*2^r%18446744073709551616:Nat):Int):=by
 rw [IntKind.wrap_u64];simp
theorem Lx (x r:Nat):(x:Int)/2^r=((x/2^r:Nat):Int):=by
 simp
theorem Yt (x:Nat):(x:Int)/2=((x/2:Nat):Int):=by omega
theorem Xb {w:World}{v:Value}{xs:List Nat}(hv:Lim w v xs)(n:Nat)(hl:xs.length≤100000)(h0:0<xs.length)(hn:n≤6400000) :
 Calls Tryz.prog 77 #[v,.int .i64 n] w (RetLim (limbs (val (Ea xs (n/64) (n%64) (n/64+xs.length+1) xs.length))) w):=by
 obtain ⟨hs,A,c,rfl,hc,hA⟩:=hv;obtain ⟨b,off,rfl,hb,hcell⟩:=hA h0;have HC:=hid hcell;have hx:=nth_lt hs;have HX:=hid hx;have HS:=hid hs;clear hcell hA hx hs;obtain ⟨i0,hi,hz0,hz1,hz2⟩:=info_parts uinfo;generalize hlen:xs.length=l at *;have HF:=hid (Ht xs (n/64) (n%64) (n/64+l+1));have HL:=hid hlen;have HSM:=hid (La xs HS.out (n/64) (n%64) (n/64+l+1));clear hlen;have e0:(((l:Nat):Int)==0)=false:=by rw [beq_eq_false_iff_ne];omega
 go_enter Tryz.func77,Tryz.ntmps77
 go_wp2_with (at_make;go_must (refine wpList_make_full _ rfl _ _ 22 rfl w.heap.size 40 i0 (.int .u64 0) 1 Tryz.underlying22 hi hz0 hz1 .i64 .i64 _ _ (n/64+l+1) rfl rfl (by omega) (by omega) (by rw [hz2];omega) (by unfold maxLen;omega) (by simp) ?_))
 intro w1 hown1 hgrow1;have ho:Hid (Own w1 w.heap.size (.slice (some ⟨w.heap.size,0,none⟩) (n/64+l+1) (n/64+l+1)) (Ea xs (n/64) (n%64) (n/64+l+1) 0)):=E8 hown1;have hk:Hid (Below w.heap.size w w1):=Below.grown (Below.refl _ _) hgrow1 (by simp) (by intro k hk;cases hk);clear hown1 hgrow1;go_wp2_with fail
 go_loopw [20] (fun t wr=>∃ k:Nat,k≤l∧t=.int .i64 k∧Own wr w.heap.size (.slice (some ⟨w.heap.size,0,none⟩) (n/64+l+1) (n/64+l+1)) (Ea xs (n/64) (n%64) (n/64+l+1) k)∧Below w.heap.size w wr) (fun t _=>(l-intOf t).toNat)
 case atStart=>exact ⟨0,Nat.zero_le _,rfl,ho.out,hk.out⟩
 case round =>
  obtain ⟨k,hkl,rfl,hO,hB⟩:=hrel;have HO:=hid hO;have HB:=hid hB;clear hO hB;by_cases hlt:k<l
  ·have hck:=(HB.out.cell (p:=⟨b,off+k,none⟩) hb).trans (HC.out k hlt);have ho1:=HO.out.cell (n/64+k) (by rw [HF.out];omega);have ho2:=HO.out.cell (n/64+k+1) (by rw [HF.out];omega);have hf1:=HO.out.frozen (n/64+k);have hf2:=HO.out.frozen (n/64+k+1);have hxk:=HX.out k;have HST:=hid (show Ea xs (n/64) (n%64) (n/64+l+1) (k+1)=G8 (Ea xs (n/64) (n%64) (n/64+l+1) k) (n/64) (n%64) k (nth xs k) from rfl);have HY:Hid (nth (Ea xs (n/64) (n%64) (n/64+l+1) k) (n/64+k)<18446744073709551616∧nth (Ea xs (n/64) (n%64) (n/64+l+1) k) (n/64+k+1)<18446744073709551616):=⟨nth_lt (HSM.out k) _,nth_lt (HSM.out k) _⟩
   unfold G8 at HST;generalize Ea xs (n/64) (n%64) (n/64+l+1) k=out at *;generalize nth xs k=x at *;generalize nth out (n/64+k)=y0 at *;generalize nth out (n/64+k+1)=y1 at *;go_wp2_with fail;go_roundw
   case rel =>
    refine ⟨k+1,by omega,by go_num,?_,(HB.out.setCell (by simp) _).setCell (by simp) _⟩;rw [Gr,Yt,Lx,or_u64 _ _ HY.out.1 (Nat.mod_lt _ (by decide)),or_u64 _ _ HY.out.2 (Nat.lt_of_le_of_lt (Nat.div_le_self _ _) (Nat.lt_of_le_of_lt (Nat.div_le_self _ _) hxk)),HST.out];exact (HO.out.stored _ _).stored _ _
   case measure=>simp [intOf];omega
  ·obtain rfl:k=l:=by omega
   have hlim:=HO.out.lim (HSM.out _);have HLM:=hid hlim;clear hlim
   go_wp2_with (go_at_call 112;refine (Em HLM.out (by rw [HF.out];omega)).mono ?_;rintro e w' ⟨v',rfl,hv',rfl⟩;have HV':=hid hv';clear hv')
   go_ret;exact ⟨_,rfl,HV'.out,HB.out⟩
theorem Iq {xs:List Nat}(h:Small xs):Small (xs++[0]):=by
 intro x hx;rcases List.mem_append.1 hx with hx | hx
 ·exact h x hx
 ·have:x=0:=by simpa using hx
  omega
theorem Bk (w:World)(u:Value)(T:TypeId):∀ j x,[u][j]?=some x→(w.alloc (.cells #[u] T)).cell? ((⟨w.heap.size,0,none⟩:Addr).add j)=some x:=by
 intro j x hj
 match j,hj with
 | 0, hj =>
   have:u=x:=by simpa using hj
   subst this;simp [Addr.add,go_sem]
 | j+1,hj=>simp at hj
theorem Qu {w:World}{v u:Value}{xs ys:List Nat}(hv:Lim w v xs)(hu:Lim w u ys)(hl:xs.length≤100000)(hle:ys.length≤xs.length)
 {args:Array Value} (hargs:args=#[v,u]∨args=#[u,v]∧ys.length<xs.length) :
 Calls Tryz.prog 121 args w (RetLim (limbs (val (Cp (xs++[0]) ys (xs.length+1)).1)) w):=by
 have hv':=hv;obtain ⟨hs,A,c,rfl,hc,hA⟩:=hv;obtain ⟨hs',A',c',rfl,hc',hA'⟩:=hu;have HV:=hid hv';have HS:=hid hs;have HA':=hid hA';have HS':=hid hs';clear hA hA' hv' hs hs';generalize hlen:xs.length=l at *;generalize hlen':ys.length=l' at *;have HL:=hid hlen;have HL':=hid hlen';clear hlen hlen';obtain ⟨i0,hi,hz0,hz1,hz2⟩:=info_parts uinfo;rcases hargs with rfl | ⟨rfl,hlt'⟩
 all_goals
  go_enter Tryz.func121,Tryz.ntmps121;go_wp2_with fail;go_step3
  go_wp2_with (first
   | (go_at_call 111;refine (Iz HV.out (by rw [HL.out];omega)).mono ?_;rintro e w1 ⟨v1,rfl,ho,hk⟩;have HO:=hid ho;have HK:=hid hk;clear ho hk)
   | (at_builtin;go_must (refine wpList_append_own _ rfl _ _ 22 rfl w.heap.size 40 i0 (.int .u64 0) 1 8 Tryz.underlying22 hi hz0 hz1 hz2 rfl (by decide) _ xs.length (xs.map U) rfl (HO.out.alloc _) ⟨w1.heap.size,0,none⟩ 1 1 [.int .u64 0] rfl rfl (Bk w1 _ _) (by simp [Value.oneCell']) (by unfold maxLen;rw [HL.out];omega) (by rw [HL.out];omega) (by have:=HK.out.size;simp;omega) ?_)))
  intro v' w2 hown2 hgrow2 _;have ho:Hid (Own w2 w.heap.size v' (xs++[0])):=own_of_rows (ys:=[0]) hown2;have hk:Hid (Below w.heap.size w w2):=Below.grown (HK.out.alloc HK.out.size _) hgrow2 (by have:=HK.out.size;simp;omega) (fun k hk=>(World.ownsRow.lt HO.out k hk).1);clear hown2 hgrow2;obtain ⟨g,cap,rfl,hg,_,hcap⟩:=ho.out.shape (by simp);have el:(xs++[0]).length=l+1:=by rw [List.length_append,HL.out];rfl
  rw [el] at ho hcap ⊢;have HC:=hid el;clear el HO HK;go_wp2_with fail;go_step3;go_wp2_with fail;have HSM:=hid (Et (xs++[0]) ys (Iq HS.out));have HCY:=hid (Hk (xs++[0]) ys (Iq HS.out) HS'.out);have HLN:=hid (fun k=>(Dt (xs++[0]) ys k).trans HC.out);have HSTOP:=hid (No (xs++[0]) ys (Iq HS.out))
  go_loopw [6,22] (fun cy t wr=>∃ k:Nat,k≤l+1∧t=.int .i64 k∧cy=.int .u64 (Cp (xs++[0]) ys k).2∧Own wr w.heap.size (.slice (some ⟨g,0,none⟩) (l+1) cap) (Cp (xs++[0]) ys k).1∧Below w.heap.size w wr) (fun _ t _=>(l+1-intOf t).toNat)
  case atStart=>exact ⟨0,Nat.zero_le _,rfl,rfl,ho.out,hk.out⟩
  case round =>
   obtain ⟨k,hkl,rfl,rfl,hO,hB⟩:=hrel;have HO:=hid hO;have HB:=hid hB;clear hO hB;by_cases hlt:k<l+1
   ·have ho1:=HO.out.cell k (by rw [HLN.out];omega);have hf1:=HO.out.frozen k;have hcy:=HCY.out k;have HST:=hid (Fb (xs++[0]) ys k);have hxk:=nth_lt (HSM.out k) k;by_cases hky:k<l'
    ·obtain ⟨b,off,rfl,hb,hcell⟩:=HA'.out (by omega);have hck:=(HB.out.cell (p:=⟨b,off+k,none⟩) hb).trans (hcell k hky);have hyk:=nth_lt HS'.out k;clear hcell;generalize nth ys k=y at *;generalize Cp (xs++[0]) ys k=s at *;obtain ⟨o,q⟩:=s;simp only at *;generalize nth o k=z at *;have hadd:=fun w=>Jw z y q hcy w
     go_wp2_with (fail)
     go_roundw
     case rel=>exact ⟨k+1,by omega,by go_num,by rw [HST.out];rfl,by rw [HST.out];exact HO.out.stored _ _,HB.out.setCell hg _⟩
     case measure=>simp [intOf];omega
    ·have hd:decide ((k:Int)<(l':Int))=false:=by simp;omega
     have hyk:nth ys k=0:=Kn ys k (by rw [HL'.out];omega);rw [hyk] at HST;clear hyk;by_cases hq:(Cp (xs++[0]) ys k).2=0
     ·have hfin:(Cp (xs++[0]) ys (l+1)).1=(Cp (xs++[0]) ys k).1:=by
       have:=HSTOP.out k (by rw [HL'.out];omega) hq (l+1-k) (by rw [HC.out];omega);rw [show k+(l+1-k)=l+1 by omega] at this;rw [this]
      have hlim:=HO.out.lim (HSM.out k);rw [←hfin] at hlim;have HLM:=hid hlim;rw [hq];have HQ:=hid hq;clear hlim hq hfin hcy
      go_wp2_with (go_at_call 112;refine (Em HLM.out (by rw [HLN.out];omega)).mono ?_;rintro e w' ⟨v',rfl,hv',rfl⟩;have HV':=hid hv';clear hv')
      rw [Exit.noGoto_ret];go_ret;exact ⟨_,rfl,HV'.out,HB.out⟩
     ·generalize Cp (xs++[0]) ys k=s at *;obtain ⟨o,q⟩:=s;simp only at *;have hq1:(((q:Nat):Int)==0)=false:=by rw [beq_eq_false_iff_ne];omega
      generalize nth o k=z at *;have hadd:∀ w,(callFunc 129 #[.int .u64 z,.int .u64 0,.int .u64 q]).run Tryz.prog w=.ok (.value (.tuple #[.int .u64 (Cc z 0 q),.int .u64 (Cg z 0 q)])) w:=fun w=>Jw z 0 q hcy w
      have HQ:=hid hq;clear hq
      go_wp2_with (fail)
      go_roundw
      case rel=>exact ⟨k+1,by omega,by go_num,by rw [HST.out];rfl,by rw [HST.out];exact HO.out.stored _ _,HB.out.setCell hg _⟩
      case measure=>simp [intOf];omega
   ·obtain rfl:k=l+1:=by omega
    have hlim:=HO.out.lim (HSM.out _);have HLM:=hid hlim;clear hlim
    go_wp2_with (go_at_call 112;refine (Em HLM.out (by rw [HLN.out];omega)).mono ?_;rintro e w' ⟨v',rfl,hv',rfl⟩;have HV':=hid hv';clear hv')
    rw [Exit.noGoto_ret];go_ret;exact ⟨_,rfl,HV'.out,HB.out⟩
theorem So {w:World}{v u:Value}{n m:Nat}(hv:Lim w v (limbs n))(hu:Lim w u (limbs m))(hl:(limbs n).length≤100000)(hl':(limbs m).length≤100000) :
 Calls Tryz.prog 121 #[v,u] w (RetLim (limbs (n+m)) w):=by
 by_cases hle:(limbs m).length≤(limbs n).length
 ·have:=Qu hv hu hl hle (Or.inl rfl);rwa [Pq _ _ hv.1 hu.1 hle,val_limbs,val_limbs] at this
 ·have:=Qu hu hv hl' (by omega) (Or.inr ⟨rfl,by omega⟩);rwa [Pq _ _ hu.1 hv.1 (by omega),val_limbs,val_limbs,Nat.add_comm] at this
theorem Ig {w:World}{v:Value}{m:Nat}(hv:Lim w v (limbs m))(n:Nat)(hl:(limbs m).length≤100000)(hn:n≤6400000) :
 Calls Tryz.prog 77 #[v,.int .i64 n] w (RetLim (limbs (m*2^n)) w):=by
 by_cases h0:m=0
 ·subst h0;rw [limbs_zero] at *;rw [Nat.zero_mul,limbs_zero];obtain ⟨hs,A,c,rfl,hc,hA⟩:=hv;clear hs hA hc hl;refine Calls.mono (R:=fun e w'=>e=.returned (.slice none 0 0)∧w=w') ?_ (fun e w' ⟨he,hw⟩=>by subst hw;exact ⟨_,he,Lim.nil _ _ _,Below.refl _ _⟩);have e0:(((([]:List Nat).length:Nat):Int)==0)=true:=rfl;go_enter Tryz.func77,Tryz.ntmps77;go_wp2_with fail;go_ret;exact ⟨rfl,rfl⟩
 ·have:=Xb hv n hl (length_limbs_pos m h0) hn;rwa [Us _ hv.1,val_limbs] at this
theorem Ut {w:World}{v u:Value}{xs ys:List Nat}(hv:Lim w v xs)(hu:Lim w u ys)(hl:xs.length≤100000) :
 Calls Tryz.prog 134 #[v,u] w (RetLim (limbs (val (Gl xs ys xs.length).1)) w):=by
 have hv':=hv;obtain ⟨hs,A,c,rfl,hc,hA⟩:=hv;obtain ⟨hs',A',c',rfl,hc',hA'⟩:=hu;have HV:=hid hv';have HS:=hid hs;have HS':=hid hs';have HA':=hid hA';clear hA hA' hv' hs hs';generalize hlen:xs.length=l at *;generalize hlen':ys.length=l' at *;have HL:=hid hlen;have HL':=hid hlen';clear hlen hlen';have HSM:=hid (H7 xs ys HS.out);have HCY:=hid (Ir xs ys);have HLN:=hid (fun k=>(Gs xs ys k).trans HL.out);go_enter Tryz.func134,Tryz.ntmps134
 go_wp2_with (go_at_call 111;refine (Iz HV.out (by rw [HL.out];omega)).mono ?_;rintro e w1 ⟨v1,rfl,ho,hk⟩;obtain ⟨A1,cap1,rfl,hg1⟩:=ho.shape0;rw [HL.out] at ho hg1 ⊢;have HO1:=hid ho;have HG1:=hid hg1;have HK:=hid hk;clear ho hk hg1)
 go_loopw [6,13] (fun cy t wr=>∃ k:Nat,k≤l∧t=.int .i64 k∧cy=.int .u64 (Gl xs ys k).2∧Own wr w.heap.size (.slice A1 l cap1) (Gl xs ys k).1∧Below w.heap.size w wr) (fun _ t _=>(l-intOf t).toNat)
 case atStart=>exact ⟨0,Nat.zero_le _,rfl,rfl,HO1.out,HK.out⟩
 case round =>
  obtain ⟨k,hkl,rfl,rfl,hO,hB⟩:=hrel;have HO:=hid hO;have HB:=hid hB;clear hO hB;by_cases hlt:k<l
  ·obtain ⟨g,rfl,hg,hg'⟩:=HG1.out (by omega);have ho1:=HO.out.cell k (by rw [HLN.out];omega);have hf1:=HO.out.frozen k;have hcy:=HCY.out k;have HST:=hid (He xs ys k);have hxk:=nth_lt (HSM.out k) k;have hyk:=nth_lt HS'.out k;by_cases hky:k<l'
   ·obtain ⟨b,off,rfl,hb,hcell⟩:=HA'.out (by omega);have hck:=(HB.out.cell (p:=⟨b,off+k,none⟩) hb).trans (hcell k hky);clear hcell;generalize nth ys k=y at *;generalize Gl xs ys k=s at *;obtain ⟨o,q⟩:=s;simp only at *;generalize nth o k=z at *;have hsub:=fun w=>Ue z y q hcy w
    go_wp2_with (fail)
    go_roundw
    case rel=>exact ⟨k+1,by omega,by go_num,by rw [HST.out];rfl,by rw [HST.out];exact HO.out.stored _ _,HB.out.setCell hg _⟩
    case measure=>simp [intOf];omega
   ·have hd:decide ((k:Int)<(l':Int))=false:=by simp;omega
    have hy0:nth ys k=0:=Kn ys k (by rw [HL'.out];omega);rw [hy0] at HST;clear hy0;generalize Gl xs ys k=s at *;obtain ⟨o,q⟩:=s;simp only at *;generalize nth o k=z at *;have hsub:∀ w,(callFunc 140 #[.int .u64 z,.int .u64 0,.int .u64 q]).run Tryz.prog w=.ok (.value (.tuple #[.int .u64 (Jd z 0 q),.int .u64 (J5 z 0 q)])) w:=fun w=>Ue z 0 q hcy w
    go_wp2_with (fail)
    go_roundw
    case rel=>exact ⟨k+1,by omega,by go_num,by rw [HST.out];rfl,by rw [HST.out];exact HO.out.stored _ _,HB.out.setCell hg _⟩
    case measure=>simp [intOf];omega
  ·obtain rfl:k=l:=by omega
   have hlim:=HO.out.lim (HSM.out _);have HLM:=hid hlim;clear hlim
   go_wp2_with (go_at_call 112;refine (Em HLM.out (by rw [HLN.out];omega)).mono ?_;rintro e w' ⟨v',rfl,hv',rfl⟩;have HV':=hid hv';clear hv')
   go_ret;exact ⟨_,rfl,HV'.out,HB.out⟩
theorem Tr {w:World}{v u:Value}{n m:Nat}(hv:Lim w v (limbs n))(hu:Lim w u (limbs m))(hl:(limbs n).length≤100000)(hle:m≤n) :
 Calls Tryz.prog 134 #[v,u] w (RetLim (limbs (n-m)) w):=by
 have:=Ut hv hu hl;have hll:(limbs m).length≤(limbs n).length:=by
  by_cases h:(limbs n).length<(limbs m).length
  ·have:=C0 n m h;omega
  ·omega
 rwa [Yz _ _ hv.1 hu.1 hll (by rw [val_limbs,val_limbs];exact hle),val_limbs,val_limbs] at this
theorem Xo (x y:Nat)(hx:x<18446744073709551616)(hy:y<18446744073709551616):x*y≤18446744073709551615*18446744073709551615:=Nat.mul_le_mul (by omega) (by omega)
theorem Vm {w:World}{v u:Value}{xs ys:List Nat}(hv:Lim w v xs)(hu:Lim w u ys)(hl:xs.length≤100000)(hl':ys.length≤100000) :
 Calls Tryz.prog 88 #[v,u] w (RetLim (limbs (val (Ii xs ys (xs.length+ys.length) xs.length))) w):=by
 obtain ⟨hs,A,c,rfl,hc,hA⟩:=hv;obtain ⟨hs',A',c',rfl,hc',hA'⟩:=hu;have HS:=hid hs;have HS':=hid hs';have HA:=hid hA;have HA':=hid hA';clear hA hA' hs hs';generalize hlen:xs.length=l at *;generalize hlen':ys.length=l' at *;have HL:=hid hlen;have HL':=hid hlen';clear hlen hlen';have HSM:=hid (Mf xs ys (l+l') HS.out HS'.out);have HLN:=hid (Ij xs ys (l+l'));obtain ⟨i0,hi,hz0,hz1,hz2⟩:=info_parts uinfo;go_enter Tryz.func88,Tryz.ntmps88
 go_wp2_with (at_make;go_must (refine wpList_make_full _ rfl _ _ 22 rfl w.heap.size 40 i0 (.int .u64 0) 1 Tryz.underlying22 hi hz0 hz1 .i64 .i64 _ _ (l+l') rfl rfl (by omega) (by omega) (by rw [hz2];omega) (by unfold maxLen;omega) (by simp) ?_))
 intro w1 hown1 hgrow1;have ho:Hid (Own w1 w.heap.size (.slice (some ⟨w.heap.size,0,none⟩) (l+l') (l+l')) (Ii xs ys (l+l') 0)):=E8 hown1;have hk:Hid (Below w.heap.size w w1):=Below.grown (Below.refl _ _) hgrow1 (by simp) (by intro k hk;cases hk);clear hown1 hgrow1;go_wp2_with fail;generalize hBase:w.heap.size=B at *;have HBASE:=hid hBase;clear hBase
 go_loopw [22] (fun t wr=>∃ k:Nat,k≤l∧t=.int .i64 k∧Own wr B (.slice (some ⟨B,0,none⟩) (l+l') (l+l')) (Ii xs ys (l+l') k)∧Below B w wr) (fun t _=>(l-intOf t).toNat)
 case atStart=>exact ⟨0,Nat.zero_le _,rfl,ho.out,hk.out⟩
 case round =>
  obtain ⟨k,hkl,rfl,hO,hB⟩:=hrel;have HO:=hid hO;have HB:=hid hB;clear hO hB;by_cases hlt:k<l
  ·obtain ⟨b,off,rfl,hb,hcell⟩:=HA.out (by omega);have hck:=(HB.out.cell (p:=⟨b,off+k,none⟩) hb).trans (hcell k hlt);clear hcell;have hxk:=nth_lt HS.out k;have HST:=hid (I4 xs ys (l+l') k);have HSMK:=hid (HSM.out k);have HLNK:=hid (HLN.out k);generalize Ii xs ys (l+l') k=out at *;generalize nth xs k=x at *;have HRS:=hid (H5 out k x ys HSMK.out);have HRC:=hid (Js out k x ys HSMK.out HS'.out hxk);have HRL:=hid (fun j=>(Ew out k x ys j).trans HLNK.out);go_wp2_with fail;obtain ⟨wo,rfl⟩:∃ wo:World,wo=wr:=⟨_,rfl⟩
   go_loopw [8,29] (fun cy t wr=>∃ j:Nat,j≤l'∧t=.int .i64 j∧cy=.int .u64 (Fy out k x ys j).2∧Own wr B (.slice (some ⟨B,0,none⟩) (l+l') (l+l')) (Fy out k x ys j).1∧Below B w wr) (fun _ t _=>(l'-intOf t).toNat)
   case atStart=>exact ⟨0,Nat.zero_le _,rfl,rfl,HO.out,HB.out⟩
   case round =>
    obtain ⟨j,hjl,rfl,rfl,hO,hB⟩:=hrel;clear HO HB hck;have HO:=hid hO;have HB:=hid hB;clear hO hB;by_cases hjt:j<l'
    ·obtain ⟨b',off',rfl,hb',hcell⟩:=HA'.out (by omega);have hck:=(HB.out.cell (p:=⟨b',off'+j,none⟩) hb').trans (hcell j hjt);clear hcell;have hyj:=nth_lt HS'.out j;have ho1:=HO.out.cell (k+j) (by rw [HRL.out];omega);have hf1:=HO.out.frozen (k+j);have hz:=nth_lt (HRS.out j) (k+j);have hcy:=HRC.out j;have HSJ:=hid (Ga out k x ys j);generalize nth ys j=y at *;generalize Fy out k x ys j=s at *;obtain ⟨o,q⟩:=s;simp only at *;generalize nth o (k+j)=z at *;have HM:=hid (fun w=>Xm x y hxk hyj w);have hadd1:∀ w,(callFunc 129 #[.int .u64 (Dd x y),.int .u64 q,.int .u64 0]).run Tryz.prog w=.ok (.value (.tuple #[.int .u64 (Cc (Dd x y) q 0),.int .u64 (Cg (Dd x y) q 0)])) w:=fun w=>Jw _ _ 0 (by omega) w
     have hadd2:∀ w,(callFunc 129 #[.int .u64 z,.int .u64 (Cc (Dd x y) q 0),.int .u64 0]).run Tryz.prog w=.ok (.value (.tuple #[.int .u64 (Cc z (Cc (Dd x y) q 0) 0),.int .u64 (Cg z (Cc (Dd x y) q 0) 0)])) w:=fun w=>Jw _ _ 0 (by omega) w
     have st:=Xp (x*y) q z;have sb:=I5 x y q z hxk hyj hcy hz;have s1:Cc z (Cc (Dd x y) q 0) 0=(x*y+q+z)%18446744073709551616:=by rw [←st.1];rfl
     have s2:Jc x y+Cg (Dd x y) q 0+Cg z (Cc (Dd x y) q 0) 0=(x*y+q+z)/18446744073709551616:=by rw [←st.2];rfl
     have b1:Jc x y+Cg (Dd x y) q 0+Cg z (Cc (Dd x y) q 0) 0≤18446744073709551615:=by rw [s2];omega
     have S1:=hid s1;have S2:=hid s2;clear st sb s1 s2;generalize Jc x y=h1 at *;generalize Dd x y=l1 at *;generalize Cc l1 q 0=l2 at *;generalize Cg l1 q 0=c2 at *;generalize Cg z l2 0=c3 at *;generalize Cc z l2 0=z' at *
     go_wp2_with (go_at_call 128;refine (HM.out _).mono ?_;rintro e w' ⟨rfl,rfl⟩)
     go_roundw
     case rel =>
      refine ⟨j+1,by omega,by go_num,?_,?_,HB.out.setCell (Nat.le_refl _) _⟩
      ·rw [HSJ.out,←S2.out];simp
      ·rw [HSJ.out,←S1.out];exact HO.out.stored _ _
     case measure=>simp [intOf];omega
    ·obtain rfl:j=l':=by omega
     have ho1:=HO.out.cell (k+j) (by rw [HRL.out];omega);have hf1:=HO.out.frozen (k+j);rw [HL'.out] at HST;generalize Fy out k x ys j=s at *;obtain ⟨o,q⟩:=s;simp only at *;go_wp2_with fail;go_roundw
     case rel =>
      refine ⟨k+1,by omega,by go_num,?_,HB.out.setCell (Nat.le_refl _) _⟩;rw [HST.out];exact HO.out.stored _ _
     case measure=>simp [intOf];omega
  ·obtain rfl:k=l:=by omega
   have hlim:=HO.out.lim (HSM.out _);have HLM:=hid hlim;clear hlim
   go_wp2_with (go_at_call 112;refine (Em HLM.out (by rw [HLN.out];omega)).mono ?_;rintro e w' ⟨v',rfl,hv',rfl⟩;have HV':=hid hv';clear hv')
   go_ret;refine ⟨_,rfl,HV'.out,?_⟩;rw [Kept,HBASE.out];exact HB.out
theorem Uf {w:World}{v u:Value}{n m:Nat}(hv:Lim w v (limbs n))(hu:Lim w u (limbs m))(hl:(limbs n).length≤100000)(hl':(limbs m).length≤100000) :
 Calls Tryz.prog 88 #[v,u] w (RetLim (limbs (n*m)) w):=by
 have:=Vm hv hu hl hl';rwa [Xn _ _ hv.1 hu.1,val_limbs,val_limbs] at this
theorem Xx (xs:List Nat)(q i:Nat):nth (xs.drop q) i=nth xs (q+i):=by
 unfold nth;rw [List.getD_eq_getElem?_getD,List.getD_eq_getElem?_getD,List.getElem?_drop]
theorem U7 {w:World}{v:Value}{xs:List Nat}(hv:Lim w v xs)(n:Nat)(hl:xs.length≤100000)(hn:n≤6400000)(hq:n/64<xs.length) :
 Calls Tryz.prog 119 #[v,.int .i64 n] w (RetLim (limbs (val (Cu (xs.drop (n/64)) (n%64) (xs.drop (n/64)).length))) w):=by
 obtain ⟨hs,A,c,rfl,hc,hA⟩:=hv;obtain ⟨b,off,rfl,hb,hcell⟩:=hA (by omega);have hcell':∀ i,i<(xs.drop (n/64)).length→w.cell? ⟨b,off+n/64+i,none⟩=some (.int .u64 (nth (xs.drop (n/64)) i)):=by
  intro i hi;rw [List.length_drop] at hi;rw [Xx,Nat.add_assoc];exact hcell _ (by omega)
 have hs':Small (xs.drop (n/64)):=Gi hs _;have hlen':=List.length_drop (i:=n/64) (l:=xs);generalize hlen:xs.length=l at *;generalize xs.drop (n/64)=ys at *;have HS:=hid hs';have HC:=hid hcell';have HL:=hid hlen';have HLN:=hid (Fl ys (n%64));have HSM:=hid (Kc ys hs' (n%64) (Nat.mod_lt _ (by decide)));clear hlen hcell hcell' hA hs hs' hlen';obtain ⟨i0,hi,hz0,hz1,hz2⟩:=info_parts uinfo;have hqc:n/64<c:=by omega
 generalize hq':n/64=q at *;have HQ:=hid hq';clear hq';obtain ⟨m,rfl⟩:∃ m,l=q+m:=⟨l-q,by omega⟩;have hm:ys.length=m:=by rw [HL.out];omega
 have HM:=hid hm;rw [hm] at HC ⊢;clear hm HL;have dq:decide (((q+m:Nat):Int)≤(n:Int)/64)=false:=by have:=HQ.out;simp;omega
 have e1:(n:Int)/64=(q:Int):=by have:=HQ.out;omega
 go_enter Tryz.func119,Tryz.ntmps119
 go_wp2_with (at_make;go_must (refine wpList_make_full _ rfl _ _ 22 rfl w.heap.size 40 i0 (.int .u64 0) 1 Tryz.underlying22 hi hz0 hz1 .i64 .i64 _ _ m rfl rfl (by omega) (by omega) (by rw [hz2];omega) (by unfold maxLen;omega) (by simp) ?_))
 intro w1 hown1 hgrow1;have ho:Hid (Own w1 w.heap.size (.slice (some ⟨w.heap.size,0,none⟩) m m) (List.replicate m 0)):=E8 hown1;have hk:Hid (Below w.heap.size w w1):=Below.grown (Below.refl _ _) hgrow1 (by simp) (by intro k hk;cases hk);clear hown1 hgrow1;go_wp2_with fail;generalize hBase:w.heap.size=B at *;have HBASE:=hid hBase;clear hBase
 go_loopw [22] (fun t wr=>∃ k:Nat,k≤m∧t=.int .i64 k∧Own wr B (.slice (some ⟨B,0,none⟩) m m) (Cu ys (n%64) k)∧Below B w wr) (fun t _=>(m-intOf t).toNat)
 case atStart=>exact ⟨0,Nat.zero_le _,rfl,by rw [Cu,HM.out];exact ho.out,hk.out⟩
 case round =>
  obtain ⟨k,hkl,rfl,hO,hB⟩:=hrel;have HO:=hid hO;have HB:=hid hB;clear hO hB;by_cases hlt:k<m
  ·have hck:=(HB.out.cell (p:=⟨b,off+q+k,none⟩) hb).trans (HC.out k hlt);have ho1:=HO.out.cell k (by rw [HLN.out,HM.out];omega);have hf1:=HO.out.frozen k;have hxk:=nth_lt HS.out k;have hyk:=nth_lt HS.out (k+1);by_cases hl1:k+1<m
   ·have hck2:=(HB.out.cell (p:=⟨b,off+q+(k+1),none⟩) hb).trans (HC.out (k+1) hl1);have HST:Hid (Cu ys (n%64) (k+1)=(Cu ys (n%64) k).set k ((nth ys k/2^(n%64)) ||| (nth ys (k+1)*2%18446744073709551616*2^(63-n%64)%18446744073709551616))):=by
     show (Cu ys (n%64) k).set k (Gh ys (n%64) k)=_
     unfold Gh;rw [if_pos (by rw [HM.out];exact hl1)]
    generalize Cu ys (n%64) k=o at *;generalize nth ys k=x at *;generalize nth ys (k+1)=y at *;generalize nth o k=z at *;go_wp2_with fail;go_region;go_wp2_with fail;go_roundw
    case rel =>
     refine ⟨k+1,by omega,by go_num,?_,((HB.out.setCell (Nat.le_refl _) _).setCell (Nat.le_refl _) _).drew⟩;have hx2:x/2^(n%64)<18446744073709551616:=Nat.lt_of_le_of_lt (Nat.div_le_self _ _) hxk;rw [Lx,show (2:Int)=2^1 from rfl,Gr,Int.pow_succ,Int.pow_zero,Int.one_mul,Gr,or_u64 _ _ hx2 (Nat.mod_lt _ (by decide)),HST.out];have h1:=(HO.out.stored k (x/2^(n%64))).stored k (x/2^(n%64) ||| y*2^1%18446744073709551616*2^(63-n%64)%18446744073709551616);rw [List.set_set] at h1;exact h1
    case measure=>simp [intOf];omega
   ·have HST:Hid (Cu ys (n%64) (k+1)=(Cu ys (n%64) k).set k (nth ys k/2^(n%64))):=by
     show (Cu ys (n%64) k).set k (Gh ys (n%64) k)=_
     unfold Gh;rw [if_neg (by rw [HM.out];exact hl1)]
    generalize Cu ys (n%64) k=o at *;generalize nth ys k=x at *;generalize nth o k=z at *;go_wp2_with fail;go_roundw
    case rel =>
     refine ⟨k+1,by omega,by go_num,?_,HB.out.setCell (Nat.le_refl _) _⟩;rw [Lx,HST.out];exact HO.out.stored _ _
    case measure=>simp [intOf];omega
  ·obtain rfl:k=m:=by omega
   have hlim:=HO.out.lim (HSM.out _);have HLM:=hid hlim;clear hlim
   go_wp2_with (go_at_call 112;refine (Em HLM.out (by rw [HLN.out,HM.out];omega)).mono ?_;rintro e w' ⟨v',rfl,hv',rfl⟩;have HV':=hid hv';clear hv')
   go_ret;refine ⟨_,rfl,HV'.out,?_⟩;rw [Kept,HBASE.out];exact HB.out
theorem Lw {w:World}{v:Value}{m:Nat}(hv:Lim w v (limbs m))(n:Nat)(hl:(limbs m).length≤100000)(hn:n≤6400000) :
 Calls Tryz.prog 119 #[v,.int .i64 n] w (RetLim (limbs (m/2^n)) w):=by
 by_cases hq:n/64<(limbs m).length
 ·have:=U7 hv n hl hn hq;rwa [U6 _ hv.1,val_limbs] at this
 ·have h0:m/2^n=0:=by
   apply Nat.div_eq_of_lt;have a:=lt_pow_length m;have b:18446744073709551616^(limbs m).length≤18446744073709551616^(n/64):=Nat.pow_le_pow_right (by decide) (by omega);have c:18446744073709551616^(n/64)≤2^n:=by
    rw [Gz n];exact Nat.le_mul_of_pos_left _ (Nat.pow_pos (by decide))
   omega
  rw [h0,limbs_zero];obtain ⟨hs,A,c,rfl,hc,hA⟩:=hv;clear hs hA hc h0;refine Calls.mono (R:=fun e w'=>e=.returned (.slice none 0 0)∧w=w') ?_ (fun e w' ⟨he,hw⟩=>by subst hw;exact ⟨_,he,Lim.nil _ _ _,Below.refl _ _⟩);generalize (limbs m).length=l at *;have dq:decide ((l:Int)≤(n:Int)/64)=true:=by simp;omega
  go_enter Tryz.func119,Tryz.ntmps119;go_wp2_with fail;go_ret;exact ⟨rfl,rfl⟩
end Go.Proofs.YtinbgjcooolbiaaGreatDoor
