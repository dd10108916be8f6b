/- Words and contracts, part 7. -/
import Derived.Test.YtabjjdicffcolaaGreatDoorClaimSholdp03
import Derived.Test.YtabjjdicffcolaaGreatDoorClaimSholdp04
import Derived.Test.YtabjjdicffcolaaGreatDoorClaimSholdp05
import Derived.Test.YtabjjdicffcolaaGreatDoorClaimSholdp06
import Derived.Deep.QuietTactic
import Derived.BigQuiet
import Derived.Deep.RegionHeld3
import Derived.StillTailTactics
import Derived.Deep.DeepCutAuto
import Derived.Deep.CutBlock
set_option maxRecDepth 100000
set_option maxHeartbeats 0
namespace Go.Proofs.YtabjjdicffcolaaGreatDoor
open Go.Lib (hid)
open Go.RowKit
variable {post pre wl xs ys:List Nat} {N base c cap g m n x:Nat} {u v:Value} {a w:World}
theorem Bl (b:Bool):b=true∨b=false:=by cases b<;>simp
theorem Als (hv:Lim w v xs)(hl:xs.length≤17592186044416) :
 Calls Tryz.prog 90 #[v] w (RetQ (.bool (Nx xs)) w):=by
 obtain ⟨hs,A,c,rfl,hc,hA⟩:=hv;unfold Nx;by_cases h0:xs.length=0
 ·rw [h0];clear hs hA;have HL:=hid h0;clear h0 hl hc;go_enter Tryz.func90,Tryz.ntmps90;go_wp2;go_ret;exact RetQ.mk0 _ _
 ·obtain ⟨b,off,rfl,hb,hcell⟩:=hA (by omega);have hck:=hcell (xs.length-1) (by omega);clear hcell hs hA hb;generalize nth xs (xs.length-1)=x at *;generalize xs.length=m at *;obtain ⟨l,rfl⟩:∃ l,m=l+1:=⟨m-1,by omega⟩;clear h0;rw [Nat.add_sub_cancel] at hck;have e0:(l+1==0)=false:=by simp
  rw [e0,Bool.false_or];clear e0;have e1:(((l+1:Nat):Int)==0)=false:=by simp;omega
  by_cases h1:l+1≤64
  ·have d1:decide (l+1≤64)=true:=by simpa using h1
   rw [d1,Bool.true_and];have e3:(x != 0)=(((x:Nat):Int) != 0):=by
    by_cases hx:x=0
    ·subst hx;rfl
    ·have:((x:Nat):Int)≠0:=by omega
     rw [bne_iff_ne.2 hx,bne_iff_ne.2 this]
   rw [e3];clear e3 d1;go_enter Tryz.func90,Tryz.ntmps90;go_wp2;go_ret;exact RetQ.mk0 _ _
  ·have d1:decide (l+1≤64)=false:=by simpa using h1
   rw [d1,Bool.false_and];clear d1;go_enter Tryz.func90,Tryz.ntmps90;go_wp2;go_ret;exact RetQ.mk0 _ _
theorem Id (hv:Lim w v xs)(hl:xs.length≤17592186044416) :
 Calls Tryz.prog 82 #[v] w (Vj (limbs (val xs)) w):=by
 have hv':=hv;obtain ⟨hs,A,c,rfl,hc,hA⟩:=hv;refine Calls.mono (R:=fun e w'=>e=.returned (.slice A (tl xs) c)∧w=w') ?_ (fun e w' ⟨he,hw⟩=>⟨_,he,hv'.trimmed,hw⟩);clear hv';have HA:=hid hA;clear hA hs;generalize hn:xs.length=n at *;have htl:tl xs=Dw xs n:=by unfold tl;rw [hn]
 rw [htl];clear hn htl;go_enter Tryz.func82,Tryz.ntmps82;go_wp2
 go_loop [0] (fun s=>∃ k:Nat,k≤n∧s=.slice A k c∧Dw xs k=Dw xs n) (fun s=>match s with | .slice _ k _=>k | _=>0)
 case atStart=>exact ⟨n,Nat.le_refl _,rfl,rfl⟩
 case round =>
  obtain ⟨k,hk,rfl,ht⟩:=hrel;have HT:=hid ht;clear ht;cases k with
  | zero =>
    go_wp2;go_ret;exact ⟨by rw [←HT.out];rfl,rfl⟩
  | succ k =>
    obtain ⟨b,off,rfl,hb,hcell⟩:=HA.out (by omega);have hck:=hcell k (by omega);clear hcell;by_cases hz:nth xs k=0
    ·rw [hz] at hck;have HZ:=hid hz;clear hz;go_wp2
     go_round
     case rel=>exact ⟨k,by omega,by go_num,by rw [←HT.out,Dw,if_pos HZ.out]⟩
     case measure=>simp
    ·have hz':((nth xs k:Int)==0)=false:=by simp;omega
     have HZ:=hid hz;clear hz;go_wp2;go_ret;exact ⟨by rw [←HT.out,Dw,if_neg HZ.out];rfl,rfl⟩
theorem L7 (hv:Lim w v (limbs n))(hl:(limbs n).length≤17592186044416) :
 Calls Tryz.prog 112 #[v] w (RetQ (.int .i64 (bl n)) w):=by
 obtain ⟨hs,A,c,rfl,hc,hA⟩:=hv;by_cases h0:n=0
 ·subst h0;rw [Au];clear hs hA hc hl;have e:((bl 0:Nat):Int)=0:=rfl;rw [e];clear e;go_enter Tryz.func112,Tryz.ntmps112;go_wp2;go_ret;exact RetQ.mk0 _ _
 ·have hp:=Bc n h0;obtain ⟨b,off,rfl,hb,hcell⟩:=hA hp;have hck:=hcell ((limbs n).length-1) (by omega);have hlt:=nth_lt hs ((limbs n).length-1);have hbl:bl n=64*((limbs n).length-1)+bl (nth (limbs n) ((limbs n).length-1)):=Rx n h0;have hb64:bl (nth (limbs n) ((limbs n).length-1))≤64:=O7 _ hlt;rw [hbl];clear hcell hs hA hb hbl h0;generalize nth (limbs n) ((limbs n).length-1)=x at *;generalize (limbs n).length=m at *;obtain ⟨l,rfl⟩:∃ l,m=l+1:=⟨m-1,by omega⟩;clear hp;rw [Nat.add_sub_cancel] at *;have e1:(((l+1:Nat):Int)==0)=false:=by simp;omega
  go_enter Tryz.func112,Tryz.ntmps112
  go_wp2_with (go_at_call 160;refine (Alp _ _ (by omega)).mono ?_;rintro e w' ⟨rfl,rfl⟩)
  go_ret;exact ⟨F8 (by omega),0,rfl⟩
theorem Dp (n i:Nat):nth (limbs n) i<18446744073709551616:=nth_lt (Dj n) i
def sgn (b:Bool):Int:=if b then -1 else 1
theorem Abf (b:Bool)(w:World):Calls Tryz.prog 161 #[.bool b] w (RetQ (.int .i64 (sgn b)) w):=by
 cases b
 ·go_enter Tryz.func161,Tryz.ntmps161;go_wp2;go_ret;exact RetQ.mk0 _ _
 ·go_enter Tryz.func161,Tryz.ntmps161;go_wp2;go_ret;exact RetQ.mk0 _ _
theorem L3 (hv:Lim w v (limbs n))(hu:Lim w u (limbs m))(hl:(limbs n).length≤17592186044416)(_hl':(limbs m).length≤17592186044416) :
 Calls Tryz.prog 113 #[v,u] w (RetQ (.int .i64 (Du n m)) w):=by
 obtain ⟨hs,A,c,rfl,hc,hA⟩:=hv;obtain ⟨hs',A',c',rfl,hc',hA'⟩:=hu;by_cases hne:(limbs n).length=(limbs m).length
 ·have ht:=Lk           n m hne;rw [←ht];have HA:=hid hA;have HA':=hid hA';rw [←hne] at HA' hc' ⊢;clear hA hA' hs hs' ht hne;have hx:=Dp           n;have hy:=Dp           m;generalize limbs n=xs at *;generalize limbs m=ys at *;generalize hnx:xs.length=l at *;clear hnx;have HX:=hid hx;have HY:=hid hy;clear hx hy;have en:(((l:Nat):Int) != (l:Int))=false:=by simp
  go_enter Tryz.func113,Tryz.ntmps113;go_wp2
  go_loopw [5] (fun i wr=>∃ k:Nat,k≤l∧i=.int .i64 ((k:Int)-1)∧(∃ q,wr=w.drewN q)∧E5 xs ys k=E5 xs ys l) (fun i _=>(intOf i+1).toNat)
  case atStart=>exact ⟨l,Nat.le_refl _,rfl,⟨0,rfl⟩,rfl⟩
  case round =>
   obtain ⟨k,hk,rfl,⟨q,rfl⟩,ht⟩:=hrel;have HT:=hid ht;clear ht;cases k with
   | zero =>
     go_wp2;go_ret;refine ⟨?_,q,rfl⟩;rw [←HT.out];rfl
   | succ k =>
     obtain ⟨b,off,rfl,hb,hcell⟩:=HA.out (by omega);have hck:=hcell k (by omega);clear hcell;obtain ⟨b',off',rfl,hb',hcell⟩:=HA'.out (by omega);have hck':=hcell k (by omega);have hkl:k<l:=by omega
     have hxk:=HX.out k;have hyk:=HY.out k;clear hcell;have HE:=hid (show E5 xs ys (k+1)=if nth xs k=nth ys k then E5 xs ys k else if nth xs k<nth ys k then -1 else 1 from rfl);generalize nth xs k=x at *;generalize nth ys k=y at *;by_cases he:x=y
     ·subst he;have e1:(((x:Nat):Int) != (x:Int))=false:=by simp
      go_wp2
      go_quiet (fail)
      go_wp2;go_roundw
      case rel=>exact ⟨k,by omega,by go_num,⟨_,rfl⟩,by rw [←HT.out,HE.out];simp⟩
      case measure=>simp [intOf]
     ·have e1:(((x:Nat):Int) != (y:Int))=true:=by simp;omega
      have HN:=hid he;clear he;by_cases hlt:x<y
      ·have e2:decide ((x:Int)<(y:Int))=true:=by simp;omega
       go_wp2
       go_quiet (fail)
       go_wp2
       go_quiet ((go_at_call 161;exact Aa6 (Abf _ _)))
       go_wp2;go_ret;refine ⟨F8 ?_,by simp only [World.drewN_drewN];exact ⟨_,rfl⟩⟩;rw [←HT.out,HE.out,if_neg HN.out,if_pos hlt];rfl
      ·have e2:decide ((x:Int)<(y:Int))=false:=by simp;omega
       go_wp2
       go_quiet (fail)
       go_wp2
       go_quiet ((go_at_call 161;exact Aa6 (Abf _ _)))
       go_wp2;go_ret;refine ⟨F8 ?_,by simp only [World.drewN_drewN];exact ⟨_,rfl⟩⟩;rw [←HT.out,HE.out,if_neg HN.out,if_neg hlt];rfl
 ·have en:((((limbs n).length:Nat):Int) != ((limbs m).length:Int))=true:=by simp;omega
  have hcm:Du n m=sgn (decide ((limbs n).length<(limbs m).length)):=by
   by_cases hlt:(limbs n).length<(limbs m).length
   ·have:=Ft n m hlt;simp [Du,sgn,hlt,this]
   ·have:=Ft m n (by omega);simp only [Du,sgn,hlt];rw [if_neg (by omega),if_neg (by omega)];rfl
  rw [hcm];clear hcm hne hA hA' hs hs';generalize (limbs n).length=l at *;generalize (limbs m).length=l' at *;have ed:decide (((l:Nat):Int)<(l':Int))=decide (l<l'):=by simp
  have HD:=hid ed;clear ed;go_enter Tryz.func113,Tryz.ntmps113
  go_wp2_with (go_at_call 161;refine (Abf _ _).mono ?_;rintro e w' ⟨rfl,q,rfl⟩)
  go_ret;exact ⟨rfl,_,rfl⟩
theorem Ac6 (hv:Lim w v (limbs n))(hl:(limbs n).length≤17592186044416)(hn:n≠0)(hT:Tab w) :
 Calls Tryz.prog 116 #[v] w (RetQ (.int .i64 (tz n)) w):=by
 obtain ⟨hs,A,c,rfl,hc,hA⟩:=hv;have hp:=Bc n hn;obtain ⟨b,off,rfl,hb,hcell⟩:=hA hp;have ht:=Aem n hn;rw [←ht];have hnz:=Js n hn;have hx:=Dp n;generalize limbs n=xs at *;generalize hnx:xs.length=l at *;have HC:=hid hcell;have HX:=hid hx;have HNZ:=hid hnz;have HT:=hid hT;clear hcell hx hnz ht hA hs hT;go_enter Tryz.func116,Tryz.ntmps116;go_wp2
 go_loop [7] (fun t=>∃ k:Nat,k≤l∧t=.int .i64 k∧tzL xs=64*k+tzL (xs.drop k)∧∀ j,j<k→nth xs j=0) (fun t=>(l-intOf t).toNat)
 case atStart=>exact ⟨0,Nat.zero_le _,rfl,by simp,fun j hj=>absurd hj (by omega)⟩
 case round =>
  obtain ⟨k,hk,rfl,h1,h2⟩:=hrel;have hkl:k<l:=by
   by_cases e:k<l
   ·exact e
   ·exact absurd (h2 (l-1) (by omega)) HNZ.out
  have hck:=HC.out k hkl;have hxk:=HX.out k;have hd:=Ahv xs k (by omega);rw [hd] at h1;have H1:=hid h1;have H2:=hid h2;have HXK:Hid (nth xs k=nth xs k):=rfl;clear h1 h2 hd;by_cases hx0:nth xs k=0
  ·have H1':=H1.out;rw [if_pos hx0] at H1';rw [hx0] at hck;have HD:=hid H1';have H0:=hid hx0;clear H1' hx0 hxk;go_wp2
   go_round
   case rel=>exact ⟨k+1,by omega,by go_num,by rw [HD.out];omega,fun j hj=>by
    by_cases e:j=k
    ·rw [e];exact H0.out
    ·exact H2.out j (by omega)⟩
   case measure=>simp [intOf];omega
  ·have H1':=H1.out;rw [if_neg hx0] at H1';rw [H1'];have htz:=M8 _ 64 hx0 (by omega);generalize nth xs k=x at *;have e1:(((x:Nat):Int) != 0)=true:=by simp;omega
   have HX0:=hid hx0;clear H1' hx0
   go_wp2_with (go_at_call 162;refine (Anz _ hxk HX0.out _ HT.out).mono ?_;rintro e w' ⟨rfl,rfl⟩)
   go_ret;exact ⟨F8 (by omega),0,rfl⟩
theorem Nd (hv:Lim w v xs)(hl:xs.length≤1000000) :
 Calls Tryz.prog 81 #[v] w fun e w'=>∃ v',e=.returned v'∧Own w' w.heap.size v' xs∧Kept w w':=by
 obtain ⟨hs,A,c,rfl,hc,hA⟩:=hv;cases A with
 | none =>
   have h0:xs.length=0:=by
    by_cases h:0<xs.length
    ·obtain ⟨b,off,h1,_⟩:=hA h;cases h1
    ·omega
   obtain rfl:xs=[]:=List.eq_nil_of_length_eq_zero h0;clear hA hl hc h0 hs;refine Calls.mono (R:=fun e w'=>e=.returned (.slice none 0 0)∧w=w') ?_ (fun e w' ⟨he,hw⟩=>by subst hw;exact ⟨_,he,World.ownsRow_nil _ _ _ _,Below.refl _ _⟩);have e1:=fun (w:World)=>Lib.run_eql_slice_nil (P:=Tryz.prog) w 26 55 none 0 c 0 0 Tryz.underlying26
   go_enter Tryz.func81,Tryz.ntmps81;go_wp2_with fail;go_ret;exact ⟨rfl,rfl⟩
 | some a =>
   have e1:=fun (w:World)=>Lib.run_eql_slice_nil (P:=Tryz.prog) w 26 55 (some a) xs.length c 0 0 Tryz.underlying26
   go_enter Tryz.func81,Tryz.ntmps81;obtain ⟨i0,hi,hz0,hz1,hz2⟩:=info_parts Na;have hown:(w.alloc (.cells #[] 55)).ownsRow w.heap.size 55 1 (.slice (some ⟨w.heap.size,0,none⟩) 0 0) 0 []:=World.ownsRow_made w #[] 0 (Nat.le_refl _) (by decide) rfl;have hlim:Lim (w.alloc (.cells #[] 55)) (.slice (some a) xs.length c) xs:=Lim.kept ⟨hs,some a,c,rfl,hc,hA⟩ ((Below.refl _ _).alloc (Nat.le_refl _) _);have H1:=hid hown;have H2:=hid hlim;clear hown hlim hA hs
   go_wp2_with (at_builtin;refine wpList_append_own _ rfl _ _ 26 rfl w.heap.size 55 i0 (.int .u64 0) 1 8 Tryz.underlying26 hi hz0 hz1 hz2 rfl (by decide) _ 0 [] rfl H1.out a xs.length c (xs.map U) rfl (by simp) H2.out.news (U5 xs) (by unfold maxLen;omega) (by omega) (by simp) ?_)
   intro v' w1 hown1 hgrow _;have hk:Kept w w1:=Below.grown ((Below.refl _ _).alloc (Nat.le_refl _) _) hgrow (by simp) (by intro k hk;have:w.heap.size=k:=Option.some.inj hk;omega);have HO:Hid (Own w1 w.heap.size v' xs):=Eb (xs:=[]) hown1;have HK:=hid hk;clear hown1 hgrow hk;go_wp2;go_ret;exact ⟨_,rfl,HO.out,HK.out⟩
theorem Vu (hv:Lim w v xs)(hl:xs.length≤1000000) :
 Calls Tryz.prog 81 #[v] w (RetLim xs w) :=
 (Nd hv hl).mono fun _ _ ⟨v',he,ho,hk⟩=>⟨v',he,ho.lim hv.1,hk⟩
theorem Ku (xs:List Nat)(h:Small xs):(limbs (val xs)).length≤xs.length:=by
 rw [←Py xs h,List.length_take];exact Nat.min_le_right _ _
theorem Ajj (hv:Lim w v xs)(hl:xs.length≤1000000) :
 Calls Tryz.prog 42 #[v] w (RetLim (limbs (val xs)) w):=by
 have hb:=Ku xs hv.1;have HV:=hid hv;clear hv;go_enter Tryz.func42,Tryz.ntmps42
 go_wp2_with (first
  | (go_at_call 82;refine (Id HV.out (by omega)).mono ?_;rintro e w' ⟨v',rfl,hv',rfl⟩;have HV':=hid hv';clear hv')
  | (go_at_call 81;refine (Vu HV'.out (by omega)).mono ?_;rintro e w' ⟨v2,rfl,hv2,hk⟩;have HV2:=hid hv2;have HK:=hid hk;clear hv2 hk))
 go_ret;exact ⟨_,rfl,HV2.out,HK.out⟩
theorem Wo (a b:Nat)(ha:a<18446744073709551616)(hb:b<18446744073709551616):bits .or .u64 (a:Int) (b:Int)=((a ||| b:Nat):Int):=bits_or_u64_nat a b ha hb
theorem Ns (x r:Nat):IntKind.u64.wrap ((x:Int)*2^r)=((x*2^r%18446744073709551616:Nat):Int):=by
 rw [IntKind.wrap_u64];simp
theorem Rq (x r:Nat):(x:Int)/2^r=((x/2^r:Nat):Int):=by
 simp
theorem Ag8 (x:Nat):(x:Int)/2=((x/2:Nat):Int):=by omega
theorem Afy (hv:Lim w v xs)(n:Nat)(hl:xs.length≤100000)(h0:0<xs.length)(hn:n≤6400000) :
 Calls Tryz.prog 114 #[v,.int .i64 n] w (RetLim (limbs (val (Fw xs (n/64) (n%64) (n/64+xs.length+1) xs.length))) w):=by
 obtain ⟨hs,A,c,rfl,hc,hA⟩:=hv;obtain ⟨b,off,rfl,hb,hcell⟩:=hA h0;have HC:=hid hcell;have hx:=nth_lt hs;have HX:=hid hx;have HS:=hid hs;clear hcell hA hx hs;obtain ⟨i0,hi,hz0,hz1,hz2⟩:=info_parts Na;generalize hlen:xs.length=l at *;have HF:=hid (Lx xs (n/64) (n%64) (n/64+l+1));have HL:=hid hlen;have HSM:=hid (Q4 xs HS.out (n/64) (n%64) (n/64+l+1));clear hlen;have e0:(((l:Nat):Int)==0)=false:=by rw [beq_eq_false_iff_ne];omega
 go_enter Tryz.func114,Tryz.ntmps114
 go_wp2_with (at_make;go_must (refine wpList_make_full _ rfl _ _ 26 rfl w.heap.size 55 i0 (.int .u64 0) 1 Tryz.underlying26 hi hz0 hz1 .i64 .i64 _ _ (n/64+l+1) rfl rfl (by omega) (by omega) (by rw [hz2];omega) (by unfold maxLen;omega) (by simp) ?_))
 intro w1 hown1 hgrow1;have ho:Hid (Own w1 w.heap.size (.slice (some ⟨w.heap.size,0,none⟩) (n/64+l+1) (n/64+l+1)) (Fw xs (n/64) (n%64) (n/64+l+1) 0)):=Jw hown1;have hk:Hid (Below w.heap.size w w1):=Below.grown (Below.refl _ _) hgrow1 (by simp) (by intro k hk;cases hk);clear hown1 hgrow1;go_wp2_with fail
 go_loopw [20] (fun t wr=>∃ k:Nat,k≤l∧t=.int .i64 k∧Own wr w.heap.size (.slice (some ⟨w.heap.size,0,none⟩) (n/64+l+1) (n/64+l+1)) (Fw xs (n/64) (n%64) (n/64+l+1) k)∧Below w.heap.size w wr) (fun t _=>(l-intOf t).toNat)
 case atStart=>exact ⟨0,Nat.zero_le _,rfl,ho.out,hk.out⟩
 case round =>
  obtain ⟨k,hkl,rfl,hO,hB⟩:=hrel;have HO:=hid hO;have HB:=hid hB;clear hO hB;by_cases hlt:k<l
  ·have hck:=(HB.out.cell (p:=⟨b,off+k,none⟩) hb).trans (HC.out k hlt);have ho1:=HO.out.cell (n/64+k) (by rw [HF.out];omega);have ho2:=HO.out.cell (n/64+k+1) (by rw [HF.out];omega);have hf1:=HO.out.frozen (n/64+k);have hf2:=HO.out.frozen (n/64+k+1);have hxk:=HX.out k;have HST:=hid (show Fw xs (n/64) (n%64) (n/64+l+1) (k+1)=Ks (Fw xs (n/64) (n%64) (n/64+l+1) k) (n/64) (n%64) k (nth xs k) from rfl);have HY:Hid (nth (Fw xs (n/64) (n%64) (n/64+l+1) k) (n/64+k)<18446744073709551616∧nth (Fw xs (n/64) (n%64) (n/64+l+1) k) (n/64+k+1)<18446744073709551616):=⟨nth_lt (HSM.out k) _,nth_lt (HSM.out k) _⟩
   unfold Ks at HST;generalize Fw xs (n/64) (n%64) (n/64+l+1) k=out at *;generalize nth xs k=x at *;generalize nth out (n/64+k)=y0 at *;generalize nth out (n/64+k+1)=y1 at *;go_wp2_with fail;go_roundw
   case rel =>
    refine ⟨k+1,by omega,by go_num,?_,(HB.out.setCell (by simp) _).setCell (by simp) _⟩;rw [Ns,Ag8,Rq,Wo _ _ HY.out.1 (Nat.mod_lt _ (by decide)),Wo _ _ HY.out.2 (Nat.lt_of_le_of_lt (Nat.div_le_self _ _) (Nat.lt_of_le_of_lt (Nat.div_le_self _ _) hxk)),HST.out];exact (HO.out.stored _ _).stored _ _
   case measure=>simp [intOf];omega
  ·obtain rfl:k=l:=by omega
   have hlim:=HO.out.lim (HSM.out _);have HLM:=hid hlim;clear hlim
   go_wp2_with (go_at_call 82;refine (Id HLM.out (by rw [HF.out];omega)).mono ?_;rintro e w' ⟨v',rfl,hv',rfl⟩;have HV':=hid hv';clear hv')
   go_ret;exact ⟨_,rfl,HV'.out,HB.out⟩
theorem M5 (h:Small xs):Small (xs++[0]):=by
 intro x hx;rcases List.mem_append.1 hx with hx | hx
 ·exact h x hx
 ·have:x=0:=by simpa using hx
  omega
theorem E3 (w:World)(u:Value)(T:TypeId):∀ j x,[u][j]?=some x→(w.alloc (.cells #[u] T)).cell? ((⟨w.heap.size,0,none⟩:Addr).add j)=some x:=by
 intro j x hj
 match j,hj with
 | 0, hj =>
   have:u=x:=by simpa using hj
   subst this;simp [Addr.add,go_sem]
 | j+1,hj=>simp at hj
theorem Ym (hv:Lim w v xs)(hu:Lim w u ys)(hl:xs.length≤100000)(hle:ys.length≤xs.length)
 {args:Array Value} (hargs:args=#[v,u]∨args=#[u,v]∧ys.length<xs.length) :
 Calls Tryz.prog 194 args w (RetLim (limbs (val (D5 (xs++[0]) ys (xs.length+1)).1)) w):=by
 have hv':=hv;obtain ⟨hs,A,c,rfl,hc,hA⟩:=hv;obtain ⟨hs',A',c',rfl,hc',hA'⟩:=hu;have HV:=hid hv';have HS:=hid hs;have HA':=hid hA';have HS':=hid hs';clear hA hA' hv' hs hs';generalize hlen:xs.length=l,hlen':ys.length=l' at *;have HL:=hid hlen;have HL':=hid hlen';clear hlen hlen';obtain ⟨i0,hi,hz0,hz1,hz2⟩:=info_parts Na;rcases hargs with rfl | ⟨rfl,hlt'⟩
 all_goals
  go_enter Tryz.func194,Tryz.ntmps194;go_wp2_with fail;go_step3
  go_wp2_with (first
   | (go_at_call 81;refine (Nd HV.out (by rw [HL.out];omega)).mono ?_;rintro e w1 ⟨v1,rfl,ho,hk⟩;have HO:=hid ho;have HK:=hid hk;clear ho hk)
   | (at_builtin;go_must (refine wpList_append_own _ rfl _ _ 26 rfl w.heap.size 55 i0 (.int .u64 0) 1 8 Tryz.underlying26 hi hz0 hz1 hz2 rfl (by decide) _ xs.length (xs.map U) rfl (HO.out.alloc _) ⟨w1.heap.size,0,none⟩ 1 1 [.int .u64 0] rfl rfl (E3 w1 _ _) (by simp [Value.oneCell']) (by unfold maxLen;rw [HL.out];omega) (by rw [HL.out];omega) (by have:=HK.out.size;simp;omega) ?_)))
  intro v' w2 hown2 hgrow2 _;have ho:Hid (Own w2 w.heap.size v' (xs++[0])):=Eb (ys:=[0]) hown2;have hk:Hid (Below w.heap.size w w2):=Below.grown (HK.out.alloc HK.out.size _) hgrow2 (by have:=HK.out.size;simp;omega) (fun k hk=>(World.ownsRow.lt HO.out k hk).1);clear hown2 hgrow2;obtain ⟨g,cap,rfl,hg,_,hcap⟩:=ho.out.shape (by simp);have el:(xs++[0]).length=l+1:=by rw [List.length_append,HL.out];rfl
  rw [el] at ho hcap ⊢;have HC:=hid el;clear el HO HK;go_wp2_with fail;go_step3;go_wp2_with fail;have HSM:=hid (Gv (xs++[0]) ys (M5 HS.out));have HCY:=hid (Lf (xs++[0]) ys (M5 HS.out) HS'.out);have HLN:=hid (fun k=>(Fp (xs++[0]) ys k).trans HC.out);have HSTOP:=hid (Uh (xs++[0]) ys (M5 HS.out))
  go_loopw [6,22] (fun cy t wr=>∃ k:Nat,k≤l+1∧t=.int .i64 k∧cy=.int .u64 (D5 (xs++[0]) ys k).2∧Own wr w.heap.size (.slice (some ⟨g,0,none⟩) (l+1) cap) (D5 (xs++[0]) ys k).1∧Below w.heap.size w wr) (fun _ t _=>(l+1-intOf t).toNat)
  case atStart=>exact ⟨0,Nat.zero_le _,rfl,rfl,ho.out,hk.out⟩
  case round =>
   obtain ⟨k,hkl,rfl,rfl,hO,hB⟩:=hrel;have HO:=hid hO;have HB:=hid hB;clear hO hB;by_cases hlt:k<l+1
   ·have ho1:=HO.out.cell k (by rw [HLN.out];omega);have hf1:=HO.out.frozen k;have hcy:=HCY.out k;have HST:=hid (Hp (xs++[0]) ys k);have hxk:=nth_lt (HSM.out k) k;by_cases hky:k<l'
    ·obtain ⟨b,off,rfl,hb,hcell⟩:=HA'.out (by omega);have hck:=(HB.out.cell (p:=⟨b,off+k,none⟩) hb).trans (hcell k hky);have hyk:=nth_lt HS'.out k;clear hcell;generalize nth ys k=y at *;generalize D5 (xs++[0]) ys k=s at *;obtain ⟨o,q⟩:=s;simp only at *;generalize nth o k=z at *;have hadd:=fun w=>Oz z y q hcy w
     go_wp2_with (fail)
     go_roundw
     case rel=>exact ⟨k+1,by omega,by go_num,by rw [HST.out];rfl,by rw [HST.out];exact HO.out.stored _ _,HB.out.setCell hg _⟩
     case measure=>simp [intOf];omega
    ·have hd:decide ((k:Int)<(l':Int))=false:=by simp;omega
     have hyk:nth ys k=0:=Qi ys k (by rw [HL'.out];omega);rw [hyk] at HST;clear hyk;by_cases hq:(D5 (xs++[0]) ys k).2=0
     ·have hfin:(D5 (xs++[0]) ys (l+1)).1=(D5 (xs++[0]) ys k).1:=by
       have:=HSTOP.out k (by rw [HL'.out];omega) hq (l+1-k) (by rw [HC.out];omega);rw [show k+(l+1-k)=l+1 by omega] at this;rw [this]
      have hlim:=HO.out.lim (HSM.out k);rw [←hfin] at hlim;have HLM:=hid hlim;rw [hq];have HQ:=hid hq;clear hlim hq hfin hcy
      go_wp2_with (go_at_call 82;refine (Id HLM.out (by rw [HLN.out];omega)).mono ?_;rintro e w' ⟨v',rfl,hv',rfl⟩;have HV':=hid hv';clear hv')
      rw [Exit.noGoto_ret];go_ret;exact ⟨_,rfl,HV'.out,HB.out⟩
     ·generalize D5 (xs++[0]) ys k=s at *;obtain ⟨o,q⟩:=s;simp only at *;have hq1:(((q:Nat):Int)==0)=false:=by rw [beq_eq_false_iff_ne];omega
      generalize nth o k=z at *;have hadd:∀ w,(callFunc 201 #[.int .u64 z,.int .u64 0,.int .u64 q]).run Tryz.prog w=.ok (.value (.tuple #[.int .u64 (De z 0 q),.int .u64 (Dm z 0 q)])) w:=fun w=>Oz z 0 q hcy w
      have HQ:=hid hq;clear hq
      go_wp2_with (fail)
      go_roundw
      case rel=>exact ⟨k+1,by omega,by go_num,by rw [HST.out];rfl,by rw [HST.out];exact HO.out.stored _ _,HB.out.setCell hg _⟩
      case measure=>simp [intOf];omega
   ·obtain rfl:k=l+1:=by omega
    have hlim:=HO.out.lim (HSM.out _);have HLM:=hid hlim;clear hlim
    go_wp2_with (go_at_call 82;refine (Id HLM.out (by rw [HLN.out];omega)).mono ?_;rintro e w' ⟨v',rfl,hv',rfl⟩;have HV':=hid hv';clear hv')
    rw [Exit.noGoto_ret];go_ret;exact ⟨_,rfl,HV'.out,HB.out⟩
theorem Aa4 (hv:Lim w v (limbs n))(hu:Lim w u (limbs m))(hl:(limbs n).length≤100000)(hl':(limbs m).length≤100000) :
 Calls Tryz.prog 194 #[v,u] w (RetLim (limbs (n+m)) w):=by
 by_cases hle:(limbs m).length≤(limbs n).length
 ·have:=Ym hv hu hl hle (Or.inl rfl);rwa [W6 _ _ hv.1 hu.1 hle,Bn,Bn] at this
 ·have:=Ym hu hv hl' (by omega) (Or.inr ⟨rfl,by omega⟩);rwa [W6 _ _ hu.1 hv.1 (by omega),Bn,Bn,Nat.add_comm] at this
theorem Mq (hv:Lim w v (limbs m))(n:Nat)(hl:(limbs m).length≤100000)(hn:n≤6400000) :
 Calls Tryz.prog 114 #[v,.int .i64 n] w (RetLim (limbs (m*2^n)) w):=by
 by_cases h0:m=0
 ·subst h0;rw [Au] at *;rw [Nat.zero_mul,Au];obtain ⟨hs,A,c,rfl,hc,hA⟩:=hv;clear hs hA hc hl;refine Calls.mono (R:=fun e w'=>e=.returned (.slice none 0 0)∧w=w') ?_ (fun e w' ⟨he,hw⟩=>by subst hw;exact ⟨_,he,Lim.nil _ _ _,Below.refl _ _⟩);have e0:(((([]:List Nat).length:Nat):Int)==0)=true:=rfl;go_enter Tryz.func114,Tryz.ntmps114;go_wp2_with fail;go_ret;exact ⟨rfl,rfl⟩
 ·have:=Afy hv n hl (Bc m h0) hn;rwa [Adl _ hv.1,Bn] at this
theorem Adu (hv:Lim w v xs)(hu:Lim w u ys)(hl:xs.length≤100000) :
 Calls Tryz.prog 199 #[v,u] w (RetLim (limbs (val (J6 xs ys xs.length).1)) w):=by
 have hv':=hv;obtain ⟨hs,A,c,rfl,hc,hA⟩:=hv;obtain ⟨hs',A',c',rfl,hc',hA'⟩:=hu;have HV:=hid hv';have HS:=hid hs;have HS':=hid hs';have HA':=hid hA';clear hA hA' hv' hs hs';generalize hlen:xs.length=l,hlen':ys.length=l' at *;have HL:=hid hlen;have HL':=hid hlen';clear hlen hlen';have HSM:=hid (L8 xs ys HS.out);have HCY:=hid (M6 xs ys);have HLN:=hid (fun k=>(Kd xs ys k).trans HL.out);go_enter Tryz.func199,Tryz.ntmps199
 go_wp2_with (go_at_call 81;refine (Nd HV.out (by rw [HL.out];omega)).mono ?_;rintro e w1 ⟨v1,rfl,ho,hk⟩;obtain ⟨A1,cap1,rfl,hg1⟩:=ho.shape0;rw [HL.out] at ho hg1 ⊢;have HO1:=hid ho;have HG1:=hid hg1;have HK:=hid hk;clear ho hk hg1)
 go_loopw [6,13] (fun cy t wr=>∃ k:Nat,k≤l∧t=.int .i64 k∧cy=.int .u64 (J6 xs ys k).2∧Own wr w.heap.size (.slice A1 l cap1) (J6 xs ys k).1∧Below w.heap.size w wr) (fun _ t _=>(l-intOf t).toNat)
 case atStart=>exact ⟨0,Nat.zero_le _,rfl,rfl,HO1.out,HK.out⟩
 case round =>
  obtain ⟨k,hkl,rfl,rfl,hO,hB⟩:=hrel;have HO:=hid hO;have HB:=hid hB;clear hO hB;by_cases hlt:k<l
  ·obtain ⟨g,rfl,hg,hg'⟩:=HG1.out (by omega);have ho1:=HO.out.cell k (by rw [HLN.out];omega);have hf1:=HO.out.frozen k;have hcy:=HCY.out k;have HST:=hid (K9 xs ys k);have hxk:=nth_lt (HSM.out k) k;have hyk:=nth_lt HS'.out k;by_cases hky:k<l'
   ·obtain ⟨b,off,rfl,hb,hcell⟩:=HA'.out (by omega);have hck:=(HB.out.cell (p:=⟨b,off+k,none⟩) hb).trans (hcell k hky);clear hcell;generalize nth ys k=y at *;generalize J6 xs ys k=s at *;obtain ⟨o,q⟩:=s;simp only at *;generalize nth o k=z at *;have hsub:=fun w=>Acx z y q hcy w
    go_wp2_with (fail)
    go_roundw
    case rel=>exact ⟨k+1,by omega,by go_num,by rw [HST.out];rfl,by rw [HST.out];exact HO.out.stored _ _,HB.out.setCell hg _⟩
    case measure=>simp [intOf];omega
   ·have hd:decide ((k:Int)<(l':Int))=false:=by simp;omega
    have hy0:nth ys k=0:=Qi ys k (by rw [HL'.out];omega);rw [hy0] at HST;clear hy0;generalize J6 xs ys k=s at *;obtain ⟨o,q⟩:=s;simp only at *;generalize nth o k=z at *;have hsub:∀ w,(callFunc 206 #[.int .u64 z,.int .u64 0,.int .u64 q]).run Tryz.prog w=.ok (.value (.tuple #[.int .u64 (N3 z 0 q),.int .u64 (Pi z 0 q)])) w:=fun w=>Acx z 0 q hcy w
    go_wp2_with (fail)
    go_roundw
    case rel=>exact ⟨k+1,by omega,by go_num,by rw [HST.out];rfl,by rw [HST.out];exact HO.out.stored _ _,HB.out.setCell hg _⟩
    case measure=>simp [intOf];omega
  ·obtain rfl:k=l:=by omega
   have hlim:=HO.out.lim (HSM.out _);have HLM:=hid hlim;clear hlim
   go_wp2_with (go_at_call 82;refine (Id HLM.out (by rw [HLN.out];omega)).mono ?_;rintro e w' ⟨v',rfl,hv',rfl⟩;have HV':=hid hv';clear hv')
   go_ret;exact ⟨_,rfl,HV'.out,HB.out⟩
theorem Acd (hv:Lim w v (limbs n))(hu:Lim w u (limbs m))(hl:(limbs n).length≤100000)(hle:m≤n) :
 Calls Tryz.prog 199 #[v,u] w (RetLim (limbs (n-m)) w):=by
 have:=Adu hv hu hl;have hll:(limbs m).length≤(limbs n).length:=by
  by_cases h:(limbs n).length<(limbs m).length
  ·have:=Ft n m h;omega
  ·omega
 rwa [Ahh _ _ hv.1 hu.1 hll (by rw [Bn,Bn];exact hle),Bn,Bn] at this
theorem Agf (x y:Nat)(hx:x<18446744073709551616)(hy:y<18446744073709551616):x*y≤18446744073709551615*18446744073709551615:=Nat.mul_le_mul (by omega) (by omega)
theorem Aek (hv:Lim w v xs)(hu:Lim w u ys)(hl:xs.length≤100000)(hl':ys.length≤100000) :
 Calls Tryz.prog 180 #[v,u] w (RetLim (limbs (val (Mt xs ys (xs.length+ys.length) xs.length))) w):=by
 obtain ⟨hs,A,c,rfl,hc,hA⟩:=hv;obtain ⟨hs',A',c',rfl,hc',hA'⟩:=hu;have HS:=hid hs;have HS':=hid hs';have HA:=hid hA;have HA':=hid hA';clear hA hA' hs hs';generalize hlen:xs.length=l,hlen':ys.length=l' at *;have HL:=hid hlen;have HL':=hid hlen';clear hlen hlen';have HSM:=hid (Ss xs ys (l+l') HS.out HS'.out);have HLN:=hid (Mu xs ys (l+l'));obtain ⟨i0,hi,hz0,hz1,hz2⟩:=info_parts Na;go_enter Tryz.func180,Tryz.ntmps180
 go_wp2_with (at_make;go_must (refine wpList_make_full _ rfl _ _ 26 rfl w.heap.size 55 i0 (.int .u64 0) 1 Tryz.underlying26 hi hz0 hz1 .i64 .i64 _ _ (l+l') rfl rfl (by omega) (by omega) (by rw [hz2];omega) (by unfold maxLen;omega) (by simp) ?_))
 intro w1 hown1 hgrow1;have ho:Hid (Own w1 w.heap.size (.slice (some ⟨w.heap.size,0,none⟩) (l+l') (l+l')) (Mt xs ys (l+l') 0)):=Jw hown1;have hk:Hid (Below w.heap.size w w1):=Below.grown (Below.refl _ _) hgrow1 (by simp) (by intro k hk;cases hk);clear hown1 hgrow1;go_wp2_with fail;generalize hBase:w.heap.size=B at *;have HBASE:=hid hBase;clear hBase
 go_loopw [22] (fun t wr=>∃ k:Nat,k≤l∧t=.int .i64 k∧Own wr B (.slice (some ⟨B,0,none⟩) (l+l') (l+l')) (Mt xs ys (l+l') k)∧Below B w wr) (fun t _=>(l-intOf t).toNat)
 case atStart=>exact ⟨0,Nat.zero_le _,rfl,ho.out,hk.out⟩
 case round =>
  obtain ⟨k,hkl,rfl,hO,hB⟩:=hrel;have HO:=hid hO;have HB:=hid hB;clear hO hB;by_cases hlt:k<l
  ·obtain ⟨b,off,rfl,hb,hcell⟩:=HA.out (by omega);have hck:=(HB.out.cell (p:=⟨b,off+k,none⟩) hb).trans (hcell k hlt);clear hcell;have hxk:=nth_lt HS.out k;have HST:=hid (Nl xs ys (l+l') k);have HSMK:=hid (HSM.out k);have HLNK:=hid (HLN.out k);generalize Mt xs ys (l+l') k=out at *;generalize nth xs k=x at *;have HRS:=hid (L6 out k x ys HSMK.out);have HRC:=hid (Ov out k x ys HSMK.out HS'.out hxk);have HRL:=hid (fun j=>(G8 out k x ys j).trans HLNK.out);go_wp2_with fail;obtain ⟨wo,rfl⟩:∃ wo:World,wo=wr:=⟨_,rfl⟩
   go_loopw [8,29] (fun cy t wr=>∃ j:Nat,j≤l'∧t=.int .i64 j∧cy=.int .u64 (I8 out k x ys j).2∧Own wr B (.slice (some ⟨B,0,none⟩) (l+l') (l+l')) (I8 out k x ys j).1∧Below B w wr) (fun _ t _=>(l'-intOf t).toNat)
   case atStart=>exact ⟨0,Nat.zero_le _,rfl,rfl,HO.out,HB.out⟩
   case round =>
    obtain ⟨j,hjl,rfl,rfl,hO,hB⟩:=hrel;clear HO HB hck;have HO:=hid hO;have HB:=hid hB;clear hO hB;by_cases hjt:j<l'
    ·obtain ⟨b',off',rfl,hb',hcell⟩:=HA'.out (by omega);have hck:=(HB.out.cell (p:=⟨b',off'+j,none⟩) hb').trans (hcell j hjt);clear hcell;have hyj:=nth_lt HS'.out j;have ho1:=HO.out.cell (k+j) (by rw [HRL.out];omega);have hf1:=HO.out.frozen (k+j);have hz:=nth_lt (HRS.out j) (k+j);have hcy:=HRC.out j;have HSJ:=hid (Jk out k x ys j);generalize nth ys j=y at *;generalize I8 out k x ys j=s at *;obtain ⟨o,q⟩:=s;simp only at *;generalize nth o (k+j)=z at *;have HM:=hid (fun w=>Agc x y hxk hyj w);have hadd1:∀ w,(callFunc 201 #[.int .u64 (Er x y),.int .u64 q,.int .u64 0]).run Tryz.prog w=.ok (.value (.tuple #[.int .u64 (De (Er x y) q 0),.int .u64 (Dm (Er x y) q 0)])) w:=fun w=>Oz _ _ 0 (by omega) w
     have hadd2:∀ w,(callFunc 201 #[.int .u64 z,.int .u64 (De (Er x y) q 0),.int .u64 0]).run Tryz.prog w=.ok (.value (.tuple #[.int .u64 (De z (De (Er x y) q 0) 0),.int .u64 (Dm z (De (Er x y) q 0) 0)])) w:=fun w=>Oz _ _ 0 (by omega) w
     have st:=Agg (x*y) q z;have sb:=Nn x y q z hxk hyj hcy hz;have s1:De z (De (Er x y) q 0) 0=(x*y+q+z)%18446744073709551616:=by rw [←st.1];rfl
     have s2:N2 x y+Dm (Er x y) q 0+Dm z (De (Er x y) q 0) 0=(x*y+q+z)/18446744073709551616:=by rw [←st.2];rfl
     have b1:N2 x y+Dm (Er x y) q 0+Dm z (De (Er x y) q 0) 0≤18446744073709551615:=by rw [s2];omega
     have S1:=hid s1;have S2:=hid s2;clear st sb s1 s2;generalize N2 x y=h1 at *;generalize Er x y=l1 at *;generalize De l1 q 0=l2 at *;generalize Dm l1 q 0=c2 at *;generalize Dm z l2 0=c3 at *;generalize De z l2 0=z' at *
     go_wp2_with (go_at_call 200;refine (HM.out _).mono ?_;rintro e w' ⟨rfl,rfl⟩)
     go_roundw
     case rel =>
      refine ⟨j+1,by omega,by go_num,?_,?_,HB.out.setCell (Nat.le_refl _) _⟩
      ·rw [HSJ.out,←S2.out];simp
      ·rw [HSJ.out,←S1.out];exact HO.out.stored _ _
     case measure=>simp [intOf];omega
    ·obtain rfl:j=l':=by omega
     have ho1:=HO.out.cell (k+j) (by rw [HRL.out];omega);have hf1:=HO.out.frozen (k+j);rw [HL'.out] at HST;generalize I8 out k x ys j=s at *;obtain ⟨o,q⟩:=s;simp only at *;go_wp2_with fail;go_roundw
     case rel =>
      refine ⟨k+1,by omega,by go_num,?_,HB.out.setCell (Nat.le_refl _) _⟩;rw [HST.out];exact HO.out.stored _ _
     case measure=>simp [intOf];omega
  ·obtain rfl:k=l:=by omega
   have hlim:=HO.out.lim (HSM.out _);have HLM:=hid hlim;clear hlim
   go_wp2_with (go_at_call 82;refine (Id HLM.out (by rw [HLN.out];omega)).mono ?_;rintro e w' ⟨v',rfl,hv',rfl⟩;have HV':=hid hv';clear hv')
   go_ret;refine ⟨_,rfl,HV'.out,?_⟩;rw [Kept,HBASE.out];exact HB.out
theorem Acz (hv:Lim w v (limbs n))(hu:Lim w u (limbs m))(hl:(limbs n).length≤100000)(hl':(limbs m).length≤100000) :
 Calls Tryz.prog 180 #[v,u] w (RetLim (limbs (n*m)) w):=by
 have:=Aek hv hu hl hl';rwa [Age _ _ hv.1 hu.1,Bn,Bn] at this
theorem Ago (xs:List Nat)(q i:Nat):nth (xs.drop q) i=nth xs (q+i):=by
 unfold nth;rw [List.getD_eq_getElem?_getD,List.getD_eq_getElem?_getD,List.getElem?_drop]
theorem Ad8 (hv:Lim w v xs)(n:Nat)(hl:xs.length≤100000)(hn:n≤6400000)(hq:n/64<xs.length) :
 Calls Tryz.prog 117 #[v,.int .i64 n] w (RetLim (limbs (val (Ee (xs.drop (n/64)) (n%64) (xs.drop (n/64)).length))) w):=by
 obtain ⟨hs,A,c,rfl,hc,hA⟩:=hv;obtain ⟨b,off,rfl,hb,hcell⟩:=hA (by omega);have hcell':∀ i,i<(xs.drop (n/64)).length→w.cell? ⟨b,off+n/64+i,none⟩=some (.int .u64 (nth (xs.drop (n/64)) i)):=by
  intro i hi;rw [List.length_drop] at hi;rw [Ago,Nat.add_assoc];exact hcell _ (by omega)
 have hs':Small (xs.drop (n/64)):=J0 hs _;have hlen':=List.length_drop (i:=n/64) (l:=xs);generalize hlen:xs.length=l at *;generalize xs.drop (n/64)=ys at *;have HS:=hid hs';have HC:=hid hcell';have HL:=hid hlen';have HLN:=hid (Ir ys (n%64));have HSM:=hid (Pr ys hs' (n%64) (Nat.mod_lt _ (by decide)));clear hlen hcell hcell' hA hs hs' hlen';obtain ⟨i0,hi,hz0,hz1,hz2⟩:=info_parts Na;have hqc:n/64<c:=by omega
 generalize hq':n/64=q at *;have HQ:=hid hq';clear hq';obtain ⟨m,rfl⟩:∃ m,l=q+m:=⟨l-q,by omega⟩;have hm:ys.length=m:=by rw [HL.out];omega
 have HM:=hid hm;rw [hm] at HC ⊢;clear hm HL;have dq:decide (((q+m:Nat):Int)≤(n:Int)/64)=false:=by have:=HQ.out;simp;omega
 have e1:(n:Int)/64=(q:Int):=by have:=HQ.out;omega
 go_enter Tryz.func117,Tryz.ntmps117
 go_wp2_with (at_make;go_must (refine wpList_make_full _ rfl _ _ 26 rfl w.heap.size 55 i0 (.int .u64 0) 1 Tryz.underlying26 hi hz0 hz1 .i64 .i64 _ _ m rfl rfl (by omega) (by omega) (by rw [hz2];omega) (by unfold maxLen;omega) (by simp) ?_))
 intro w1 hown1 hgrow1;have ho:Hid (Own w1 w.heap.size (.slice (some ⟨w.heap.size,0,none⟩) m m) (List.replicate m 0)):=Jw hown1;have hk:Hid (Below w.heap.size w w1):=Below.grown (Below.refl _ _) hgrow1 (by simp) (by intro k hk;cases hk);clear hown1 hgrow1;go_wp2_with fail;generalize hBase:w.heap.size=B at *;have HBASE:=hid hBase;clear hBase
 go_loopw [22] (fun t wr=>∃ k:Nat,k≤m∧t=.int .i64 k∧Own wr B (.slice (some ⟨B,0,none⟩) m m) (Ee ys (n%64) k)∧Below B w wr) (fun t _=>(m-intOf t).toNat)
 case atStart=>exact ⟨0,Nat.zero_le _,rfl,by rw [Ee,HM.out];exact ho.out,hk.out⟩
 case round =>
  obtain ⟨k,hkl,rfl,hO,hB⟩:=hrel;have HO:=hid hO;have HB:=hid hB;clear hO hB;by_cases hlt:k<m
  ·have hck:=(HB.out.cell (p:=⟨b,off+q+k,none⟩) hb).trans (HC.out k hlt);have ho1:=HO.out.cell k (by rw [HLN.out,HM.out];omega);have hf1:=HO.out.frozen k;have hxk:=nth_lt HS.out k;have hyk:=nth_lt HS.out (k+1);by_cases hl1:k+1<m
   ·have hck2:=(HB.out.cell (p:=⟨b,off+q+(k+1),none⟩) hb).trans (HC.out (k+1) hl1);have HST:Hid (Ee ys (n%64) (k+1)=(Ee ys (n%64) k).set k ((nth ys k/2^(n%64)) ||| (nth ys (k+1)*2%18446744073709551616*2^(63-n%64)%18446744073709551616))):=by
     show (Ee ys (n%64) k).set k (Jz ys (n%64) k)=_
     unfold Jz;rw [if_pos (by rw [HM.out];exact hl1)]
    generalize Ee ys (n%64) k=o at *;generalize nth ys k=x at *;generalize nth ys (k+1)=y at *;generalize nth o k=z at *;go_wp2_with fail;go_region;go_wp2_with fail;go_roundw
    case rel =>
     refine ⟨k+1,by omega,by go_num,?_,((HB.out.setCell (Nat.le_refl _) _).setCell (Nat.le_refl _) _).drew⟩;have hx2:x/2^(n%64)<18446744073709551616:=Nat.lt_of_le_of_lt (Nat.div_le_self _ _) hxk;rw [Rq,show (2:Int)=2^1 from rfl,Ns,Int.pow_succ,Int.pow_zero,Int.one_mul,Ns,Wo _ _ hx2 (Nat.mod_lt _ (by decide)),HST.out];have h1:=(HO.out.stored k (x/2^(n%64))).stored k (x/2^(n%64) ||| y*2^1%18446744073709551616*2^(63-n%64)%18446744073709551616);rw [List.set_set] at h1;exact h1
    case measure=>simp [intOf];omega
   ·have HST:Hid (Ee ys (n%64) (k+1)=(Ee ys (n%64) k).set k (nth ys k/2^(n%64))):=by
     show (Ee ys (n%64) k).set k (Jz ys (n%64) k)=_
     unfold Jz;rw [if_neg (by rw [HM.out];exact hl1)]
    generalize Ee ys (n%64) k=o at *;generalize nth ys k=x at *;generalize nth o k=z at *;go_wp2_with fail;go_roundw
    case rel =>
     refine ⟨k+1,by omega,by go_num,?_,HB.out.setCell (Nat.le_refl _) _⟩;rw [Rq,HST.out];exact HO.out.stored _ _
    case measure=>simp [intOf];omega
  ·obtain rfl:k=m:=by omega
   have hlim:=HO.out.lim (HSM.out _);have HLM:=hid hlim;clear hlim
   go_wp2_with (go_at_call 82;refine (Id HLM.out (by rw [HLN.out,HM.out];omega)).mono ?_;rintro e w' ⟨v',rfl,hv',rfl⟩;have HV':=hid hv';clear hv')
   go_ret;refine ⟨_,rfl,HV'.out,?_⟩;rw [Kept,HBASE.out];exact HB.out
theorem Rp (hv:Lim w v (limbs m))(n:Nat)(hl:(limbs m).length≤100000)(hn:n≤6400000) :
 Calls Tryz.prog 117 #[v,.int .i64 n] w (RetLim (limbs (m/2^n)) w):=by
 by_cases hq:n/64<(limbs m).length
 ·have:=Ad8 hv n hl hn hq;rwa [Ad7 _ hv.1,Bn] at this
 ·have h0:m/2^n=0:=by
   apply Nat.div_eq_of_lt;have a:=Ce m;have b:18446744073709551616^(limbs m).length≤18446744073709551616^(n/64):=Nat.pow_le_pow_right (by decide) (by omega);have c:18446744073709551616^(n/64)≤2^n:=by
    rw [Kn n];exact Nat.le_mul_of_pos_left _ (Nat.pow_pos (by decide))
   omega
  rw [h0,Au];obtain ⟨hs,A,c,rfl,hc,hA⟩:=hv;clear hs hA hc h0;refine Calls.mono (R:=fun e w'=>e=.returned (.slice none 0 0)∧w=w') ?_ (fun e w' ⟨he,hw⟩=>by subst hw;exact ⟨_,he,Lim.nil _ _ _,Below.refl _ _⟩);generalize (limbs m).length=l at *;have dq:decide ((l:Int)≤(n:Int)/64)=true:=by simp;omega
  go_enter Tryz.func117,Tryz.ntmps117;go_wp2_with fail;go_ret;exact ⟨rfl,rfl⟩
theorem Ef (u d Y q:Nat)(hY:Y<18446744073709551616)(h0:0<Y)(hq:q=(u*4294967296+d)/Y) :
 IntKind.u64.wrap (IntKind.u64.wrap (IntKind.u64.wrap ((u:Int)*4294967296)+(d:Int))-IntKind.u64.wrap ((q:Int)*(Y:Int)))=(((u*4294967296+d)%Y:Nat):Int):=by
 have:=Adi u d Y q hY h0 hq;rw [←this];simp only [IntKind.wrap_u64];omega
def Ah1 (u d1 d0 Y s:Nat) (w:World) (e:Ending) (w':World):Prop:=∃ q1 q2 v t:Nat,e=.returned (.tuple #[.int .u64 ((q1*4294967296+q2:Nat):Int),.int .u64 ((t/2^s:Nat):Int)]) ∧
 q1=(u*4294967296+d1)/Y∧(u*4294967296+d1)%Y=v∧q2=(v*4294967296+d0)/Y∧(v*4294967296+d0)%Y=t∧∃ n,w'=w.drewN n
theorem Abv (hi lo y:Nat)(hy:y<18446744073709551616)(hlo:lo<18446744073709551616)(hlt:hi<y)(w:World) :
 Calls Tryz.prog 205 #[.int .u64 hi,.int .u64 lo,.int .u64 y] w (RetQ (.tuple #[.int .u64 ((hi*18446744073709551616+lo)/y:Nat),.int .u64 ((hi*18446744073709551616+lo)%y:Nat)]) w):=by
 by_cases h0:hi=0
 ·subst h0;have e1:(((y:Nat):Int)==0)=false:=by rw [beq_eq_false_iff_ne];omega
  have e2:¬y=0:=by omega
  rw [Nat.zero_mul,Nat.zero_add];go_enter Tryz.func205,Tryz.ntmps205;go_wp2_with fail
  go_quiet (fail)
  go_wp2;have ew:IntKind.u64.wrap ((lo:Int)/(y:Int))=((lo/y:Nat):Int):=by
   rw [←Int.natCast_ediv,IntKind.wrap_u64];have:=Nat.div_le_self lo y;generalize lo/y=z at *;omega
  refine bodyPost_ret (v:=.tuple #[.int .u64 ((lo/y:Nat):Int),.int .u64 ((lo%y:Nat):Int)]) (by simp [results,Tryz.results205,go_sem,ew]) rfl ⟨rfl,_,rfl⟩
 ·have e1:(((y:Nat):Int)==0)=false:=by rw [beq_eq_false_iff_ne];omega
  have e2:(((hi:Nat):Int)==0)=false:=by rw [beq_eq_false_iff_ne];omega
  have hb1:=Ba y;have hb2:=Cz y (by omega);have hb3:=O7 y hy;have hb4:=Cr y (by omega);obtain ⟨s,hs⟩:∃ s,s+bl y=64:=⟨64-bl y,by omega⟩;have HB:=hid hs;have hlz:∀ w,Calls Tryz.prog 160 #[.int .u64 y] w fun e w'=>e=.returned (.int .i64 s)∧w=w':=by
   intro w;have:=Alp y w hy;rwa [show ((64:Int)-(bl y:Int))=(s:Int) by omega] at this
  have HLZ:=hid hlz;clear hlz hs;have hs64:s<64:=by have:=HB.out;omega
  have hY:y*2^s<18446744073709551616:=by
   have:=Nat.mul_lt_mul_of_pos_right hb1 (Nat.pow_pos (n:=s) (show 0<2 by decide));rw [←Nat.pow_add,show bl y+s=64 by have:=HB.out;omega] at this;exact this
  have hY2:9223372036854775808≤y*2^s:=by
   have:=Nat.mul_le_mul_right (2^s) hb2;rw [←Nat.pow_add,show bl y-1+s=63 by have:=HB.out;omega] at this;exact this
  clear hb1 hb2 hb3 hb4;obtain ⟨sh1,sh2,sh3,sh4⟩:=Aee hi lo y s hs64 hlo hlt;have hfin1:(hi*18446744073709551616+lo)/y=((hi*18446744073709551616+lo)*2^s)/(y*2^s):=(Nat.mul_div_mul_right _ _ (Nat.pow_pos (by decide))).symm;have hfin2:(hi*18446744073709551616+lo)%y=((hi*18446744073709551616+lo)*2^s)%(y*2^s)/2^s:=by
   rw [Nat.mul_mod_mul_right,Nat.mul_div_cancel _ (Nat.pow_pos (by decide))]
  rw [hfin1,hfin2,sh1];have eY:IntKind.u64.wrap ((y:Int)*2^s)=((y*2^s:Nat):Int):=by rw [Ns,Nat.mod_eq_of_lt hY]
  have eU:bits .or .u64 (IntKind.u64.wrap ((hi:Int)*2^s)) ((lo:Int)/2^(64-s))=((hi*2^s+lo/2^(64-s):Nat):Int):=by
   have a:hi*2^s<18446744073709551616:=by omega
   rw [Ns,Nat.mod_eq_of_lt a,Rq,Wo _ _ a (by omega),Nat.mul_comm hi,←Nat.two_pow_add_eq_or_of_lt sh3]
  have eL:IntKind.u64.wrap ((lo:Int)*2^s)=((lo*2^s%18446744073709551616:Nat):Int):=Ns lo s;have hL:lo*2^s%18446744073709551616<18446744073709551616:=Nat.mod_lt _ (by decide);clear sh1 sh3 sh4 hfin1 hfin2;generalize y*2^s=Y at *;generalize hi*2^s+lo/2^(64-s)=u at *;generalize lo*2^s%18446744073709551616=L at *;have eY1:(Y:Int)/4294967296=((Y/4294967296:Nat):Int):=by omega
  have hyn1:2147483648≤Y/4294967296:=by omega
  have hyn1':Y/4294967296<4294967296:=by omega
  have eY0:bits .and .u64 (Y:Int) 4294967295=((Y%4294967296:Nat):Int):=Mul64.maskN Y hY;have hyn0:Y%4294967296<4294967296:=by omega
  have HYY:Hid (Y/4294967296*4294967296+Y%4294967296=Y):=by show _=_;omega
  generalize Y/4294967296=yn1 at *;generalize Y%4294967296=yn0 at *;have eL1:(L:Int)/4294967296=((L/4294967296:Nat):Int):=by omega
  have eL0:bits .and .u64 (L:Int) 4294967295=((L%4294967296:Nat):Int):=Mul64.maskN L hL;have hd1:L/4294967296<4294967296:=by omega
  have hd0:L%4294967296<4294967296:=by omega
  have eN:u*18446744073709551616+L=(u*4294967296+L/4294967296)*4294967296+L%4294967296:=by omega
  rw [eN];clear eN;generalize L/4294967296=d1 at *;generalize L%4294967296=d0 at *;have hTH:=Abi ((u*4294967296+d1)*4294967296+d0) Y d0 (u*4294967296+d1) (by omega) rfl hd0;refine Calls.mono (R:=Ah1 u d1 d0 Y s w) ?_ (fun e w' ⟨q1,q2,v,t,he,h1,h2,h3,h4,hw⟩=>⟨by rw [he,hTH.1,hTH.2,h2,←h1,←h3,h4],hw⟩);clear hTH;have hS:=Lu u d1 yn1 yn0 hd1 (by omega);have hqn:u/yn1*yn1≤u:=Nat.div_mul_le_self _ _;have hqb:u/yn1≤8589934592:=by
   rw [Nat.div_le_iff_le_mul_add_pred (by omega)];have:2147483648*8589934592≤yn1*8589934592:=Nat.mul_le_mul_right _ hyn1;omega
  have hr0:u%yn1<yn1:=Nat.mod_lt _ (by omega);have eq0:(u:Int)/(yn1:Int)=((u/yn1:Nat):Int):=rfl;generalize u/yn1=q0 at *;generalize u%yn1=r0 at *;have hp0:(0:Int)≤(q0:Int)*(yn1:Int):=by rw [←Int.natCast_mul];omega
  have hp1:(q0:Int)*(yn1:Int)≤(u:Int):=by rw [←Int.natCast_mul];omega
  have er0:(u:Int)-(q0:Int)*(yn1:Int)=(r0:Int):=by
   have:=hS.sum;rw [←Int.natCast_mul];omega
  have HS:=hid hS;have HU:Hid (u<yn1*4294967296+yn0):=by show _<_;rw [HYY.out];exact sh2
  clear hS;go_enter Tryz.func205,Tryz.ntmps205
  go_wp2_with (go_at_call 160;refine (HLZ.out _).mono ?_;rintro e w' ⟨rfl,rfl⟩)
  go_loop [15,16] (fun a b=>∃ q r:Nat,a=.int .u64 q∧b=.int .u64 r∧F1 u d1 yn1 yn0 q r∧r<4294967296∧q≤8589934592) (fun a _=>(intOf a).toNat)
  case atStart=>exact ⟨_,_,rfl,rfl,HS.out,by omega,hqb⟩
  case round =>
   obtain ⟨q,r,rfl,rfl,hI,hr,hq⟩:=hrel;have HI:=hid hI;clear hI HS hqn hqb eq0 hr0 hp0 hp1 er0 eU eY eY1 eY0 eL eL1 eL0;have hp2:(0:Int)≤(q:Int)*(yn0:Int):=by rw [←Int.natCast_mul];omega
   by_cases hA:4294967296≤q
   ·have hA':decide ((4294967296:Int)≤(q:Int))=true:=decide_eq_true (by omega);have hl:=Gz HI.out HU.out hd1 (by omega) (Or.inl hA);obtain ⟨hq1,hI'⟩:=hl;have HI':=hid hI';clear hA;clear hI';obtain ⟨r1,hr1⟩:∃ r1,r+yn1=r1:=⟨_,rfl⟩;obtain ⟨qq,hqe⟩:∃ qq,q-1=qq:=⟨_,rfl⟩;rw [hr1,hqe] at HI';have hri:(r:Int)+(yn1:Int)=(r1:Int):=by omega
    have hqi:(q:Int)-1=(qq:Int):=by omega
    have hqm:qq<q:=by omega
    clear hr1 hqe;by_cases hbr:r1<4294967296
    ·have hbr':decide ((4294967296:Int)≤(r1:Int))=false:=decide_eq_false (by omega);have HBR:=hid hbr;clear hbr;go_wp2_with fail
     go_round
     case rel=>exact ⟨qq,r1,rfl,rfl,HI'.out,HBR.out,by omega⟩
     case measure=>simp [intOf];omega
    ·have hqq:=Fv HI'.out HU.out hyn0 (by omega) (by omega);rw [HYY.out] at hqq;have HQ:=hid hqq;have hbr':decide ((4294967296:Int)≤(r1:Int))=true:=decide_eq_true (by omega);clear hqq hbr;have eR1:=Ef u d1 Y qq hY (by omega) HQ.out;have hq1b:=Dx u d1 Y sh2 hd1;have hv:(u*4294967296+d1)%Y<Y:=Nat.mod_lt _ (by omega);rw [←HQ.out] at hq1b;obtain ⟨v,hve⟩:∃ v,(u*4294967296+d1)%Y=v:=⟨_,rfl⟩;rw [hve] at eR1 hv;have HV:=hid hve;obtain ⟨q1,rfl⟩:∃ x,x=qq:=⟨qq,rfl⟩;have HQ1:=HQ;clear hve HQ;have HU2:Hid (v<yn1*4294967296+yn0):=by show _<_;rw [HYY.out];exact hv
     have hS:=Lu v d0 yn1 yn0 hd0 (by omega);have hqn:v/yn1*yn1≤v:=Nat.div_mul_le_self _ _;have hqb:v/yn1≤8589934592:=by
      rw [Nat.div_le_iff_le_mul_add_pred (by omega)];have:2147483648*8589934592≤yn1*8589934592:=Nat.mul_le_mul_right _ hyn1;omega
     have hr0:v%yn1<yn1:=Nat.mod_lt _ (by omega);have eq0:(v:Int)/(yn1:Int)=((v/yn1:Nat):Int):=rfl;generalize v/yn1=q0 at *;generalize v%yn1=r0 at *;have hp0:(0:Int)≤(q0:Int)*(yn1:Int):=by rw [←Int.natCast_mul];omega
     have hp1:(q0:Int)*(yn1:Int)≤(v:Int):=by rw [←Int.natCast_mul];omega
     have er0:(v:Int)-(q0:Int)*(yn1:Int)=(r0:Int):=by
      have:=hS.sum;rw [←Int.natCast_mul];omega
     have HS:=hid hS;clear hS HU;have HU:=HU2;go_wp2_with fail
     go_loop [18,16] (fun a b=>∃ q r:Nat,a=.int .u64 q∧b=.int .u64 r∧F1 v d0 yn1 yn0 q r∧r<4294967296∧q≤8589934592) (fun a _=>(intOf a).toNat)
     case atStart=>exact ⟨_,_,rfl,rfl,HS.out,by omega,hqb⟩
     case round =>
      obtain ⟨q,r,rfl,rfl,hI,hr,hq⟩:=hrel;have HI:=hid hI;clear hI HS hqn hqb eq0 hr0 hp0 hp1 er0 ;have hp2:(0:Int)≤(q:Int)*(yn0:Int):=by rw [←Int.natCast_mul];omega
      by_cases hA:4294967296≤q
      ·have hA':decide ((4294967296:Int)≤(q:Int))=true:=decide_eq_true (by omega);have hl:=Gz HI.out HU.out hd0 (by omega) (Or.inl hA);obtain ⟨hq1,hI'⟩:=hl;have HI':=hid hI';clear hA;clear hI';obtain ⟨r1,hr1⟩:∃ r1,r+yn1=r1:=⟨_,rfl⟩;obtain ⟨qq,hqe⟩:∃ qq,q-1=qq:=⟨_,rfl⟩;rw [hr1,hqe] at HI';have hri:(r:Int)+(yn1:Int)=(r1:Int):=by omega
       have hqi:(q:Int)-1=(qq:Int):=by omega
       have hqm:qq<q:=by omega
       clear hr1 hqe;by_cases hbr:r1<4294967296
       ·have hbr':decide ((4294967296:Int)≤(r1:Int))=false:=decide_eq_false (by omega);have HBR:=hid hbr;clear hbr;go_wp2_with fail
        go_round
        case rel=>exact ⟨qq,r1,rfl,rfl,HI'.out,HBR.out,by omega⟩
        case measure=>simp [intOf];omega
       ·have hqq:=Fv HI'.out HU.out hyn0 (by omega) (by omega);rw [HYY.out] at hqq;have HQ:=hid hqq;have hbr':decide ((4294967296:Int)≤(r1:Int))=true:=decide_eq_true (by omega);clear hqq hbr;have eR2:=Ef v d0 Y qq hY (by omega) HQ.out;have hqq2:=Dx v d0 Y hv hd0;rw [←HQ.out] at hqq2;obtain ⟨t,ht⟩:∃ t,(v*4294967296+d0)%Y=t:=⟨_,rfl⟩;rw [ht] at eR2;have HT:=hid ht;clear ht;go_wp2_with fail;refine bodyPost_ret (v:=.tuple #[.int .u64 ((q1*4294967296+qq:Nat):Int),.int .u64 ((t/2^s:Nat):Int)]) (by simp [results,Tryz.results205,go_sem]) rfl ⟨q1,qq,v,t,rfl,HQ1.out,HV.out,HQ.out,HT.out,0,rfl⟩
      ·have hp3:q*yn0≤4294967296*4294967295:=Nat.mul_le_mul (by omega) (by omega);have hA':decide ((4294967296:Int)≤(q:Int))=false:=decide_eq_false (by omega);have hm1:(q:Int)*(yn0:Int)=((q*yn0:Nat):Int):=(Int.natCast_mul _ _).symm;have hm2:(4294967296:Int)*(r:Int)=((4294967296*r:Nat):Int):=by omega
       have hm3:((4294967296*r:Nat):Int)+(d0:Int)=((4294967296*r+d0:Nat):Int):=by omega
       have hm4:4294967296*r+d0<18446744073709551616:=by omega
       have hm5:4294967296*r<18446744073709551616:=by omega
       have HM:Hid (4294967296*r+d0<q*yn0∨q*yn0≤4294967296*r+d0):=Nat.lt_or_ge _ _;have HF1:Hid (4294967296*r+d0<q*yn0→1≤q∧F1 v d0 yn1 yn0 (q-1) (r+yn1)):=fun hB=>Gz HI.out HU.out hd0 (by omega) (Or.inr hB)
       have HF2:Hid (q*yn0≤4294967296*r+d0→q=(v*4294967296+d0)/(yn1*4294967296+yn0)):=fun hB=>Kr HI.out (by omega) hB
       clear hp2 hA;generalize 4294967296*r+d0=z at *;generalize 4294967296*r=zr at *;generalize q*yn0=pq at *;by_cases hB:z<pq
       ·have hl:=HF1.out hB;have hB':decide (z<pq)=true:=decide_eq_true hB;obtain ⟨hq1,hI'⟩:=hl;have HI':=hid hI'
        skip
        clear hI';obtain ⟨r1,hr1⟩:∃ r1,r+yn1=r1:=⟨_,rfl⟩;obtain ⟨qq,hqe⟩:∃ qq,q-1=qq:=⟨_,rfl⟩;rw [hr1,hqe] at HI';have hri:(r:Int)+(yn1:Int)=(r1:Int):=by omega
        have hqi:(q:Int)-1=(qq:Int):=by omega
        have hqm:qq<q:=by omega
        clear hr1 hqe;by_cases hbr:r1<4294967296
        ·have hbr':decide ((4294967296:Int)≤(r1:Int))=false:=decide_eq_false (by omega);have HBR:=hid hbr;clear hbr;go_wp2_with fail
         go_round
         case rel=>exact ⟨qq,r1,rfl,rfl,HI'.out,HBR.out,by omega⟩
         case measure=>simp [intOf];omega
        ·have hqq:=Fv HI'.out HU.out hyn0 (by omega) (by omega);rw [HYY.out] at hqq;have HQ:=hid hqq;have hbr':decide ((4294967296:Int)≤(r1:Int))=true:=decide_eq_true (by omega);clear hqq hbr;have eR2:=Ef v d0 Y qq hY (by omega) HQ.out;have hqq2:=Dx v d0 Y hv hd0;rw [←HQ.out] at hqq2;obtain ⟨t,ht⟩:∃ t,(v*4294967296+d0)%Y=t:=⟨_,rfl⟩;rw [ht] at eR2;have HT:=hid ht;clear ht;go_wp2_with fail;refine bodyPost_ret (v:=.tuple #[.int .u64 ((q1*4294967296+qq:Nat):Int),.int .u64 ((t/2^s:Nat):Int)]) (by simp [results,Tryz.results205,go_sem]) rfl ⟨q1,qq,v,t,rfl,HQ1.out,HV.out,HQ.out,HT.out,0,rfl⟩
       ·have hB':decide (z<pq)=false:=decide_eq_false hB;have hqq:=HF2.out (by omega);rw [HYY.out] at hqq;have HQ:=hid hqq;clear hqq;obtain ⟨qq,rfl⟩:∃ x,x=q:=⟨q,rfl⟩;have eR2:=Ef v d0 Y qq hY (by omega) HQ.out;have hqq2:=Dx v d0 Y hv hd0;rw [←HQ.out] at hqq2;obtain ⟨t,ht⟩:∃ t,(v*4294967296+d0)%Y=t:=⟨_,rfl⟩;rw [ht] at eR2;have HT:=hid ht;clear ht;go_wp2_with fail;refine bodyPost_ret (v:=.tuple #[.int .u64 ((q1*4294967296+qq:Nat):Int),.int .u64 ((t/2^s:Nat):Int)]) (by simp [results,Tryz.results205,go_sem]) rfl ⟨q1,qq,v,t,rfl,HQ1.out,HV.out,HQ.out,HT.out,0,rfl⟩
   ·have hp3:q*yn0≤4294967296*4294967295:=Nat.mul_le_mul (by omega) (by omega);have hA':decide ((4294967296:Int)≤(q:Int))=false:=decide_eq_false (by omega);have hm1:(q:Int)*(yn0:Int)=((q*yn0:Nat):Int):=(Int.natCast_mul _ _).symm;have hm2:(4294967296:Int)*(r:Int)=((4294967296*r:Nat):Int):=by omega
    have hm3:((4294967296*r:Nat):Int)+(d1:Int)=((4294967296*r+d1:Nat):Int):=by omega
    have hm4:4294967296*r+d1<18446744073709551616:=by omega
    have hm5:4294967296*r<18446744073709551616:=by omega
    have HM:Hid (4294967296*r+d1<q*yn0∨q*yn0≤4294967296*r+d1):=Nat.lt_or_ge _ _;have HF1:Hid (4294967296*r+d1<q*yn0→1≤q∧F1 u d1 yn1 yn0 (q-1) (r+yn1)):=fun hB=>Gz HI.out HU.out hd1 (by omega) (Or.inr hB)
    have HF2:Hid (q*yn0≤4294967296*r+d1→q=(u*4294967296+d1)/(yn1*4294967296+yn0)):=fun hB=>Kr HI.out (by omega) hB
    clear hp2 hA;generalize 4294967296*r+d1=z at *;generalize 4294967296*r=zr at *;generalize q*yn0=pq at *;by_cases hB:z<pq
    ·have hl:=HF1.out hB;have hB':decide (z<pq)=true:=decide_eq_true hB;obtain ⟨hq1,hI'⟩:=hl;have HI':=hid hI'
     skip
     clear hI';obtain ⟨r1,hr1⟩:∃ r1,r+yn1=r1:=⟨_,rfl⟩;obtain ⟨qq,hqe⟩:∃ qq,q-1=qq:=⟨_,rfl⟩;rw [hr1,hqe] at HI';have hri:(r:Int)+(yn1:Int)=(r1:Int):=by omega
     have hqi:(q:Int)-1=(qq:Int):=by omega
     have hqm:qq<q:=by omega
     clear hr1 hqe;by_cases hbr:r1<4294967296
     ·have hbr':decide ((4294967296:Int)≤(r1:Int))=false:=decide_eq_false (by omega);have HBR:=hid hbr;clear hbr;go_wp2_with fail
      go_round
      case rel=>exact ⟨qq,r1,rfl,rfl,HI'.out,HBR.out,by omega⟩
      case measure=>simp [intOf];omega
     ·have hqq:=Fv HI'.out HU.out hyn0 (by omega) (by omega);rw [HYY.out] at hqq;have HQ:=hid hqq;have hbr':decide ((4294967296:Int)≤(r1:Int))=true:=decide_eq_true (by omega);clear hqq hbr;have eR1:=Ef u d1 Y qq hY (by omega) HQ.out;have hq1b:=Dx u d1 Y sh2 hd1;have hv:(u*4294967296+d1)%Y<Y:=Nat.mod_lt _ (by omega);rw [←HQ.out] at hq1b;obtain ⟨v,hve⟩:∃ v,(u*4294967296+d1)%Y=v:=⟨_,rfl⟩;rw [hve] at eR1 hv;have HV:=hid hve;obtain ⟨q1,rfl⟩:∃ x,x=qq:=⟨qq,rfl⟩;have HQ1:=HQ;clear hve HQ;have HU2:Hid (v<yn1*4294967296+yn0):=by show _<_;rw [HYY.out];exact hv
      have hS:=Lu v d0 yn1 yn0 hd0 (by omega);have hqn:v/yn1*yn1≤v:=Nat.div_mul_le_self _ _;have hqb:v/yn1≤8589934592:=by
       rw [Nat.div_le_iff_le_mul_add_pred (by omega)];have:2147483648*8589934592≤yn1*8589934592:=Nat.mul_le_mul_right _ hyn1;omega
      have hr0:v%yn1<yn1:=Nat.mod_lt _ (by omega);have eq0:(v:Int)/(yn1:Int)=((v/yn1:Nat):Int):=rfl;generalize v/yn1=q0 at *;generalize v%yn1=r0 at *;have hp0:(0:Int)≤(q0:Int)*(yn1:Int):=by rw [←Int.natCast_mul];omega
      have hp1:(q0:Int)*(yn1:Int)≤(v:Int):=by rw [←Int.natCast_mul];omega
      have er0:(v:Int)-(q0:Int)*(yn1:Int)=(r0:Int):=by
       have:=hS.sum;rw [←Int.natCast_mul];omega
      have HS:=hid hS;clear hS HU;have HU:=HU2;go_wp2_with fail
      go_loop [18,16] (fun a b=>∃ q r:Nat,a=.int .u64 q∧b=.int .u64 r∧F1 v d0 yn1 yn0 q r∧r<4294967296∧q≤8589934592) (fun a _=>(intOf a).toNat)
      case atStart=>exact ⟨_,_,rfl,rfl,HS.out,by omega,hqb⟩
      case round =>
       obtain ⟨q,r,rfl,rfl,hI,hr,hq⟩:=hrel;have HI:=hid hI;clear hI HS hqn hqb eq0 hr0 hp0 hp1 er0 ;have hp2:(0:Int)≤(q:Int)*(yn0:Int):=by rw [←Int.natCast_mul];omega
       by_cases hA:4294967296≤q
       ·have hA':decide ((4294967296:Int)≤(q:Int))=true:=decide_eq_true (by omega);have hl:=Gz HI.out HU.out hd0 (by omega) (Or.inl hA);obtain ⟨hq1,hI'⟩:=hl;have HI':=hid hI';clear hA;clear hI';obtain ⟨r1,hr1⟩:∃ r1,r+yn1=r1:=⟨_,rfl⟩;obtain ⟨qq,hqe⟩:∃ qq,q-1=qq:=⟨_,rfl⟩;rw [hr1,hqe] at HI';have hri:(r:Int)+(yn1:Int)=(r1:Int):=by omega
        have hqi:(q:Int)-1=(qq:Int):=by omega
        have hqm:qq<q:=by omega
        clear hr1 hqe;by_cases hbr:r1<4294967296
        ·have hbr':decide ((4294967296:Int)≤(r1:Int))=false:=decide_eq_false (by omega);have HBR:=hid hbr;clear hbr;go_wp2_with fail
         go_round
         case rel=>exact ⟨qq,r1,rfl,rfl,HI'.out,HBR.out,by omega⟩
         case measure=>simp [intOf];omega
        ·have hqq:=Fv HI'.out HU.out hyn0 (by omega) (by omega);rw [HYY.out] at hqq;have HQ:=hid hqq;have hbr':decide ((4294967296:Int)≤(r1:Int))=true:=decide_eq_true (by omega);clear hqq hbr;have eR2:=Ef v d0 Y qq hY (by omega) HQ.out;have hqq2:=Dx v d0 Y hv hd0;rw [←HQ.out] at hqq2;obtain ⟨t,ht⟩:∃ t,(v*4294967296+d0)%Y=t:=⟨_,rfl⟩;rw [ht] at eR2;have HT:=hid ht;clear ht;go_wp2_with fail;refine bodyPost_ret (v:=.tuple #[.int .u64 ((q1*4294967296+qq:Nat):Int),.int .u64 ((t/2^s:Nat):Int)]) (by simp [results,Tryz.results205,go_sem]) rfl ⟨q1,qq,v,t,rfl,HQ1.out,HV.out,HQ.out,HT.out,0,rfl⟩
       ·have hp3:q*yn0≤4294967296*4294967295:=Nat.mul_le_mul (by omega) (by omega);have hA':decide ((4294967296:Int)≤(q:Int))=false:=decide_eq_false (by omega);have hm1:(q:Int)*(yn0:Int)=((q*yn0:Nat):Int):=(Int.natCast_mul _ _).symm;have hm2:(4294967296:Int)*(r:Int)=((4294967296*r:Nat):Int):=by omega
        have hm3:((4294967296*r:Nat):Int)+(d0:Int)=((4294967296*r+d0:Nat):Int):=by omega
        have hm4:4294967296*r+d0<18446744073709551616:=by omega
        have hm5:4294967296*r<18446744073709551616:=by omega
        have HM:Hid (4294967296*r+d0<q*yn0∨q*yn0≤4294967296*r+d0):=Nat.lt_or_ge _ _;have HF1:Hid (4294967296*r+d0<q*yn0→1≤q∧F1 v d0 yn1 yn0 (q-1) (r+yn1)):=fun hB=>Gz HI.out HU.out hd0 (by omega) (Or.inr hB)
        have HF2:Hid (q*yn0≤4294967296*r+d0→q=(v*4294967296+d0)/(yn1*4294967296+yn0)):=fun hB=>Kr HI.out (by omega) hB
        clear hp2 hA;generalize 4294967296*r+d0=z at *;generalize 4294967296*r=zr at *;generalize q*yn0=pq at *;by_cases hB:z<pq
        ·have hl:=HF1.out hB;have hB':decide (z<pq)=true:=decide_eq_true hB;obtain ⟨hq1,hI'⟩:=hl;have HI':=hid hI'
         skip
         clear hI';obtain ⟨r1,hr1⟩:∃ r1,r+yn1=r1:=⟨_,rfl⟩;obtain ⟨qq,hqe⟩:∃ qq,q-1=qq:=⟨_,rfl⟩;rw [hr1,hqe] at HI';have hri:(r:Int)+(yn1:Int)=(r1:Int):=by omega
         have hqi:(q:Int)-1=(qq:Int):=by omega
         have hqm:qq<q:=by omega
         clear hr1 hqe;by_cases hbr:r1<4294967296
         ·have hbr':decide ((4294967296:Int)≤(r1:Int))=false:=decide_eq_false (by omega);have HBR:=hid hbr;clear hbr;go_wp2_with fail
          go_round
          case rel=>exact ⟨qq,r1,rfl,rfl,HI'.out,HBR.out,by omega⟩
          case measure=>simp [intOf];omega
         ·have hqq:=Fv HI'.out HU.out hyn0 (by omega) (by omega);rw [HYY.out] at hqq;have HQ:=hid hqq;have hbr':decide ((4294967296:Int)≤(r1:Int))=true:=decide_eq_true (by omega);clear hqq hbr;have eR2:=Ef v d0 Y qq hY (by omega) HQ.out;have hqq2:=Dx v d0 Y hv hd0;rw [←HQ.out] at hqq2;obtain ⟨t,ht⟩:∃ t,(v*4294967296+d0)%Y=t:=⟨_,rfl⟩;rw [ht] at eR2;have HT:=hid ht;clear ht;go_wp2_with fail;refine bodyPost_ret (v:=.tuple #[.int .u64 ((q1*4294967296+qq:Nat):Int),.int .u64 ((t/2^s:Nat):Int)]) (by simp [results,Tryz.results205,go_sem]) rfl ⟨q1,qq,v,t,rfl,HQ1.out,HV.out,HQ.out,HT.out,0,rfl⟩
        ·have hB':decide (z<pq)=false:=decide_eq_false hB;have hqq:=HF2.out (by omega);rw [HYY.out] at hqq;have HQ:=hid hqq;clear hqq;obtain ⟨qq,rfl⟩:∃ x,x=q:=⟨q,rfl⟩;have eR2:=Ef v d0 Y qq hY (by omega) HQ.out;have hqq2:=Dx v d0 Y hv hd0;rw [←HQ.out] at hqq2;obtain ⟨t,ht⟩:∃ t,(v*4294967296+d0)%Y=t:=⟨_,rfl⟩;rw [ht] at eR2;have HT:=hid ht;clear ht;go_wp2_with fail;refine bodyPost_ret (v:=.tuple #[.int .u64 ((q1*4294967296+qq:Nat):Int),.int .u64 ((t/2^s:Nat):Int)]) (by simp [results,Tryz.results205,go_sem]) rfl ⟨q1,qq,v,t,rfl,HQ1.out,HV.out,HQ.out,HT.out,0,rfl⟩
    ·have hB':decide (z<pq)=false:=decide_eq_false hB;have hqq:=HF2.out (by omega);rw [HYY.out] at hqq;have HQ:=hid hqq;clear hqq;obtain ⟨qq,rfl⟩:∃ x,x=q:=⟨q,rfl⟩;have eR1:=Ef u d1 Y qq hY (by omega) HQ.out;have hq1b:=Dx u d1 Y sh2 hd1;have hv:(u*4294967296+d1)%Y<Y:=Nat.mod_lt _ (by omega);rw [←HQ.out] at hq1b;obtain ⟨v,hve⟩:∃ v,(u*4294967296+d1)%Y=v:=⟨_,rfl⟩;rw [hve] at eR1 hv;have HV:=hid hve;obtain ⟨q1,rfl⟩:∃ x,x=qq:=⟨qq,rfl⟩;have HQ1:=HQ;clear hve HQ;have HU2:Hid (v<yn1*4294967296+yn0):=by show _<_;rw [HYY.out];exact hv
     have hS:=Lu v d0 yn1 yn0 hd0 (by omega);have hqn:v/yn1*yn1≤v:=Nat.div_mul_le_self _ _;have hqb:v/yn1≤8589934592:=by
      rw [Nat.div_le_iff_le_mul_add_pred (by omega)];have:2147483648*8589934592≤yn1*8589934592:=Nat.mul_le_mul_right _ hyn1;omega
     have hr0:v%yn1<yn1:=Nat.mod_lt _ (by omega);have eq0:(v:Int)/(yn1:Int)=((v/yn1:Nat):Int):=rfl;generalize v/yn1=q0 at *;generalize v%yn1=r0 at *;have hp0:(0:Int)≤(q0:Int)*(yn1:Int):=by rw [←Int.natCast_mul];omega
     have hp1:(q0:Int)*(yn1:Int)≤(v:Int):=by rw [←Int.natCast_mul];omega
     have er0:(v:Int)-(q0:Int)*(yn1:Int)=(r0:Int):=by
      have:=hS.sum;rw [←Int.natCast_mul];omega
     have HS:=hid hS;clear hS HU;have HU:=HU2;go_wp2_with fail
     go_loop [18,16] (fun a b=>∃ q r:Nat,a=.int .u64 q∧b=.int .u64 r∧F1 v d0 yn1 yn0 q r∧r<4294967296∧q≤8589934592) (fun a _=>(intOf a).toNat)
     case atStart=>exact ⟨_,_,rfl,rfl,HS.out,by omega,hqb⟩
     case round =>
      obtain ⟨q,r,rfl,rfl,hI,hr,hq⟩:=hrel;have HI:=hid hI;clear hI HS hqn hqb eq0 hr0 hp0 hp1 er0 ;have hp2:(0:Int)≤(q:Int)*(yn0:Int):=by rw [←Int.natCast_mul];omega
      by_cases hA:4294967296≤q
      ·have hA':decide ((4294967296:Int)≤(q:Int))=true:=decide_eq_true (by omega);have hl:=Gz HI.out HU.out hd0 (by omega) (Or.inl hA);obtain ⟨hq1,hI'⟩:=hl;have HI':=hid hI';clear hA;clear hI';obtain ⟨r1,hr1⟩:∃ r1,r+yn1=r1:=⟨_,rfl⟩;obtain ⟨qq,hqe⟩:∃ qq,q-1=qq:=⟨_,rfl⟩;rw [hr1,hqe] at HI';have hri:(r:Int)+(yn1:Int)=(r1:Int):=by omega
       have hqi:(q:Int)-1=(qq:Int):=by omega
       have hqm:qq<q:=by omega
       clear hr1 hqe;by_cases hbr:r1<4294967296
       ·have hbr':decide ((4294967296:Int)≤(r1:Int))=false:=decide_eq_false (by omega);have HBR:=hid hbr;clear hbr;go_wp2_with fail
        go_round
        case rel=>exact ⟨qq,r1,rfl,rfl,HI'.out,HBR.out,by omega⟩
        case measure=>simp [intOf];omega
       ·have hqq:=Fv HI'.out HU.out hyn0 (by omega) (by omega);rw [HYY.out] at hqq;have HQ:=hid hqq;have hbr':decide ((4294967296:Int)≤(r1:Int))=true:=decide_eq_true (by omega);clear hqq hbr;have eR2:=Ef v d0 Y qq hY (by omega) HQ.out;have hqq2:=Dx v d0 Y hv hd0;rw [←HQ.out] at hqq2;obtain ⟨t,ht⟩:∃ t,(v*4294967296+d0)%Y=t:=⟨_,rfl⟩;rw [ht] at eR2;have HT:=hid ht;clear ht;go_wp2_with fail;refine bodyPost_ret (v:=.tuple #[.int .u64 ((q1*4294967296+qq:Nat):Int),.int .u64 ((t/2^s:Nat):Int)]) (by simp [results,Tryz.results205,go_sem]) rfl ⟨q1,qq,v,t,rfl,HQ1.out,HV.out,HQ.out,HT.out,0,rfl⟩
      ·have hp3:q*yn0≤4294967296*4294967295:=Nat.mul_le_mul (by omega) (by omega);have hA':decide ((4294967296:Int)≤(q:Int))=false:=decide_eq_false (by omega);have hm1:(q:Int)*(yn0:Int)=((q*yn0:Nat):Int):=(Int.natCast_mul _ _).symm;have hm2:(4294967296:Int)*(r:Int)=((4294967296*r:Nat):Int):=by omega
       have hm3:((4294967296*r:Nat):Int)+(d0:Int)=((4294967296*r+d0:Nat):Int):=by omega
       have hm4:4294967296*r+d0<18446744073709551616:=by omega
       have hm5:4294967296*r<18446744073709551616:=by omega
       have HM:Hid (4294967296*r+d0<q*yn0∨q*yn0≤4294967296*r+d0):=Nat.lt_or_ge _ _;have HF1:Hid (4294967296*r+d0<q*yn0→1≤q∧F1 v d0 yn1 yn0 (q-1) (r+yn1)):=fun hB=>Gz HI.out HU.out hd0 (by omega) (Or.inr hB)
       have HF2:Hid (q*yn0≤4294967296*r+d0→q=(v*4294967296+d0)/(yn1*4294967296+yn0)):=fun hB=>Kr HI.out (by omega) hB
       clear hp2 hA;generalize 4294967296*r+d0=z at *;generalize 4294967296*r=zr at *;generalize q*yn0=pq at *;by_cases hB:z<pq
       ·have hl:=HF1.out hB;have hB':decide (z<pq)=true:=decide_eq_true hB;obtain ⟨hq1,hI'⟩:=hl;have HI':=hid hI'
        skip
        clear hI';obtain ⟨r1,hr1⟩:∃ r1,r+yn1=r1:=⟨_,rfl⟩;obtain ⟨qq,hqe⟩:∃ qq,q-1=qq:=⟨_,rfl⟩;rw [hr1,hqe] at HI';have hri:(r:Int)+(yn1:Int)=(r1:Int):=by omega
        have hqi:(q:Int)-1=(qq:Int):=by omega
        have hqm:qq<q:=by omega
        clear hr1 hqe;by_cases hbr:r1<4294967296
        ·have hbr':decide ((4294967296:Int)≤(r1:Int))=false:=decide_eq_false (by omega);have HBR:=hid hbr;clear hbr;go_wp2_with fail
         go_round
         case rel=>exact ⟨qq,r1,rfl,rfl,HI'.out,HBR.out,by omega⟩
         case measure=>simp [intOf];omega
        ·have hqq:=Fv HI'.out HU.out hyn0 (by omega) (by omega);rw [HYY.out] at hqq;have HQ:=hid hqq;have hbr':decide ((4294967296:Int)≤(r1:Int))=true:=decide_eq_true (by omega);clear hqq hbr;have eR2:=Ef v d0 Y qq hY (by omega) HQ.out;have hqq2:=Dx v d0 Y hv hd0;rw [←HQ.out] at hqq2;obtain ⟨t,ht⟩:∃ t,(v*4294967296+d0)%Y=t:=⟨_,rfl⟩;rw [ht] at eR2;have HT:=hid ht;clear ht;go_wp2_with fail;refine bodyPost_ret (v:=.tuple #[.int .u64 ((q1*4294967296+qq:Nat):Int),.int .u64 ((t/2^s:Nat):Int)]) (by simp [results,Tryz.results205,go_sem]) rfl ⟨q1,qq,v,t,rfl,HQ1.out,HV.out,HQ.out,HT.out,0,rfl⟩
       ·have hB':decide (z<pq)=false:=decide_eq_false hB;have hqq:=HF2.out (by omega);rw [HYY.out] at hqq;have HQ:=hid hqq;clear hqq;obtain ⟨qq,rfl⟩:∃ x,x=q:=⟨q,rfl⟩;have eR2:=Ef v d0 Y qq hY (by omega) HQ.out;have hqq2:=Dx v d0 Y hv hd0;rw [←HQ.out] at hqq2;obtain ⟨t,ht⟩:∃ t,(v*4294967296+d0)%Y=t:=⟨_,rfl⟩;rw [ht] at eR2;have HT:=hid ht;clear ht;go_wp2_with fail;refine bodyPost_ret (v:=.tuple #[.int .u64 ((q1*4294967296+qq:Nat):Int),.int .u64 ((t/2^s:Nat):Int)]) (by simp [results,Tryz.results205,go_sem]) rfl ⟨q1,qq,v,t,rfl,HQ1.out,HV.out,HQ.out,HT.out,0,rfl⟩
theorem Ue (u:Value)(n:Nat):(Builtin.zeroCells #[u] n).toList=List.replicate n u:=by
 unfold Builtin.zeroCells;apply List.ext_getElem
 ·simp
 ·intro i h1 h2;have:i%1=0:=Nat.mod_one i;simp [this]
theorem Yj (n:Nat)(x:Nat):∀ u∈List.replicate n (Value.int .u64 x),u.oneCell'=true:=by
 intro u hu;rw [(List.mem_replicate.1 hu).2];rfl
theorem Yl (hv:Lim w v xs)(n:Nat)(hl:xs.length≤n)(hn:n≤200000) :
 Calls Tryz.prog 196 #[v,.int .i64 n] w fun e w'=>∃ v',e=.returned v'∧Own w' w.heap.size v' (xs++List.replicate (n-xs.length) 0)∧Kept w w':=by
 have hv':=hv;obtain ⟨hs,A,c,rfl,hc,hA⟩:=hv;have HV:=hid hv';clear hA hv' hs;generalize hlen:xs.length=l at *;have HL:=hid hlen;clear hlen;obtain ⟨i0,hi,hz0,hz1,hz2⟩:=info_parts Na;have ez:=Ue (.int .u64 0) (n-l);have HZ:=hid ez;clear ez;go_enter Tryz.func196,Tryz.ntmps196
 go_wp2_with (first
  | (go_at_call 81;refine (Nd HV.out (by rw [HL.out];omega)).mono ?_;rintro e w1 ⟨v1,rfl,ho,hk⟩;have HO:=hid ho;have HK:=hid hk;clear ho hk)
  | (at_builtin;go_must (refine Lc _ rfl _ _ 26 3 rfl w.heap.size 55 i0 (.int .u64 0) .i64 .i64 Tryz.underlying26 Tryz.underlying3 hi hz0 (by rw [hz1];decide) (by rw [hz1];rfl) _ xs.length (xs.map U) rfl (by rw [hz1];exact HO.out) (n-l) _ rfl (by omega) (by show ∀ u∈(Builtin.zeroCells #[_] _).toList,_;rw [HZ.out];exact Yj _ _) (by unfold maxLen;rw [HL.out];omega) (by rw [HL.out,hz2];omega) HK.out.size ?_)))
 intro v' w2 hown2 hgrow2;have ho:Hid (Own w2 w.heap.size v' (xs++List.replicate (n-l) 0)):=by
  refine Eb (n:=xs.length+(n-l)) ?_;have h2:=hown2;rw [HZ.out] at h2;rw [List.map_replicate];exact h2
 have hk:Hid (Below w.heap.size w w2):=Below.grown HK.out hgrow2 HK.out.size (fun k hk=>(World.ownsRow.lt HO.out k hk).1);clear hown2 hgrow2;go_wp2_with fail;go_ret;exact ⟨_,rfl,ho.out,hk.out⟩
theorem Ahx (x:Nat):val [x]=x:=by simp [val]
theorem Wf (hx:x<18446744073709551616)(hg:g<w.heap.size)(hc:w.cell? ⟨g,0,none⟩=some (.int .u64 x))(c:Nat)(hc1:1≤c):Lim w (.slice (some ⟨g,0,none⟩) 1 c) [x]:=by
 refine ⟨fun y hy=>?_,some ⟨g,0,none⟩,c,rfl,hc1,fun _=>⟨g,0,rfl,hg,fun i hi=>?_⟩⟩
 ·rw [List.mem_singleton.1 hy];exact hx
 ·obtain rfl:i=0:=by simp at hi;omega
  exact hc
theorem Aef (hv:Lim w v xs)(b:Nat)(hb:0<b)(hb64:b<18446744073709551616)(hl:xs.length≤100000) :
 Calls Tryz.prog 195 #[v,.int .u64 b] w fun e w'=>∃ v1 v2,e=.returned (.tuple #[v1,v2])∧Lim w' v1 (limbs (val xs/b))∧Lim w' v2 (limbs (val xs%b))∧Kept w w':=by
 have hall:=Ajx xs hv.1 b hb;rw [←hall.1,←hall.2];clear hall;obtain ⟨hs,A,c,rfl,hc,hA⟩:=hv;have HS:=hid hs;have HA:=hid hA;have hsm:=K5 xs hs b hb;have HR:=hid (Tm xs b hb);have hln:=El xs b;have hst:=K6 xs b;have hz:shS xs b 0=(List.replicate xs.length 0,0):=rfl;clear hs hA;generalize hlen:xs.length=l at *;have HSM:=hid hsm;have HLN:=hid hln;have HST:=hid hst;have HZ:=hid hz;have HL:=hid hlen;clear hlen hsm hln hst hz;obtain ⟨i0,hi,hz0,hz1,hz2⟩:=info_parts Na;go_enter Tryz.func195,Tryz.ntmps195
 go_wp2_with (at_make;go_must (refine wpList_make_full _ rfl _ _ 26 rfl w.heap.size 55 i0 (.int .u64 0) 1 Tryz.underlying26 hi hz0 hz1 .i64 .i64 _ _ l rfl rfl (by omega) (by omega) (by rw [hz2];omega) (by unfold maxLen;omega) (by simp) ?_))
 intro w1 hown1 hgrow1;have ho:Hid (Own w1 w.heap.size (.slice (some ⟨w.heap.size,0,none⟩) l l) (shS xs b 0).1):=by rw [HZ.out];exact Jw hown1
 have hk:Hid (Below w.heap.size w w1):=Below.grown (Below.refl _ _) hgrow1 (by simp) (by intro k hk;cases hk);clear hown1 hgrow1;go_wp2_with fail;generalize hBase:w.heap.size=B at *;have HBASE:=hid hBase;clear hBase
 go_loopw [7,8] (fun r t wr=>∃ k:Nat,k≤l∧t=.int .i64 ((k:Int)-1)∧r=.int .u64 (shS xs b (l-k)).2∧Own wr B (.slice (some ⟨B,0,none⟩) l l) (shS xs b (l-k)).1∧Below B w wr) (fun _ t _=>(intOf t+1).toNat)
 case atStart=>exact ⟨l,Nat.le_refl _,rfl,by rw [Nat.sub_self,HZ.out];rfl,by rw [Nat.sub_self];exact ho.out,hk.out⟩
 case round =>
  obtain ⟨k,hkl,rfl,rfl,hO,hB⟩:=hrel;have HO:=hid hO;have HB:=hid hB;clear hO hB;cases k with
  | succ k =>
    obtain ⟨bb,off,rfl,hbb,hcell⟩:=HA.out (by omega);have hck:=(HB.out.cell (p:=⟨bb,off+k,none⟩) hbb).trans (hcell k (by omega));clear hcell;have ho1:=HO.out.cell k (by rw [HLN.out];omega);have hf1:=HO.out.frozen k;have hr:=HR.out (l-(k+1));have hx:=nth_lt HS.out k;have HS1:Hid (shS xs b (l-k)=((shS xs b (l-(k+1))).1.set k (((shS xs b (l-(k+1))).2*18446744073709551616+nth xs k)/b),((shS xs b (l-(k+1))).2*18446744073709551616+nth xs k)%b)):=by
     show _=_
     have:=HST.out (l-(k+1));rwa [show l-(k+1)+1=l-k by omega,show l-1-(l-(k+1))=k by omega] at this
    generalize shS xs b (l-(k+1))=s at *;obtain ⟨o,r⟩:=s;simp only at *;generalize nth xs k=x at *;generalize nth o k=y at *;have hdiv:=fun w=>Abv r x b hb64 hx hr w
    have HD:=hid hdiv;clear hdiv;obtain ⟨qd,hqd⟩:∃ qd,(r*18446744073709551616+x)/b=qd:=⟨_,rfl⟩;obtain ⟨rd,hrd⟩:∃ rd,(r*18446744073709551616+x)%b=rd:=⟨_,rfl⟩;rw [hqd,hrd] at HD HS1;clear hqd hrd
    go_wp2_with (go_at_call 205;refine (HD.out _).mono ?_;rintro e w' ⟨rfl,nd,rfl⟩)
    go_roundw
    case rel=>exact ⟨k,by omega,by go_num,by rw [HS1.out],by rw [HS1.out];exact HO.out.stored _ _,(below_drewN HB.out _).setCell (Nat.le_refl _) _⟩
    case measure=>simp [intOf]
  | zero =>
    have hlim:=HO.out.lim (HSM.out _);rw [Nat.sub_zero] at hlim;have hr:=HR.out l;rw [Nat.sub_zero] at HO ⊢;have hlen:=HLN.out l;generalize hsE:shS xs b l=s at *;obtain ⟨o,r⟩:=s;have HSE:=hid hsE;clear hsE;simp only at *;have HLM:=hid hlim;clear hlim
    go_wp2_with (fail)
    refine (Id HLM.out (by rw [hlen];omega)).mono ?_;rintro e w' ⟨v1,rfl,hv1,rfl⟩;have HV1:=hid hv1;clear hv1
    go_wp2_with (fail)
    have hl1:Lim (wr.alloc (.cells #[.int .u64 r] 55)) (.slice (some ⟨wr.heap.size,0,none⟩) 1 1) [r]:=Wf (by omega) (by simp) (by simp [go_sem]) 1 (Nat.le_refl _);have hk1:Hid (Kept wr (wr.alloc (.cells #[.int .u64 r] 55))):=(Below.refl _ _).alloc (Nat.le_refl _) _;have HL1:=hid hl1;clear hl1;refine (Id HL1.out (by simp)).mono ?_;rintro e w' ⟨v2,rfl,hv2,rfl⟩;have HV2:=hid hv2;clear hv2
    go_wp2_with (fail)
    refine bodyPost_ret (v:=.tuple #[v1,v2]) (by simp [results,Tryz.results195,go_sem]) rfl ⟨v1,v2,rfl,by rw [HSE.out];exact HV1.out.kept hk1.out,?_,?_⟩
    ·have:=HV2.out;rw [Ahx] at this;rw [HSE.out];exact this
    ·rw [Kept,HBASE.out];exact HB.out.alloc (by rw [←HBASE.out];exact HB.out.size) _
theorem Ajk (pre wl post:List Nat)(k:Nat)(hk:k<wl.length):nth (pre++(wl++post)) (pre.length+k)=nth wl k:=by
 unfold nth;rw [List.getD_eq_getElem?_getD,List.getD_eq_getElem?_getD,List.getElem?_append_right (by omega),Nat.add_sub_cancel_left,List.getElem?_append_left hk]
theorem Ajw (pre wl post:List Nat)(k y:Nat)(hk:k<wl.length):(pre++(wl++post)).set (pre.length+k) y=pre++(wl.set k y++post):=by
 rw [List.set_append_right _ _ (by omega),Nat.add_sub_cancel_left,List.set_append_left _ _ hk]
def Win (w:World) (base g N cap:Nat) (pre wl post:List Nat):Prop:=Own w base (.slice (some ⟨g,0,none⟩) N cap) (pre++(wl++post))
theorem Win.cell (h:Win w base g N cap pre wl post)(k:Nat)(hk:k<wl.length):w.cell? ⟨g,pre.length+k,none⟩=some (.int .u64 (nth wl k)):=by
 rw [←Ajk pre wl post k hk];exact Own.cell h _ (by simp;omega)
theorem Win.frozen (h:Win w base g N cap pre wl post)(k:Nat):w.frozen? ⟨g,k,none⟩=false:=Own.frozen h k
theorem Win.stored (h:Win w base g N cap pre wl post)(k y:Nat)(hk:k<wl.length):Win (w.setCell ⟨g,pre.length+k,none⟩ (U y)) base g N cap pre (wl.set k y) post:=by
 unfold Win;rw [←Ajw pre wl post k y hk];exact Own.stored h _ y
theorem Win.drewN (h:Win w base g N cap pre wl post)(n:Nat):Win (w.drewN n) base g N cap pre wl post:=h
structure Only (g:Nat) (w w':World):Prop where
 os:w'.os=w.os
 tape:w'.tape=w.tape
 output:w'.output=w.output
 size:w'.heap.size=w.heap.size
 block:∀ k,k≠g→w'.heap[k]?=w.heap[k]?
theorem Only.refl (g:Nat)(w:World):Only g w w:=⟨rfl,rfl,rfl,rfl,fun _ _=>rfl⟩
theorem Only.drewN (h:Only g a w)(n:Nat):Only g a (w.drewN n):=⟨h.os,h.tape,h.output,h.size,h.block⟩
theorem Only.setCell (h:Only g a w)(k:Nat)(u:Value):Only g a (w.setCell ⟨g,k,none⟩ u) :=
 ⟨h.os,h.tape,h.output,by rw [←h.size];simp [World.setCell],fun j hj=>(Below.heap_setCell w ⟨g,k,none⟩ u j hj).trans (h.block j hj)⟩
theorem Only.cell (h:Only g a w){b k:Nat}(hb:b≠g):w.cell? ⟨b,k,none⟩=a.cell? ⟨b,k,none⟩:=World.cell?_of_block (h.block b hb)
theorem Only.below {B:Nat}{b:World}(h:Only g b w)(k:Below B a b)(hg:B≤g):Below B a w :=
 k.trans ⟨h.os,h.tape,h.output,Nat.le_of_eq h.size.symm,fun j hj=>h.block j (by omega)⟩
def Ah0 (base g N cap:Nat) (pre wl post vs:List Nat) (w:World) (e:Ending) (w':World):Prop :=
 e=.returned (.int .u64 (val wl/val vs:Nat))∧∃ wl',wl'.length=wl.length∧Small wl'∧val wl'=val wl%val vs∧Win w' base g N cap pre wl' post∧Only g w w'
def Aep (wl vs:List Nat) (n:Nat) (w:World) (x r o:Value) (wx:World):Prop :=
 ∃ X R O:Nat,x=.int .u64 X∧r=.int .u64 R∧o=.int .u64 O∧DigInv wl vs n X (O*18446744073709551616+R)∧R<18446744073709551616∧O≤1∧∃ q,wx=w.drewN q
def Aku (wl vs:List Nat) (w:World) (x:Value) (wx:World):Prop :=
 ∃ X:Nat,x=.int .u64 X∧X<18446744073709551616∧(X=val wl/val vs∨X=val wl/val vs+1)∧∃ q,wx=w.drewN q
theorem Aif {gv cv:Nat}{vs:List Nat}(hd:DigIn wl vs n)(hn:n≤100000)(_hj:pre.length≤200000)(hw:Win w base g N cap pre wl post)(hc:n+1≤c)(hcv:n≤cv)
 (hne:gv≠g) (hv:∀ i,i<n→w.cell? ⟨gv,i,none⟩=some (.int .u64 (nth vs i))) :
 Calls Tryz.prog 197 #[.slice (some ⟨g,pre.length,none⟩) (n+1) c,.slice (some ⟨gv,0,none⟩) n cv] w (Ah0 base g N cap pre wl post vs w):=by
 have hn2:=hd.n2;have hwl:=hd.wlen;have hvn:=hv (n-1) (by omega);have hvm:=hv (n-2) (by omega);have hun:=hw.cell n (by omega);have hum:=hw.cell (n-1) (by omega);have huk:=hw.cell (n-2) (by omega);have bvn:=nth_lt hd.vsm (n-1);have bvm:=nth_lt hd.vsm (n-2);have bun:=nth_lt hd.ws n;have bum:=nth_lt hd.ws (n-1);have buk:=nth_lt hd.ws (n-2);have btop:=hd.top;have btops:=hd.tops;have HD:=hid hd;have HW:=hid hw;have HV:=hid hv;have HWL:=hid hwl;have HS1:=hid hd.start_lt;have HS2:=hid hd.start_eq;clear hd hw hv hwl;obtain ⟨m,rfl⟩:∃ m,n=m+2:=⟨n-2,by omega⟩;simp only [Nat.add_sub_cancel,show m+2-1=m+1 by omega] at *
 generalize hun':nth wl (m+2)=un at *;generalize hum':nth wl (m+1)=um at *;generalize huk':nth wl m=uk at *;generalize hvn':nth vs (m+1)=vn at *;generalize hvm':nth vs m=vm at *;generalize hj':pre.length=j at *;have HE:=hid (And.intro hun' (And.intro hum' (And.intro huk' (And.intro hvn' (And.intro hvm' hj')))));clear hun' hum' huk' hvn' hvm' hj';go_enter Tryz.func197,Tryz.ntmps197;go_wp2_with fail
 go_quiet (fail)
 iterate 2 go_step
 have e0:((0:Nat):Int)=0:=rfl
 go_cut [6,7,8] (Aep wl vs (m+2) w)
 case first =>
  by_cases hlt:un<vn
  ·have hinv:=HS1.out hlt;have bx:=Ow un um vn hlt bum;have br:(un*18446744073709551616+um)%vn<vn:=Nat.mod_lt _ (by omega);have hdiv:=fun w=>Abv un um vn bvn bum hlt w
   have HDV:=hid hdiv;clear hdiv;obtain ⟨x0,hx0⟩:∃ x0,(un*18446744073709551616+um)/vn=x0:=⟨_,rfl⟩;obtain ⟨r0,hr0⟩:∃ r0,(un*18446744073709551616+um)%vn=r0:=⟨_,rfl⟩;rw [hx0,hr0] at hinv HDV;rw [hx0] at bx;rw [hr0] at br;have HI:=hid hinv;clear hinv hx0 hr0 HS1 HS2;go_wp2_with fail
   go_quiet ((go_at_call 205;first | exact Aa6 (HDV.out _) | exact Al7 (HDV.out _)))
   go_wp2_with fail
   go_meet
   case rel=>exact ⟨x0,r0,0,rfl,rfl,rfl,by rw [Nat.zero_mul,Nat.zero_add];exact HI.out,by omega,by omega,by simp only [World.drewN_drewN];exact ⟨_,rfl⟩⟩
  ·have hinv:=HS2.out hlt;have hadd:∀ w,(callFunc 201 #[.int .u64 um,.int .u64 vn,.int .u64 0]).run Tryz.prog w=.ok (.value (.tuple #[.int .u64 (De um vn 0),.int .u64 (Dm um vn 0)])) w:=fun w=>Oz um vn 0 (by omega) w
   have hsum:Dm um vn 0*18446744073709551616+De um vn 0=um+vn:=by unfold Dm De;omega
   have hs1:Dm um vn 0≤1:=by unfold Dm;omega
   have hs2:De um vn 0<18446744073709551616:=Nat.mod_lt _ (by decide);rw [←hsum] at hinv;have HI:=hid hinv;clear hinv hsum HS1 HS2;generalize Dm um vn 0=o0 at *;generalize De um vn 0=r0 at *;go_wp2_with fail
   go_quiet (fail)
   go_wp2_with fail
   go_meet
   case rel=>exact ⟨18446744073709551615,r0,o0,rfl,rfl,rfl,HI.out,hs2,hs1,by simp only [World.drewN_drewN];exact ⟨_,rfl⟩⟩
 case rest =>
  obtain ⟨X,R,O,rfl,rfl,rfl,hinv,hR,hO,q0,rfl⟩:=hcut;have HI0:=hid hinv;clear hinv HS1 HS2
  go_upto_block 0 with fail
  go_cut [6] (Aku wl vs w)
  case first =>
   go_wp2_with fail
   go_loopw [6,7,8] (fun x r o wr=>Aep wl vs (m+2) w x r o wr) (fun x _ _ _=>(intOf x).toNat)
   case atStart=>exact ⟨X,R,O,rfl,rfl,rfl,HI0.out,hR,hO,_,rfl⟩
   case round =>
    clear HI0 hR hO;obtain ⟨x,r,o,rfl,rfl,rfl,hinv,hR,hO,q1,rfl⟩:=hrel;have HI:=hid hinv;clear hinv;by_cases ho:o=0
    ·subst ho;have hdone:=fun hc=>HI.out.done HD.out (Or.inl hc)
     have hless:=fun hc=>HI.out.less HD.out hc
     have hx:=HI.out.lt;have hcmp:=Ajb (x*vm) r uk buk;have hle:=Agf x vm hx bvm;simp only [Nat.add_sub_cancel,show m+2-1=m+1 by omega,HE.out.2.2.1,HE.out.2.2.2.1,HE.out.2.2.2.2.1,Nat.zero_mul,Nat.zero_add] at hdone hless;rw [hcmp] at hdone;have hless':(¬(x*vm/18446744073709551616<r∨x*vm/18446744073709551616=r∧x*vm%18446744073709551616≤uk))→1≤x∧DigInv wl vs (m+2) (x-1) (r+vn):=fun h=>hless (by rw [←hcmp] at h;omega)
     have hmul:=fun w=>Agc x vm hx bvm w
     have HM:=hid hmul;have HDN:=hid hdone;have HLS:=hid hless';clear hmul hdone hless hless' hcmp hle;unfold N2 Er at HM;generalize x*vm/18446744073709551616=h at *;generalize x*vm%18446744073709551616=l at *;by_cases h1:h<r
     ·have HFIN:=hid (HDN.out (Or.inl h1))
      go_wp2_with (go_at_call 200;refine (HM.out _).mono ?_;rintro e w' ⟨rfl,rfl⟩)
      go_meet
      case rel=>exact ⟨x,rfl,hx,HFIN.out,_,rfl⟩
     ·by_cases h2:h=r
      ·subst h2;have e1:(((h:Nat):Int)==(h:Int))=true:=by simp
       by_cases h3:l≤uk
       ·have HFIN:=hid (HDN.out (Or.inr ⟨rfl,h3⟩))
        go_wp2_with (go_at_call 200;refine (HM.out _).mono ?_;rintro e w' ⟨rfl,rfl⟩)
        go_meet
        case rel=>exact ⟨x,rfl,hx,HFIN.out,_,rfl⟩
       ·skip
        have hll:=HLS.out (by omega);obtain ⟨hx1,hI'⟩:=hll;have hadd:∀ w,(callFunc 201 #[.int .u64 h,.int .u64 vn,.int .u64 0]).run Tryz.prog w=.ok (.value (.tuple #[.int .u64 (De h vn 0),.int .u64 (Dm h vn 0)])) w:=fun w=>Oz h vn 0 (by omega) w
        have hsum:Dm h vn 0*18446744073709551616+De h vn 0=h+vn:=by unfold Dm De;omega
        have hs1:Dm h vn 0≤1:=by unfold Dm;omega
        have hs2:De h vn 0<18446744073709551616:=Nat.mod_lt _ (by decide);rw [←hsum] at hI';have HI':=hid hI';clear hI' hsum HLS HDN HI;generalize Dm h vn 0=o1 at *;generalize De h vn 0=r1 at *;obtain ⟨xx,hxe⟩:∃ xx,x-1=xx:=⟨_,rfl⟩;rw [hxe] at HI';have hxi:(x:Int)-1=(xx:Int):=by omega
        have hxl:xx<x:=by omega
        clear hxe
        go_wp2_with (go_at_call 200;refine (HM.out _).mono ?_;rintro e w' ⟨rfl,rfl⟩)
        go_roundw
        case rel=>exact ⟨xx,r1,o1,rfl,rfl,rfl,HI'.out,hs2,hs1,_,rfl⟩
        case measure=>simp [intOf];omega
      ·have e1:(((h:Nat):Int)==(r:Int))=false:=by rw [beq_eq_false_iff_ne];omega
       have hll:=HLS.out (by omega);obtain ⟨hx1,hI'⟩:=hll;have hadd:∀ w,(callFunc 201 #[.int .u64 r,.int .u64 vn,.int .u64 0]).run Tryz.prog w=.ok (.value (.tuple #[.int .u64 (De r vn 0),.int .u64 (Dm r vn 0)])) w:=fun w=>Oz r vn 0 (by omega) w
       have hsum:Dm r vn 0*18446744073709551616+De r vn 0=r+vn:=by unfold Dm De;omega
       have hs1:Dm r vn 0≤1:=by unfold Dm;omega
       have hs2:De r vn 0<18446744073709551616:=Nat.mod_lt _ (by decide);rw [←hsum] at hI';have HI':=hid hI';clear hI' hsum HLS HDN HI;generalize Dm r vn 0=o1 at *;generalize De r vn 0=r1 at *;obtain ⟨xx,hxe⟩:∃ xx,x-1=xx:=⟨_,rfl⟩;rw [hxe] at HI';have hxi:(x:Int)-1=(xx:Int):=by omega
       have hxl:xx<x:=by omega
       clear hxe
       go_wp2_with (go_at_call 200;refine (HM.out _).mono ?_;rintro e w' ⟨rfl,rfl⟩)
       go_roundw
       case rel=>exact ⟨xx,r1,o1,rfl,rfl,rfl,HI'.out,hs2,hs1,_,rfl⟩
       case measure=>simp [intOf];omega
    ·have ho1:o=1:=by omega
     subst ho1;have hfin:=HI.out.done HD.out (Or.inr (by omega));have HFIN:=hid hfin;have hx:=HI.out.lt;clear hfin HI;go_wp2_with fail
     go_meet
     case rel=>exact ⟨x,rfl,hx,HFIN.out,_,rfl⟩
  case rest =>
   obtain ⟨x,rfl,hx,hX,q1,rfl⟩:=hcut;have HX:=hid hX;clear hX;have HMS:=hid (Jj wl x vs HD.out.ws);have HMC:=hid (Uz wl x vs hx HD.out.vsm);have HMB:=hid (Ly wl x vs);have HML:=hid (fun k=>(Hu wl x vs k).trans HWL.out);have HMN:=hid (Kw wl x vs);have HVL:=hid (nth_lt HD.out.vsm);go_wp2_with fail
   go_loopw [11,12,107] (fun cy bw t wr=>∃ k:Nat,k≤m+2∧t=.int .i64 k∧cy=.int .u64 (msS wl x vs k).2.1∧bw=.int .u64 (msS wl x vs k).2.2∧Win wr base g N cap pre (msS wl x vs k).1 post∧Only g w wr) (fun _ _ t _=>(m+2-intOf t).toNat)
   case atStart=>exact ⟨0,Nat.zero_le _,rfl,rfl,rfl,HW.out.drewN _,(Only.refl g w).drewN _⟩
   case round =>
    obtain ⟨k,hkl,rfl,rfl,rfl,hWk,hOk⟩:=hrel;have HWk:=hid hWk;have HOk:=hid hOk;clear hWk hOk;by_cases hlt:k<m+2
    ·have hck:=(HOk.out.cell (k:=k) hne).trans (HV.out k hlt);have ho1:=HWk.out.cell k (by rw [HML.out];omega);have hf1:=HWk.out.frozen (j+k);rw [HE.out.2.2.2.2.2] at ho1;have hcy:=HMC.out k;have hbw:=HMB.out k;have hzk:=nth_lt (HMS.out k) k;have hyk:=HVL.out k;have HST:=hid (HMN.out k);have hln:=HML.out k;generalize msS wl x vs k=s at *;obtain ⟨o,cy,bw⟩:=s;simp only at *;generalize nth o k=z at *;generalize nth vs k=y at *;have HM:=hid (fun w=>Agc x y hx hyk w);have hadd:∀ w,(callFunc 201 #[.int .u64 (Er x y),.int .u64 cy,.int .u64 0]).run Tryz.prog w=.ok (.value (.tuple #[.int .u64 (De (Er x y) cy 0),.int .u64 (Dm (Er x y) cy 0)])) w:=fun w=>Oz _ _ 0 (by omega) w
     have hsub:∀ w,(callFunc 206 #[.int .u64 z,.int .u64 (De (Er x y) cy 0),.int .u64 bw]).run Tryz.prog w=.ok (.value (.tuple #[.int .u64 (N3 z (De (Er x y) cy 0) bw),.int .u64 (Pi z (De (Er x y) cy 0) bw)])) w:=fun w=>Acx _ _ bw hbw w
     have s1:De (Er x y) cy 0=(x*y+cy)%18446744073709551616:=by unfold De Er;omega
     have s2:N2 x y+Dm (Er x y) cy 0=(x*y+cy)/18446744073709551616:=by unfold N2 Dm Er;omega
     have b1:N2 x y+Dm (Er x y) cy 0≤18446744073709551615:=by
      rw [s2];have:=Nn x y cy 0 hx hyk hcy (by decide);rw [Nat.add_zero] at this;exact Nat.le_of_lt_succ this
     rw [←s1,←s2] at HST;clear s1 s2;generalize N2 x y=h1 at *;generalize Er x y=l1 at *;generalize De l1 cy 0=l2 at *;generalize Dm l1 cy 0=c2 at *;have HST':Hid (msS wl x vs (k+1)=(o.set k (N3 z l2 bw),h1+c2,Pi z l2 bw)):=HST.out;clear HST;generalize N3 z l2 bw=d1 at *;generalize Pi z l2 bw=d2 at *
     go_wp2_with (go_at_call 200;refine (HM.out _).mono ?_;rintro e w' ⟨rfl,rfl⟩)
     go_roundw
     case rel =>
      refine ⟨k+1,by omega,by go_num,by rw [HST'.out];simp,by rw [HST'.out],?_,HOk.out.setCell _ _⟩;rw [HST'.out];have:=HWk.out.stored k d1 (by rw [hln];omega);rwa [HE.out.2.2.2.2.2] at this
     case measure=>simp [intOf];omega
    ·obtain rfl:k=m+2:=by omega
     have hn1:(msS wl x vs (m+2)).1.length=m+3:=HML.out _;have ho1:=HWk.out.cell (m+2) (by rw [hn1];omega);have hf1:=HWk.out.frozen (j+(m+2));rw [HE.out.2.2.2.2.2] at ho1;have hcy:=HMC.out (m+2);have hbw:=HMB.out (m+2);have hzk:=nth_lt (HMS.out (m+2)) (m+2);have hV:=HD.out.vpos;have hfit:=fun hq=>Aag wl vs x (m+2) HD.out.ws HWL.out HD.out.vlen hq hcy
     have hover:=fun hq=>Aah wl vs x (m+2) HD.out.ws HWL.out HD.out.vlen hV hq hcy
     have hsm2:=fun y (hy:y<18446744073709551616)=>Dv (HMS.out (m+2)) (m+2) y hy
     generalize msS wl x vs (m+2)=s at *;obtain ⟨o,cy,bw⟩:=s;simp only at *;generalize nth o (m+2)=z at *;have hsub:∀ w,(callFunc 206 #[.int .u64 z,.int .u64 cy,.int .u64 bw]).run Tryz.prog w=.ok (.value (.tuple #[.int .u64 (N3 z cy bw),.int .u64 (Pi z cy bw)])) w:=fun w=>Acx _ _ bw hbw w
     have hlod:N3 z cy bw<18446744073709551616:=Nat.mod_lt _ (by decide);have hsm3:=hsm2 _ hlod;have HFIT:Hid (x=val wl/val vs→val (o.set (m+2) (N3 z cy bw))=val wl%val vs∧Pi z cy bw=0):=hfit;have HOVER:Hid (x=val wl/val vs+1→val (o.set (m+2) (N3 z cy bw))+val vs=val wl%val vs+18446744073709551616^(m+2)*18446744073709551616∧Pi z cy bw=1):=hover;have HSM3:=hid hsm3;clear hfit hover hsm2 hsm3;generalize N3 z cy bw=d1 at *;generalize Pi z cy bw=d2 at *;have hW2:=HWk.out.stored (m+2) d1 (by rw [hn1];omega);rw [HE.out.2.2.2.2.2] at hW2;have HW2:=hid hW2;clear hW2;rcases HX.out with hxq | hxq
     ·obtain ⟨f1,f2⟩:=HFIT.out hxq;subst f2;have HF1:=hid f1;have HXQ:=hid hxq;clear f1 hxq;go_wp2_with fail;go_ret;exact ⟨by rw [←HXQ.out];rfl,o.set (m+2) d1,by rw [List.length_set,hn1,HWL.out],HSM3.out,HF1.out,HW2.out,HOk.out.setCell _ _⟩
     ·obtain ⟨f1,f2⟩:=HOVER.out hxq;subst f2;have HF1:=hid f1;have HXQ:=hid hxq;have hx1:1≤x:=by rw [hxq];exact Nat.le_add_left 1 _
      clear f1 hxq;go_wp2_with fail;have hO2:=HOk.out.setCell (j+(m+2)) (U d1);have HO2:=hid hO2;clear hO2 HWk HOk;have hln2:(o.set (m+2) d1).length=m+3:=by rw [List.length_set];exact hn1
      generalize o.set (m+2) d1=w2 at *;have HLN2:=hid hln2;have HAS:=hid (Gv w2 vs HSM3.out);have HAC:=hid (Lf w2 vs HSM3.out HD.out.vsm);have HAL:=hid (fun k=>(Fp w2 vs k).trans hln2);have HAN:=hid (Hp w2 vs);clear hln2 hn1;obtain ⟨wo,hwo⟩:∃ wo,wr.setCell ⟨g,j+(m+2),none⟩ (Value.int .u64 d1)=wo:=⟨_,rfl⟩
      go_loopw [11,159] (fun cy t wr'=>∃ k:Nat,k≤m+2∧t=.int .i64 k∧cy=.int .u64 (D5 w2 vs k).2∧Win wr' base g N cap pre (D5 w2 vs k).1 post∧Only g w wr') (fun _ t _=>(m+2-intOf t).toNat)
      case atStart=>exact ⟨0,Nat.zero_le _,rfl,rfl,HW2.out,HO2.out⟩
      case round =>
       obtain ⟨k,hkl,rfl,rfl,hWk,hOk⟩:=hrel;have HWk:=hid hWk;have HOk:=hid hOk;clear hWk hOk HW2 HO2 hwo;by_cases hlt:k<m+2
       ·have hck:=(HOk.out.cell (k:=k) hne).trans (HV.out k hlt);have ho1:=HWk.out.cell k (by rw [HAL.out];omega);have hf1:=HWk.out.frozen (j+k);rw [HE.out.2.2.2.2.2] at ho1;have hcy2:=HAC.out k;have hzk2:=nth_lt (HAS.out k) k;have hyk:=HVL.out k;have HST:=hid (HAN.out k);have hln:=HAL.out k;generalize D5 w2 vs k=s at *;obtain ⟨o2,cy2⟩:=s;simp only at *;generalize nth o2 k=z2 at *;generalize nth vs k=y at *;have hadd:∀ w,(callFunc 201 #[.int .u64 z2,.int .u64 y,.int .u64 cy2]).run Tryz.prog w=.ok (.value (.tuple #[.int .u64 (De z2 y cy2),.int .u64 (Dm z2 y cy2)])) w:=fun w=>Oz _ _ cy2 hcy2 w
        have HST':Hid (D5 w2 vs (k+1)=(o2.set k (De z2 y cy2),Dm z2 y cy2)):=HST.out;clear HST;generalize De z2 y cy2=e1 at *;generalize Dm z2 y cy2=e2 at *;go_wp2_with fail;go_roundw
        case rel =>
         refine ⟨k+1,by omega,by go_num,by rw [HST'.out],?_,HOk.out.setCell _ _⟩;rw [HST'.out];have:=HWk.out.stored k e1 (by rw [hln];omega);rwa [HE.out.2.2.2.2.2] at this
        case measure=>simp [intOf];omega
       ·obtain rfl:k=m+2:=by omega
        have hn3:(D5 w2 vs (m+2)).1.length=m+3:=HAL.out _;have ho1:=HWk.out.cell (m+2) (by rw [hn3];omega);have hf1:=HWk.out.frozen (j+(m+2));rw [HE.out.2.2.2.2.2] at ho1;have hcy2:=HAC.out (m+2);have hzk2:=nth_lt (HAS.out (m+2)) (m+2);have hback:=Aaf w2 vs (m+2) (val wl%val vs) HSM3.out HD.out.vsm HLN2.out HD.out.vlen (Nat.mod_lt _ hV) HF1.out;have hsm4:=fun y (hy:y<18446744073709551616)=>Dv (HAS.out (m+2)) (m+2) y hy
        generalize D5 w2 vs (m+2)=s at *;obtain ⟨o2,cy2⟩:=s;simp only at *;generalize nth o2 (m+2)=z2 at *;have hwrap:IntKind.u64.wrap ((z2:Int)+(cy2:Int))=(((z2+cy2)%18446744073709551616:Nat):Int):=by rw [IntKind.wrap_u64];omega
        have hlt4:(z2+cy2)%18446744073709551616<18446744073709551616:=Nat.mod_lt _ (by decide);have HSM4:=hid (hsm4 _ hlt4);have HBK:=hid hback;clear hsm4 hback;generalize (z2+cy2)%18446744073709551616=zf at *;have hW4:=HWk.out.stored (m+2) zf (by rw [hn3];omega);rw [HE.out.2.2.2.2.2] at hW4;have HW4:=hid hW4;clear hW4;go_wp2_with fail;go_ret;refine ⟨?_,o2.set (m+2) zf,by rw [List.length_set,hn3,HWL.out],HSM4.out,HBK.out,HW4.out,HOk.out.setCell _ _⟩;refine F8 ?_;rw [show (val wl/val vs:Nat)=x-1 by rw [HXQ.out];exact (Nat.add_sub_cancel ..).symm];omega
theorem Ajn (hv:Lim w v xs)(hl:xs.length≤17592186044416) :
 Calls Tryz.prog 108 #[v] w (RetQ (.bool (Nx xs)) w):=by
 obtain ⟨hs,A,c,rfl,hc,hA⟩:=hv;unfold Nx;by_cases h0:xs.length=0
 ·rw [h0];clear hs hA;have HL:=hid h0;clear h0 hl hc;go_enter Tryz.func108,Tryz.ntmps108;go_wp2_with fail;go_ret;exact RetQ.mk0 _ _
 ·obtain ⟨b,off,rfl,hb,hcell⟩:=hA (by omega);have hck:=hcell (xs.length-1) (by omega);clear hcell hs hA hb;generalize nth xs (xs.length-1)=x at *;generalize xs.length=m at *;obtain ⟨l,rfl⟩:∃ l,m=l+1:=⟨m-1,by omega⟩;clear h0;rw [Nat.add_sub_cancel] at hck;have e0:(l+1==0)=false:=by simp
  rw [e0,Bool.false_or];clear e0;have e1:(((l+1:Nat):Int)==0)=false:=by simp;omega
  by_cases h1:l+1≤64
  ·have d1:decide (l+1≤64)=true:=by simpa using h1
   rw [d1,Bool.true_and];have e3:(x != 0)=(((x:Nat):Int) != 0):=by
    by_cases hx:x=0
    ·subst hx;rfl
    ·have:((x:Nat):Int)≠0:=by omega
     rw [bne_iff_ne.2 hx,bne_iff_ne.2 this]
   rw [e3];clear e3 d1;go_enter Tryz.func108,Tryz.ntmps108;go_wp2_with fail;go_ret;exact RetQ.mk0 _ _
  ·have d1:decide (l+1≤64)=false:=by simpa using h1
   rw [d1,Bool.false_and];clear d1;go_enter Tryz.func108,Tryz.ntmps108;go_wp2_with fail;go_ret;exact RetQ.mk0 _ _
namespace Dg
theorem Ahr {A:Option Addr}(hv:Lim w (.slice A n c) xs)(hl:xs.length≤17592186044416) :
 Calls Tryz.prog 192 #[.slice A n c] w (fun e w'=>e=.returned (.slice A (tl xs) c)∧w=w'):=by
 obtain ⟨hs,A',c',he,hc,hA⟩:=hv;injection he with h1 h2 h3
 subst h1;subst h3;subst h2;have HA:=hid hA;clear hA hs;generalize hn:xs.length=n at *;have htl:tl xs=Dw xs n:=by unfold tl;rw [hn]
 rw [htl];clear hn htl;go_enter Tryz.func192,Tryz.ntmps192;go_wp2_with fail
 go_loop [3] (fun s=>∃ k:Nat,k≤n∧s=.int .i64 k∧Dw xs k=Dw xs n) (fun s=>(intOf s).toNat)
 case atStart=>exact ⟨n,Nat.le_refl _,rfl,rfl⟩
 case round =>
  obtain ⟨k,hk,rfl,ht⟩:=hrel;have HT:=hid ht;clear ht;cases k with
  | zero =>
    go_wp2_with fail;go_ret;exact ⟨by rw [←HT.out];rfl,rfl⟩
  | succ k =>
    obtain ⟨b,off,rfl,hb,hcell⟩:=HA.out (by omega);have hck:=hcell k (by omega);clear hcell;by_cases hz:nth xs k=0
    ·rw [hz] at hck;have HZ:=hid hz;clear hz;go_wp2_with fail
     go_round
     case rel=>exact ⟨k,by omega,by go_num,by rw [←HT.out,Dw,if_pos HZ.out]⟩
     case measure=>simp [intOf]
    ·have hz':((nth xs k:Int)==0)=false:=by simp;omega
     have HZ:=hid hz;clear hz;go_wp2_with fail;go_ret;exact ⟨by rw [←HT.out,Dw,if_neg HZ.out];rfl,rfl⟩
theorem Id (hv:Lim w v xs)(hl:xs.length≤17592186044416) :
 Calls Tryz.prog 192 #[v] w (Vj (limbs (val xs)) w):=by
 have hv':=hv;obtain ⟨hs,A,c,rfl,hc,hA⟩:=hv;exact Calls.mono (Ahr hv' hl) (fun e w' ⟨he,hw⟩=>⟨_,he,hv'.trimmed,hw⟩)
theorem Ami (ho:Own w base v xs)(hs:Small xs)(hl:xs.length≤17592186044416) :
 Calls Tryz.prog 192 #[v] w (fun e w'=>∃ v',e=.returned v'∧Lim w v' (limbs (val xs))∧Abk base v'∧w=w'):=by
 have hv:=ho.lim hs;have hv':=hv;obtain ⟨-,A,c,rfl,-,-⟩:=hv;exact Calls.mono (Ahr hv' hl) (fun e w' ⟨he,hw⟩=>⟨_,he,hv'.trimmed,ho.fresh,hw⟩)
theorem Ah9 (h:x≠0):bl x=bl (x/2)+1:=by
 by_cases h1:x/2=0
 ·have:x=1:=by omega
  subst this;rfl
 ·obtain ⟨q,hq⟩:∃ q,bl (x/2)=q+1:=⟨bl (x/2)-1,by have:=Cr _ h1;omega⟩;have a:=Cz _ h1;have b:=Ba (x/2);rw [hq] at a b ⊢;rw [Nat.add_sub_cancel] at a;exact Xa x (q+1) (by rw [Nat.pow_succ];omega) (by rw [Nat.pow_succ];omega)
theorem bits_c (hv:Lim w v (limbs n))(hl:(limbs n).length≤17592186044416) :
 Calls Tryz.prog 156 #[v] w (RetQ (.int .i64 (bl n)) w):=by
 obtain ⟨hs,A,c,rfl,hc,hA⟩:=hv;by_cases h0:n=0
 ·subst h0;rw [Au];clear hs hA hc hl;have e:((bl 0:Nat):Int)=0:=rfl;rw [e];clear e;go_enter Tryz.func156,Tryz.ntmps156;go_wp2_with fail;go_ret;exact RetQ.mk0 _ _
 ·have hp:=Bc n h0;obtain ⟨b,off,rfl,hb,hcell⟩:=hA hp;have hck:=hcell ((limbs n).length-1) (by omega);have hlt:=nth_lt hs ((limbs n).length-1);have hbl:bl n=16*((limbs n).length-1)+bl (nth (limbs n) ((limbs n).length-1)):=Rx n h0;have hb16:bl (nth (limbs n) ((limbs n).length-1))≤16:=Fl _ 16 hlt;rw [hbl];clear hcell hs hA hb hbl h0;generalize nth (limbs n) ((limbs n).length-1)=x at *;generalize (limbs n).length=m at *;obtain ⟨l,rfl⟩:∃ l,m=l+1:=⟨m-1,by omega⟩;clear hp;rw [Nat.add_sub_cancel] at *;have e1:(((l+1:Nat):Int)==0)=false:=by simp;omega
  go_enter Tryz.func156,Tryz.ntmps156;go_wp2_with fail
  go_loop [3,4] (fun s t=>∃ i y:Nat,s=.int .i64 i∧t=.int .u32 y∧y<65536∧i+bl y=16*l+bl x) (fun _ t=>(intOf t).toNat)
  case atStart=>exact ⟨16*l,x,by go_num,rfl,hlt,rfl⟩
  case round =>
   obtain ⟨i,y,rfl,rfl,hy,ht⟩:=hrel;have HT:=hid ht;clear ht;by_cases hz:y=0
   ·subst hz;have HT':=HT.out;rw [Gp] at HT';go_wp2_with fail;go_ret;exact ⟨F8 (by omega),0,rfl⟩
   ·have hz':decide ((0:Int)<(y:Int))=true:=by simp;omega
    have hz2:decide (0<y)=true:=by simp;omega
    have hz3:0<y:=by omega
    have HB:=hid (Ah9 hz);have HZ:=hid hz;have hi:i<281474976710657:=by have:=HT.out;omega
    clear hz;go_wp2_with fail
    go_round
    case rel=>exact ⟨i+1,y/2,by go_num,by go_num,by omega,by have:=HT.out;have:=HB.out;omega⟩
    case measure=>simp [intOf];omega
theorem Dp (n i:Nat):nth (limbs n) i<65536:=nth_lt (Dj n) i
theorem cmp_c (hv:Lim w v (limbs n))(hu:Lim w u (limbs m))(hl:(limbs n).length≤17592186044416)(_hl:(limbs m).length≤17592186044416) :
 Calls Tryz.prog 157 #[v,u] w (RetQ (.int .i64 (Du n m)) w):=by
 obtain ⟨hs,A,c,rfl,hc,hA⟩:=hv;obtain ⟨hs',A',c',rfl,hc',hA'⟩:=hu;by_cases hne:(limbs n).length=(limbs m).length
 ·have ht:=Lk           n m hne;rw [←ht];have HA:=hid hA;have HA':=hid hA';rw [←hne] at HA' hc' ⊢;clear hA hA' hs hs' ht hne;have hx:=Dp           n;have hy:=Dp           m;generalize limbs n=xs at *;generalize limbs m=ys at *;generalize hnx:xs.length=l at *;clear hnx;have HX:=hid hx;have HY:=hid hy;clear hx hy;have en:(((l:Nat):Int) != (l:Int))=false:=by simp
  go_enter Tryz.func157,Tryz.ntmps157;go_wp2_with fail
  go_loopw [5] (fun i wr=>∃ k:Nat,k≤l∧i=.int .i64 ((k:Int)-1)∧(∃ q,wr=w.drewN q)∧E5 xs ys k=E5 xs ys l) (fun i _=>(intOf i+1).toNat)
  case atStart=>exact ⟨l,Nat.le_refl _,rfl,⟨0,rfl⟩,rfl⟩
  case round =>
   obtain ⟨k,hk,rfl,⟨q,rfl⟩,ht⟩:=hrel;have HT:=hid ht;clear ht;cases k with
   | zero =>
     go_wp2_with fail;go_ret;refine ⟨?_,q,rfl⟩;rw [←HT.out];rfl
   | succ k =>
     obtain ⟨b,off,rfl,hb,hcell⟩:=HA.out (by omega);have hck:=hcell k (by omega);clear hcell;obtain ⟨b',off',rfl,hb',hcell⟩:=HA'.out (by omega);have hck':=hcell k (by omega);have hkl:k<l:=by omega
     have hxk:=HX.out k;have hyk:=HY.out k;clear hcell;have HE:=hid (show E5 xs ys (k+1)=if nth xs k=nth ys k then E5 xs ys k else if nth xs k<nth ys k then -1 else 1 from rfl);generalize nth xs k=x at *;generalize nth ys k=y at *;by_cases he:x=y
     ·subst he;have e1:decide (x<x)=false:=by simp
      go_wp2_with fail
      go_quiet (fail)
      go_wp2_with fail
      go_quiet (fail)
      go_wp2_with fail;go_roundw
      case rel=>exact ⟨k,by omega,by go_num,⟨_,rfl⟩,by rw [←HT.out,HE.out];simp⟩
      case measure=>simp [intOf]
     ·have HN:=hid he;by_cases hlt:x<y
      ·clear he;have e2:decide (x<y)=true:=by simp;omega
       go_wp2_with fail
       go_quiet (fail)
       go_wp2_with fail;go_ret;refine ⟨F8 ?_,by simp only [World.drewN_drewN];exact ⟨_,rfl⟩⟩;rw [←HT.out,HE.out,if_neg HN.out,if_pos hlt]
      ·have e2:decide (x<y)=false:=by simp;omega
       have e3:decide (y<x)=true:=by simp;omega
       clear he;go_wp2_with fail
       go_quiet (fail)
       go_wp2_with fail
       go_quiet (fail)
       go_wp2_with fail;go_ret;refine ⟨F8 ?_,by simp only [World.drewN_drewN];exact ⟨_,rfl⟩⟩;rw [←HT.out,HE.out,if_neg HN.out,if_neg hlt]
 ·have en:((((limbs n).length:Nat):Int) != ((limbs m).length:Int))=true:=by simp;omega
  have hcm:Du n m=if (limbs n).length<(limbs m).length then -1 else 1:=by
   by_cases hlt:(limbs n).length<(limbs m).length
   ·have:=Ft n m hlt;simp [Du,hlt,this]
   ·have:=Ft m n (by omega);simp only [Du,hlt];rw [if_neg (by omega),if_neg (by omega)];rfl
  rw [hcm];clear hcm hne hA hA' hs hs';generalize (limbs n).length=l at *;generalize (limbs m).length=l' at *;by_cases hlt:l<l'
  ·rw [if_pos hlt];have ed:decide (l<l')=true:=by simp;omega
   go_enter Tryz.func157,Tryz.ntmps157;go_wp2_with fail;go_ret;exact ⟨rfl,0,rfl⟩
  ·rw [if_neg hlt];have ed:decide (l<l')=false:=by simp;omega
   go_enter Tryz.func157,Tryz.ntmps157;go_wp2_with fail;go_ret;exact ⟨rfl,0,rfl⟩
end Dg
end Go.Proofs.YtabjjdicffcolaaGreatDoor
namespace Go.Proofs.YtabjjdicffcolaaGreatDoor.Dg
open Go.Lib (hid)
open Go.RowKit
def Fo (x:Nat):List Nat:=[x%65536,x/65536%65536,x/4294967296%65536,x/281474976710656%65536]
def E9:List Nat→List Nat
 | []=>[]
 | x::xs=>Fo x++E9 xs
theorem Lr:∀ xs,(E9 xs).length=4*xs.length
 | []=>rfl
 | x::xs=>by simp only [E9,List.length_append,Lr xs,List.length_cons,Fo,List.length_nil];omega
theorem Pe:∀ xs ys,E9 (xs++ys)=E9 xs++E9 ys
 | [],ys=>rfl
 | x::xs,ys=>by simp only [List.cons_append,E9,Pe xs ys,List.append_assoc]
theorem Aao (xs:List Nat)(k:Nat)(h:k<xs.length):E9 (xs.take (k+1))=E9 (xs.take k)++Fo (nth xs k):=by
 rw [Km xs k h,Pe,E9,E9,List.append_nil]
theorem Aan (x:Nat):Small (Fo x):=by
 intro y hy;simp only [Fo,List.mem_cons,List.not_mem_nil,or_false] at hy;rcases hy with rfl | rfl | rfl | rfl<;>exact Nat.mod_lt _ (by decide)
theorem Qy:∀ xs,Small (E9 xs)
 | []=>fun x hx=>by cases hx
 | x :: xs => fun y hy => by
   rcases List.mem_append.1 hy with h | h
   ·exact Aan x y h
   ·exact Qy xs y h
theorem Ahw (x:Nat)(h:x<18446744073709551616):val (Fo x)=x:=by
 simp only [Fo,val];omega
theorem Vh:∀ xs,Go.Proofs.YtabjjdicffcolaaGreatDoor.Small xs→val (E9 xs)=Go.Proofs.YtabjjdicffcolaaGreatDoor.val xs
 | [],_=>rfl
 | x :: xs, h => by
   have h1:=h x (List.mem_cons_self ..);have h2:=Vh xs (fun y hy=>h y (List.mem_cons_of_mem _ hy));rw [E9,Cn,Ahw x h1,h2,show (Fo x).length=4 from rfl,show (65536:Nat)^4=18446744073709551616 by decide]
   show _=x+_
   rfl
theorem Ox (n:Int):IntKind.u32.wrap n=n%4294967296:=by simp [IntKind.wrap,IntKind.signed,IntKind.bits]
theorem Abp (a b:Nat)(ha:a<4294967296)(hb:b<4294967296):bits .and .u32 (a:Int) (b:Int)=((a &&& b:Nat):Int):=by
 have hx:a &&& b<2^32:=Nat.and_lt_two_pow _ (by omega);have h1:(BitVec.ofInt 32 (a:Int)).toNat=a:=by
  rw [BitVec.ofInt_natCast,BitVec.toNat_ofNat];exact Nat.mod_eq_of_lt (by omega)
 have h2:(BitVec.ofInt 32 (b:Int)).toNat=b:=by
  rw [BitVec.ofInt_natCast,BitVec.toNat_ofNat];exact Nat.mod_eq_of_lt (by omega)
 show IntKind.u32.wrap ((BitVec.ofInt 32 (a:Int) &&& BitVec.ofInt 32 (b:Int)).toNat:Int)=_
 rw [BitVec.toNat_and,h1,h2,Ox];omega
theorem Al2 (a b:Nat)(ha:a<4294967296)(hb:b<4294967296):bits .or .u32 (a:Int) (b:Int)=((a ||| b:Nat):Int):=by
 have hx:a ||| b<2^32:=Nat.or_lt_two_pow (by omega) (by omega)
 have h1:(BitVec.ofInt 32 (a:Int)).toNat=a:=by
  rw [BitVec.ofInt_natCast,BitVec.toNat_ofNat];exact Nat.mod_eq_of_lt (by omega)
 have h2:(BitVec.ofInt 32 (b:Int)).toNat=b:=by
  rw [BitVec.ofInt_natCast,BitVec.toNat_ofNat];exact Nat.mod_eq_of_lt (by omega)
 show IntKind.u32.wrap ((BitVec.ofInt 32 (a:Int) ||| BitVec.ofInt 32 (b:Int)).toNat:Int)=_
 rw [BitVec.toNat_or,h1,h2,Ox];omega
theorem Abo (y:Nat):bits .and .u32 (IntKind.u32.wrap (y:Int)) 65535=((y%65536:Nat):Int):=by
 have e:IntKind.u32.wrap (y:Int)=((y%4294967296:Nat):Int):=by rw [Ox];omega
 rw [e,show (65535:Int)=((65535:Nat):Int) from rfl,Abp _ _ (Nat.mod_lt _ (by decide)) (by decide)];rw [show (65535:Nat)=2^16-1 from rfl,Nat.and_two_pow_sub_one_eq_mod];omega
theorem All {w:World}{v:Value}{xs:List Nat}(hv:Go.Proofs.YtabjjdicffcolaaGreatDoor.Lim w v xs)(hl:xs.length≤100000) :
 Calls Tryz.prog 159 #[v] w (RetLim (limbs (Go.Proofs.YtabjjdicffcolaaGreatDoor.val xs)) w):=by
 obtain ⟨hs,A,c,rfl,hc,hA⟩:=hv;have HV:=hid (Vh xs hs);have HX:=hid (fun k=>Go.Proofs.YtabjjdicffcolaaGreatDoor.nth_lt hs k);rw [←HV.out];clear HV;have HA:=hid hA;clear hA hs;obtain ⟨i0,hi,hz0,hz1,hz2⟩:=info_parts Na;generalize hlen:xs.length=l at *;have HL:=hid hlen;clear hlen;go_enter Tryz.func159,Tryz.ntmps159;go_wp2_with fail
 go_loopw [3,4] (fun o i wr=>∃ k:Nat,k≤l∧i=.int .i64 k∧Own wr w.heap.size o (E9 (xs.take k))∧Below w.heap.size w wr) (fun _ i _=>(l-intOf i).toNat)
 case atStart=>exact ⟨0,Nat.zero_le _,rfl,World.ownsRow_nil _ _ _ _,Below.refl _ _⟩
 case round =>
  obtain ⟨k,hkl,rfl,hO,hB⟩:=hrel;have HO:=hid hO;have HB:=hid hB;clear hO hB;by_cases hlt:k<l
  ·obtain ⟨b,off,rfl,hb,hcell⟩:=HA.out (by omega);have HC:=hid (hcell k hlt);have HT:=hid (Aao xs k (by rw [HL.out];omega));have hxk:=HX.out k;have hlo:(E9 (xs.take k)).length=4*k:=by rw [Lr,List.length_take,HL.out];omega
   have HLO:=hid hlo;clear hcell hlo;generalize nth xs k=x at *;go_wp2_with fail
   go_loopw [3,5] (fun o i wr=>∃ j:Nat,j≤4∧i=.int .i64 j∧Own wr w.heap.size o (E9 (xs.take k)++(Fo x).take j)∧Below w.heap.size w wr) (fun _ i _=>(4-intOf i).toNat)
   case atStart=>exact ⟨0,Nat.zero_le _,rfl,by rw [List.take_zero,List.append_nil];exact HO.out,HB.out⟩
   case round =>
    obtain ⟨j,hj,rfl,hO,hB⟩:=hrel;replace HO:=hid hO;replace HB:=hid hB;clear hO hB;have hck:=(HB.out.cell (p:=⟨b,off+k,none⟩) hb).trans HC.out;by_cases hj4:j<4
    ·obtain rfl | rfl | rfl | rfl:j=0∨j=1∨j=2∨j=3:=by omega
     ·obtain ⟨d,hd,hx⟩:∃ d:Nat,d=x%65536∧bits .and .u32 ((x:Int)%4294967296) 65535=(d:Int):=⟨_,rfl,by rw [←Abo (x),Ox]⟩;obtain ⟨L,hL⟩:∃ L,L=E9 (xs.take k)++(Fo x).take 0:=⟨_,rfl⟩;rw [←hL] at HO;have HLL:Hid (L.length=4*k+0):=by rw [hL,List.length_append,HLO.out,List.length_take];rfl
      have HD:Hid (L++[d]=E9 (xs.take k)++(Fo x).take (0+1)):=by rw [hL,hd,List.append_assoc];rfl
      clear hd hL
      go_wp2_with (at_builtin;go_must (refine wpList_append_own _ rfl _ _ 121 rfl w.heap.size 154 i0 (.int .u32 0) 1 4 Tryz.underlying121 hi hz0 hz1 hz2 rfl (by decide) _ L.length (L.map U) rfl (World.ownsRow.alloc HO.out _) ⟨_,0,none⟩ 1 1 [_] rfl rfl (E3 _ _ _) (by simp [Value.oneCell']) (by rw [HLL.out];unfold maxLen;omega) (by rw [HLL.out];omega) (by have:=HB.out.size;simp;omega) ?_))
      intro v' w2 hown2 hgrow2 _;have ho:Hid (Own w2 w.heap.size v' (L++[d])):=Eb (ys:=[d]) hown2;have hk:Hid (Below w.heap.size w w2):=Below.grown (HB.out.alloc HB.out.size _) hgrow2 (by have:=HB.out.size;simp;omega) (fun k hk=>(World.ownsRow.lt HO.out k hk).1);clear hown2 hgrow2 hx;go_wp2_with fail;go_roundw
      case rel=>exact ⟨1,by omega,by go_num,by rw [HD.out] at ho;exact ho.out,hk.out⟩
      case measure=>simp [intOf]
     ·obtain ⟨d,hd,hx⟩:∃ d:Nat,d=x/65536%65536∧bits .and .u32 ((x:Int)/65536%4294967296) 65535=(d:Int):=⟨_,rfl,by rw [←Abo (x/65536),Ox];rfl⟩;obtain ⟨L,hL⟩:∃ L,L=E9 (xs.take k)++(Fo x).take 1:=⟨_,rfl⟩;rw [←hL] at HO;have HLL:Hid (L.length=4*k+1):=by rw [hL,List.length_append,HLO.out,List.length_take];rfl
      have HD:Hid (L++[d]=E9 (xs.take k)++(Fo x).take (1+1)):=by rw [hL,hd,List.append_assoc];rfl
      clear hd hL
      go_wp2_with (at_builtin;go_must (refine wpList_append_own _ rfl _ _ 121 rfl w.heap.size 154 i0 (.int .u32 0) 1 4 Tryz.underlying121 hi hz0 hz1 hz2 rfl (by decide) _ L.length (L.map U) rfl (World.ownsRow.alloc HO.out _) ⟨_,0,none⟩ 1 1 [_] rfl rfl (E3 _ _ _) (by simp [Value.oneCell']) (by rw [HLL.out];unfold maxLen;omega) (by rw [HLL.out];omega) (by have:=HB.out.size;simp;omega) ?_))
      intro v' w2 hown2 hgrow2 _;have ho:Hid (Own w2 w.heap.size v' (L++[d])):=Eb (ys:=[d]) hown2;have hk:Hid (Below w.heap.size w w2):=Below.grown (HB.out.alloc HB.out.size _) hgrow2 (by have:=HB.out.size;simp;omega) (fun k hk=>(World.ownsRow.lt HO.out k hk).1);clear hown2 hgrow2 hx;go_wp2_with fail;go_roundw
      case rel=>exact ⟨2,by omega,by go_num,by rw [HD.out] at ho;exact ho.out,hk.out⟩
      case measure=>simp [intOf]
     ·obtain ⟨d,hd,hx⟩:∃ d:Nat,d=x/4294967296%65536∧bits .and .u32 ((x:Int)/4294967296%4294967296) 65535=(d:Int):=⟨_,rfl,by rw [←Abo (x/4294967296),Ox];rfl⟩;have hx2:bits .and .u32 ((x:Int)/4294967296) 65535=(d:Int):=by rw [←hx];congr 1;omega
      obtain ⟨L,hL⟩:∃ L,L=E9 (xs.take k)++(Fo x).take 2:=⟨_,rfl⟩;rw [←hL] at HO;have HLL:Hid (L.length=4*k+2):=by rw [hL,List.length_append,HLO.out,List.length_take];rfl
      have HD:Hid (L++[d]=E9 (xs.take k)++(Fo x).take (2+1)):=by rw [hL,hd,List.append_assoc];rfl
      clear hd hL
      go_wp2_with (at_builtin;go_must (refine wpList_append_own _ rfl _ _ 121 rfl w.heap.size 154 i0 (.int .u32 0) 1 4 Tryz.underlying121 hi hz0 hz1 hz2 rfl (by decide) _ L.length (L.map U) rfl (World.ownsRow.alloc HO.out _) ⟨_,0,none⟩ 1 1 [_] rfl rfl (E3 _ _ _) (by simp [Value.oneCell']) (by rw [HLL.out];unfold maxLen;omega) (by rw [HLL.out];omega) (by have:=HB.out.size;simp;omega) ?_))
      intro v' w2 hown2 hgrow2 _;have ho:Hid (Own w2 w.heap.size v' (L++[d])):=Eb (ys:=[d]) hown2;have hk:Hid (Below w.heap.size w w2):=Below.grown (HB.out.alloc HB.out.size _) hgrow2 (by have:=HB.out.size;simp;omega) (fun k hk=>(World.ownsRow.lt HO.out k hk).1);clear hown2 hgrow2 hx hx2;go_wp2_with fail;go_roundw
      case rel=>exact ⟨3,by omega,by go_num,by rw [HD.out] at ho;exact ho.out,hk.out⟩
      case measure=>simp [intOf]
     ·obtain ⟨d,hd,hx⟩:∃ d:Nat,d=x/281474976710656%65536∧bits .and .u32 ((x:Int)/281474976710656%4294967296) 65535=(d:Int):=⟨_,rfl,by rw [←Abo (x/281474976710656),Ox];rfl⟩;have hx2:bits .and .u32 ((x:Int)/281474976710656) 65535=(d:Int):=by rw [←hx];congr 1;omega
      obtain ⟨L,hL⟩:∃ L,L=E9 (xs.take k)++(Fo x).take 3:=⟨_,rfl⟩;rw [←hL] at HO;have HLL:Hid (L.length=4*k+3):=by rw [hL,List.length_append,HLO.out,List.length_take];rfl
      have HD:Hid (L++[d]=E9 (xs.take k)++(Fo x).take (3+1)):=by rw [hL,hd,List.append_assoc];rfl
      clear hd hL
      go_wp2_with (at_builtin;go_must (refine wpList_append_own _ rfl _ _ 121 rfl w.heap.size 154 i0 (.int .u32 0) 1 4 Tryz.underlying121 hi hz0 hz1 hz2 rfl (by decide) _ L.length (L.map U) rfl (World.ownsRow.alloc HO.out _) ⟨_,0,none⟩ 1 1 [_] rfl rfl (E3 _ _ _) (by simp [Value.oneCell']) (by rw [HLL.out];unfold maxLen;omega) (by rw [HLL.out];omega) (by have:=HB.out.size;simp;omega) ?_))
      intro v' w2 hown2 hgrow2 _;have ho:Hid (Own w2 w.heap.size v' (L++[d])):=Eb (ys:=[d]) hown2;have hk:Hid (Below w.heap.size w w2):=Below.grown (HB.out.alloc HB.out.size _) hgrow2 (by have:=HB.out.size;simp;omega) (fun k hk=>(World.ownsRow.lt HO.out k hk).1);clear hown2 hgrow2 hx hx2;go_wp2_with fail;go_roundw
      case rel=>exact ⟨4,by omega,by go_num,by rw [HD.out] at ho;exact ho.out,hk.out⟩
      case measure=>simp [intOf]
    ·obtain rfl:j=4:=by omega
     go_wp2_with fail;go_roundw
     case rel=>exact ⟨k+1,by omega,by go_num,by rw [HT.out];exact HO.out,HB.out⟩
     case measure=>simp [intOf];omega
  ·obtain rfl:k=l:=by omega
   have hlim:=HO.out.lim (Qy _);rw [List.take_of_length_le (by rw [HL.out];omega)] at hlim;have HLM:=hid hlim;clear hlim
   go_wp2_with (go_at_call 192;refine (Id HLM.out (by rw [Lr,HL.out];omega)).mono ?_;rintro e w' ⟨v',rfl,hv',rfl⟩;have HV':=hid hv';clear hv')
   go_ret;exact ⟨_,rfl,HV'.out,HB.out⟩
def shS (xs:List Nat) (r:Nat):Nat→List Nat × Nat
 | 0=>([],0)
 | i+1=>((shS xs r i).1++[(nth xs i*2^r+(shS xs r i).2)%65536],(nth xs i*2^r+(shS xs r i).2)/65536)
theorem El (xs:List Nat)(r:Nat):∀ i,(shS xs r i).1.length=i
 | 0=>rfl
 | i+1=>by rw [shS,List.length_append,El xs r i];rfl
theorem K5 (xs:List Nat)(r:Nat):∀ i,Small (shS xs r i).1
 | 0=>fun x hx=>by cases hx
 | i + 1 => fun x hx => by
   rw [shS] at hx;rcases List.mem_append.1 hx with h | h
   ·exact K5 xs r i x h
   ·have:x=(nth xs i*2^r+(shS xs r i).2)%65536:=by simpa using h
    rw [this];exact Nat.mod_lt _ (by decide)
theorem Va {xs:List Nat}(hs:Small xs)(r:Nat):∀ i,(shS xs r i).2<2^r
 | 0=>Nat.pow_pos (by decide)
 | i + 1 => by
   rw [shS];have h1:=nth_lt hs i;have h2:=Va hs r i;have h3:(nth xs i+1)*2^r≤65536*2^r:=Nat.mul_le_mul_right _ h1;rw [Nat.add_mul,Nat.one_mul] at h3;exact Nat.div_lt_of_lt_mul (by omega)
theorem Pt {xs:List Nat}(r:Nat):∀ i,i≤xs.length→val (shS xs r i).1+65536^i*(shS xs r i).2=val (xs.take i)*2^r
 | 0,_=>by simp [shS,val]
 | i + 1, h => by
   have ih:=Pt (xs:=xs) r i (by omega);rw [shS,Cn,El,Br xs i (by omega),Nat.add_mul,←ih,Nat.pow_succ];simp only [val,Nat.mul_zero,Nat.add_zero];generalize (shS xs r i).2=c;have:=Nat.mod_add_div (nth xs i*2^r+c) 65536;rw [Nat.mul_assoc (65536^i) 65536,Nat.add_assoc,←Nat.mul_add,this,Nat.mul_add,←Nat.add_assoc,Nat.mul_assoc (65536^i) (nth xs i)];exact Nat.add_right_comm _ _ _
theorem Aen (q:Nat)(xs:List Nat):val (List.replicate q 0++xs)=65536^q*val xs:=by
 induction q with
 | zero=>simp
 | succ q ih=>rw [List.replicate_succ,List.cons_append,val,ih,Nat.pow_succ];rw [Nat.zero_add,←Nat.mul_assoc,Nat.mul_comm 65536]
theorem Ajz {xs:List Nat}(q r:Nat):val (List.replicate q 0++((shS xs r xs.length).1++[(shS xs r xs.length).2]))=val xs*2^(16*q+r):=by
 rw [Aen,Cn,El];simp only [val,Nat.mul_zero,Nat.add_zero];rw [Pt r xs.length (Nat.le_refl _),List.take_length,Nat.pow_add,Nat.pow_mul,show (2:Nat)^16=65536 from rfl,Nat.mul_left_comm]
theorem Al1 {x c r:Nat}(h:c<2^r):x*2^r ||| c=x*2^r+c:=by
 rw [Nat.mul_comm,Nat.two_pow_add_eq_or_of_lt h]
theorem Ag6 {x c r:Nat}(hx:x<65536)(hr:r<16)(hc:c<2^r):bits .or .u32 ((x:Int)*2^r%4294967296) (c:Int)=((x*2^r+c:Nat):Int)∧x*2^r+c<4294967296:=by
 have h1:2^r≤2^15:=Nat.pow_le_pow_right (by decide) (by omega);have h2:x*2^r≤65535*2^15:=Nat.mul_le_mul (by omega) h1;have e:(x:Int)*2^r%4294967296=((x*2^r:Nat):Int):=by
  have:(x:Int)*2^r=((x*2^r:Nat):Int):=by simp
  rw [this];omega
 rw [e,Al2 _ _ (by omega) (by omega),Al1 hc];exact ⟨rfl,by omega⟩
theorem Ak0 (y:Nat)(h:y<4294967296):bits .and .u32 (y:Int) 65535=((y%65536:Nat):Int):=by
 rw [show (65535:Int)=((65535:Nat):Int) from rfl,Abp _ _ h (by decide)];rw [show (65535:Nat)=2^16-1 from rfl,Nat.and_two_pow_sub_one_eq_mod]
theorem Ajy {w:World}{v:Value}{xs:List Nat}(hv:Lim w v xs)(n:Nat)(hl:xs.length≤100000)(h0:0<xs.length)(hn:n≤6400000) :
 Calls Tryz.prog 158 #[v,.int .i64 n] w (RetLimF (limbs (val (List.replicate (n/16) 0++((shS xs (n%16) xs.length).1++[(shS xs (n%16) xs.length).2])))) w):=by
 obtain ⟨hs,A,c,rfl,hc,hA⟩:=hv;obtain ⟨b,off,rfl,hb,hcell⟩:=hA h0;have HC:=hid hcell;have HX:=hid (nth_lt hs);have HCY:=hid (Va hs (n%16));clear hcell hA hs;obtain ⟨i0,hi,hz0,hz1,hz2⟩:=info_parts Na;generalize hlen:xs.length=l at *;have HL:=hid hlen;clear hlen;have e0:(((l:Nat):Int)==0)=false:=by rw [beq_eq_false_iff_ne];omega
 go_enter Tryz.func158,Tryz.ntmps158
 go_wp2_with (at_make;go_must (refine wpList_make_full _ rfl _ _ 121 rfl w.heap.size 154 i0 (.int .u32 0) 1 Tryz.underlying121 hi hz0 hz1 .i64 .i64 _ _ (n/16) rfl rfl (by omega) (by omega) (by rw [hz2];omega) (by unfold maxLen;omega) (by simp) ?_))
 intro w1 hown1 hgrow1;have ho:Hid (Own w1 w.heap.size (.slice (some ⟨w.heap.size,0,none⟩) (n/16) (n/16)) (List.replicate (n/16) 0)):=Jw hown1;have hk:Hid (Below w.heap.size w w1):=Below.grown (Below.refl _ _) hgrow1 (by simp) (by intro k hk;cases hk);clear hown1 hgrow1;have hr16:n%16<16:=Nat.mod_lt _ (by decide);go_wp2_with fail
 go_loopw [5,6,7] (fun o cy i wr=>∃ k:Nat,k≤l∧i=.int .i64 k∧cy=.int .u32 ((shS xs (n%16) k).2:Nat)∧Own wr w.heap.size o (List.replicate (n/16) 0++(shS xs (n%16) k).1)∧Below w.heap.size w wr) (fun _ _ i _=>(l-intOf i).toNat)
 case atStart=>exact ⟨0,Nat.zero_le _,rfl,rfl,by rw [shS,List.append_nil];exact ho.out,hk.out⟩
 case round =>
  obtain ⟨k,hkl,rfl,rfl,hO,hB⟩:=hrel;have HO:=hid hO;have HB:=hid hB;clear hO hB;by_cases hlt:k<l
  ·have hck:=(HB.out.cell (p:=⟨b,off+k,none⟩) hb).trans (HC.out k hlt);have hxk:=HX.out k;have hcy:=HCY.out k;have HST:=hid (show shS xs (n%16) (k+1)=((shS xs (n%16) k).1++[(nth xs k*2^(n%16)+(shS xs (n%16) k).2)%65536],(nth xs k*2^(n%16)+(shS xs (n%16) k).2)/65536) from rfl);have hL:(List.replicate (n/16) 0++(shS xs (n%16) k).1).length=n/16+k:=by rw [List.length_append,List.length_replicate,El]
   obtain ⟨L,hLL⟩:∃ L,L=List.replicate (n/16) 0++(shS xs (n%16) k).1:=⟨_,rfl⟩;rw [←hLL] at HO hL;have HLL:=hid hLL;have HLN:=hid hL;clear hLL hL;obtain ⟨y,hy⟩:∃ y,y=nth xs k*2^(n%16)+(shS xs (n%16) k).2:=⟨_,rfl⟩;obtain ⟨d,hd⟩:∃ d,d=y%65536:=⟨_,rfl⟩;have hor:=(Ag6 hxk hr16 hcy).1;have hlt2:=(Ag6 hxk hr16 hcy).2;rw [←hy] at HST hor hlt2;have hand:=Ak0 y hlt2;rw [←hd] at HST hand;have HD:=hid hd;clear hy hd hcy;generalize (shS xs (n%16) k).2=cy at *;generalize nth xs k=x at *
   go_wp2_with (at_builtin;go_must (refine wpList_append_own _ rfl _ _ 121 rfl w.heap.size 154 i0 (.int .u32 0) 1 4 Tryz.underlying121 hi hz0 hz1 hz2 rfl (by decide) _ L.length (L.map U) rfl (World.ownsRow.alloc HO.out _) ⟨_,0,none⟩ 1 1 [_] rfl rfl (E3 _ _ _) (by simp [Value.oneCell']) (by rw [HLN.out];unfold maxLen;omega) (by rw [HLN.out];omega) (by have:=HB.out.size;simp;omega) ?_))
   intro v' w2 hown2 hgrow2 _;have ho:Hid (Own w2 w.heap.size v' (L++[d])):=Eb (ys:=[d]) hown2;have hk:Hid (Below w.heap.size w w2):=Below.grown (HB.out.alloc HB.out.size _) hgrow2 (by have:=HB.out.size;simp;omega) (fun k hk=>(World.ownsRow.lt HO.out k hk).1);clear hown2 hgrow2 hor hand;go_wp2_with fail;go_roundw
   case rel=>exact ⟨k+1,by omega,by go_num,by rw [HST.out];go_num,by rw [HST.out];rw [HLL.out,List.append_assoc] at ho;exact ho.out,hk.out⟩
   case measure=>simp [intOf];omega
  ·obtain rfl:k=l:=by omega
   have hcy:=HCY.out k;have hL:(List.replicate (n/16) 0++(shS xs (n%16) k).1).length=n/16+k:=by rw [List.length_append,List.length_replicate,El]
   obtain ⟨L,hLL⟩:∃ L,L=List.replicate (n/16) 0++(shS xs (n%16) k).1:=⟨_,rfl⟩;have hsm:Small L:=by
    rw [hLL];intro x hx;rcases List.mem_append.1 hx with h | h
    ·rw [(List.mem_replicate.1 h).2];decide
    ·exact K5 _ _ _ x h
   have hp:2^(n%16)≤2^15:=Nat.pow_le_pow_right (by decide) (by omega);have hgoal:List.replicate (n/16) 0++((shS xs (n%16) k).1++[(shS xs (n%16) k).2])=L++[(shS xs (n%16) k).2]:=by rw [hLL,List.append_assoc]
   have HG:=hid hgoal;rw [←hLL] at HO hL;have HLN:=hid hL;have HSM:=hid hsm;generalize (shS xs (n%16) k).2=cy at *;have hc2:cy<65536:=by omega
   clear hLL hL hsm hgoal hp hcy
   go_wp2_with (at_builtin;go_must (refine wpList_append_own _ rfl _ _ 121 rfl w.heap.size 154 i0 (.int .u32 0) 1 4 Tryz.underlying121 hi hz0 hz1 hz2 rfl (by decide) _ L.length (L.map U) rfl (World.ownsRow.alloc HO.out _) ⟨_,0,none⟩ 1 1 [_] rfl rfl (E3 _ _ _) (by simp [Value.oneCell']) (by rw [HLN.out];unfold maxLen;omega) (by rw [HLN.out];omega) (by have:=HB.out.size;simp;omega) ?_))
   intro v' w2 hown2 hgrow2 _;have ho:Hid (Own w2 w.heap.size v' (L++[cy])):=Eb (ys:=[cy]) hown2;have hk:Hid (Below w.heap.size w w2):=Below.grown (HB.out.alloc HB.out.size _) hgrow2 (by have:=HB.out.size;simp;omega) (fun k hk=>(World.ownsRow.lt HO.out k hk).1);clear hown2 hgrow2;have hlim:=ho.out.lim (by
    intro x hx;rcases List.mem_append.1 hx with h | h
    ·exact HSM.out x h
    ·have:x=cy:=by simpa using h
     omega)
   have HLM:=hid hlim;clear hlim
   go_wp2_with (go_at_call 192;refine (Ami ho.out HLM.out.1 (by rw [List.length_append,HLN.out];simp;omega)).mono ?_;rintro e w' ⟨v',rfl,hv',hf',rfl⟩;have HV':=hid hv';have FR:=hid hf';clear hv' hf')
   go_ret;exact ⟨_,rfl,by rw [HG.out];exact HV'.out,hk.out,.inr FR.out⟩
theorem Ann {w:World}{v:Value}{m:Nat}(hv:Lim w v (limbs m))(n:Nat)(hl:(limbs m).length≤100000)(hn:n≤6400000) :
 Calls Tryz.prog 158 #[v,.int .i64 n] w (RetLimF (limbs (m*2^n)) w):=by
 by_cases h0:m=0
 ·subst h0;rw [Au] at *;rw [Nat.zero_mul,Au];have hv':=hv;obtain ⟨hs,A,c,rfl,hc,hA⟩:=hv;clear hs hA hc hl;refine Calls.mono (R:=fun e w'=>e=.returned (.slice A ([]:List Nat).length c)∧w=w') ?_ (fun e w' ⟨he,hw⟩=>by subst hw;exact ⟨_,he,hv',Below.refl _ _,.inl rfl⟩);clear hv';have e0:(((([]:List Nat).length:Nat):Int)==0)=true:=rfl;go_enter Tryz.func158,Tryz.ntmps158;go_wp2_with fail;go_ret;exact ⟨rfl,rfl⟩
 ·have:=Ajy hv n hl (Bc m h0) hn;rwa [Ajz,Bn,show 16*(n/16)+n%16=n by omega] at this
theorem shl_c {w:World}{v:Value}{m:Nat}(hv:Lim w v (limbs m))(n:Nat)(hl:(limbs m).length≤100000)(hn:n≤6400000) :
 Calls Tryz.prog 158 #[v,.int .i64 n] w (RetLim (limbs (m*2^n)) w):=(Ann hv n hl hn).mono fun _ _ h=>h.lim
end Go.Proofs.YtabjjdicffcolaaGreatDoor.Dg
