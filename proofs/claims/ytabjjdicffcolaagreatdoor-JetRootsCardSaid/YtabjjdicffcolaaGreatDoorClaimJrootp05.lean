/- Words and contracts, part 5. -/
import Derived.Test.YtabjjdicffcolaaGreatDoorClaimJrootp03
import Derived.Test.YtabjjdicffcolaaGreatDoorClaimJrootp04
import Derived.Deep.QuietTactic
import Derived.BigQuiet
set_option maxRecDepth 100000
set_option maxHeartbeats 0
namespace Go.Proofs.YtabjjdicffcolaaGreatDoor
open Go.Lib (hid)
open Go.RowKit
theorem Cq (b:Bool):b=true∨b=false:=by cases b<;>simp
theorem Amq {w:World}{v:Value}{xs:List Nat}(hv:Lim w v xs)(hl:xs.length≤17592186044416) :
 Calls Tryz.prog 90 #[v] w (RetQ (.bool (Ux xs)) w):=by
 obtain ⟨hs,A,c,rfl,hc,hA⟩:=hv;unfold Ux;by_cases h0:xs.length=0
 ·rw [h0];clear hs hA;have HL:=hid h0;clear h0 hl hc;go_enter Tryz.func90,Tryz.ntmps90;go_wp2;go_ret;exact RetQ.mk0 _ _
 ·obtain ⟨b,off,rfl,hb,hcell⟩:=hA (by omega);have hck:=hcell (xs.length-1) (by omega);clear hcell hs hA hb;generalize nth xs (xs.length-1)=x at *;generalize xs.length=m at *;obtain ⟨l,rfl⟩:∃ l,m=l+1:=⟨m-1,by omega⟩;clear h0;rw [Nat.add_sub_cancel] at hck;have e0:(l+1==0)=false:=by simp
  rw [e0,Bool.false_or];clear e0;have e1:(((l+1:Nat):Int)==0)=false:=by simp;omega
  by_cases h1:l+1≤64
  ·have d1:decide (l+1≤64)=true:=by simpa using h1
   rw [d1,Bool.true_and];have e3:(x != 0)=(((x:Nat):Int) != 0):=by
    by_cases hx:x=0
    ·subst hx;rfl
    ·have:((x:Nat):Int)≠0:=by omega
     rw [bne_iff_ne.2 hx,bne_iff_ne.2 this]
   rw [e3];clear e3 d1;go_enter Tryz.func90,Tryz.ntmps90;go_wp2;go_ret;exact RetQ.mk0 _ _
  ·have d1:decide (l+1≤64)=false:=by simpa using h1
   rw [d1,Bool.false_and];clear d1;go_enter Tryz.func90,Tryz.ntmps90;go_wp2;go_ret;exact RetQ.mk0 _ _
theorem Jv {w:World}{v:Value}{xs:List Nat}(hv:Lim w v xs)(hl:xs.length≤17592186044416) :
 Calls Tryz.prog 82 #[v] w (Ail (Aj (val xs)) w):=by
 have hv':=hv;obtain ⟨hs,A,c,rfl,hc,hA⟩:=hv;refine Calls.mono (R:=fun e w'=>e=.returned (.slice A (tl xs) c)∧w=w') ?_ (fun e w' ⟨he,hw⟩=>⟨_,he,hv'.trimmed,hw⟩);clear hv';have HA:=hid hA;clear hA hs;generalize hn:xs.length=n at *;have htl:tl xs=Ip xs n:=by unfold tl;rw [hn]
 rw [htl];clear hn htl;go_enter Tryz.func82,Tryz.ntmps82;go_wp2
 go_loop [0] (fun s=>∃ k:Nat,k≤n∧s=.slice A k c∧Ip xs k=Ip xs n) (fun s=>match s with | .slice _ k _=>k | _=>0)
 case atStart=>exact ⟨n,Nat.le_refl _,rfl,rfl⟩
 case round =>
  obtain ⟨k,hk,rfl,ht⟩:=hrel;have HT:=hid ht;clear ht;cases k with
  | zero =>
    go_wp2;go_ret;exact ⟨by rw [←HT.out];rfl,rfl⟩
  | succ k =>
    obtain ⟨b,off,rfl,hb,hcell⟩:=HA.out (by omega);have hck:=hcell k (by omega);clear hcell;by_cases hz:nth xs k=0
    ·rw [hz] at hck;have HZ:=hid hz;clear hz;go_wp2
     go_round
     case rel=>exact ⟨k,by omega,by go_num,by rw [←HT.out,Ip,if_pos HZ.out]⟩
     case measure=>simp
    ·have hz':((nth xs k:Int)==0)=false:=by simp;omega
     have HZ:=hid hz;clear hz;go_wp2;go_ret;exact ⟨by rw [←HT.out,Ip,if_neg HZ.out];rfl,rfl⟩
theorem Lz {w:World}{v:Value}{n:Nat}(hv:Lim w v (Aj n))(hl:(Aj n).length≤17592186044416) :
 Calls Tryz.prog 112 #[v] w (RetQ (.int .i64 (bl n)) w):=by
 obtain ⟨hs,A,c,rfl,hc,hA⟩:=hv;by_cases h0:n=0
 ·subst h0;rw [Ay];clear hs hA hc hl;have e:((bl 0:Nat):Int)=0:=rfl;rw [e];clear e;go_enter Tryz.func112,Tryz.ntmps112;go_wp2;go_ret;exact RetQ.mk0 _ _
 ·have hp:=Bj n h0;obtain ⟨b,off,rfl,hb,hcell⟩:=hA hp;have hck:=hcell ((Aj n).length-1) (by omega);have hlt:=Bn hs ((Aj n).length-1);have hbl:bl n=64*((Aj n).length-1)+bl (nth (Aj n) ((Aj n).length-1)):=Aau n h0;have hb64:bl (nth (Aj n) ((Aj n).length-1))≤64:=Pf _ hlt;rw [hbl];clear hcell hs hA hb hbl h0;generalize nth (Aj n) ((Aj n).length-1)=x at *;generalize (Aj n).length=m at *;obtain ⟨l,rfl⟩:∃ l,m=l+1:=⟨m-1,by omega⟩;clear hp;rw [Nat.add_sub_cancel] at *;have e1:(((l+1:Nat):Int)==0)=false:=by simp;omega
  go_enter Tryz.func112,Tryz.ntmps112
  go_wp2_with (go_at_call 160;refine (Amo _ _ (by omega)).mono ?_;rintro e w' ⟨rfl,rfl⟩)
  go_ret;exact ⟨Ia (by omega),0,rfl⟩
theorem E7 (n i:Nat):nth (Aj n) i<18446744073709551616:=Bn (F5 n) i
def sgn (b:Bool):Int:=if b then -1 else 1
theorem Abz (b:Bool)(w:World):Calls Tryz.prog 161 #[.bool b] w (RetQ (.int .i64 (sgn b)) w):=by
 cases b
 ·go_enter Tryz.func161,Tryz.ntmps161;go_wp2;go_ret;exact RetQ.mk0 _ _
 ·go_enter Tryz.func161,Tryz.ntmps161;go_wp2;go_ret;exact RetQ.mk0 _ _
theorem Lu {w:World}{v u:Value}{n m:Nat}(hv:Lim w v (Aj n))(hu:Lim w u (Aj m))(hl:(Aj n).length≤17592186044416)(_hl':(Aj m).length≤17592186044416) :
 Calls Tryz.prog 113 #[v,u] w (RetQ (.int .i64 (E4 n m)) w):=by
 obtain ⟨hs,A,c,rfl,hc,hA⟩:=hv;obtain ⟨hs',A',c',rfl,hc',hA'⟩:=hu;by_cases hne:(Aj n).length=(Aj m).length
 ·have ht:=Ws           n m hne;rw [←ht];have HA:=hid hA;have HA':=hid hA';rw [←hne] at HA' hc' ⊢;clear hA hA' hs hs' ht hne;have hx:=E7           n;have hy:=E7           m;generalize Aj    n=xs at *;generalize Aj    m=ys at *;generalize hnx:xs.length=l at *;clear hnx;have HX:=hid hx;have HY:=hid hy;clear hx hy;have en:(((l:Nat):Int) != (l:Int))=false:=by simp
  go_enter Tryz.func113,Tryz.ntmps113;go_wp2
  go_loopw [5] (fun i wr=>∃ k:Nat,k≤l∧i=.int .i64 ((k:Int)-1)∧(∃ q,wr=w.drewN q)∧Ld xs ys k=Ld xs ys l) (fun i _=>(intOf i+1).toNat)
  case atStart=>exact ⟨l,Nat.le_refl _,rfl,⟨0,rfl⟩,rfl⟩
  case round =>
   obtain ⟨k,hk,rfl,⟨q,rfl⟩,ht⟩:=hrel;have HT:=hid ht;clear ht;cases k with
   | zero =>
     go_wp2;go_ret;refine ⟨?_,q,rfl⟩;rw [←HT.out];rfl
   | succ k =>
     obtain ⟨b,off,rfl,hb,hcell⟩:=HA.out (by omega);have hck:=hcell k (by omega);clear hcell;obtain ⟨b',off',rfl,hb',hcell⟩:=HA'.out (by omega);have hck':=hcell k (by omega);have hkl:k<l:=by omega
     have hxk:=HX.out k;have hyk:=HY.out k;clear hcell;have HE:=hid (show Ld xs ys (k+1)=if nth xs k=nth ys k then Ld xs ys k else if nth xs k<nth ys k then -1 else 1 from rfl);generalize nth xs k=x at *;generalize nth ys k=y at *;by_cases he:x=y
     ·subst he;have e1:(((x:Nat):Int) != (x:Int))=false:=by simp
      go_wp2
      go_quiet (fail)
      go_wp2;go_roundw
      case rel=>exact ⟨k,by omega,by go_num,⟨_,rfl⟩,by rw [←HT.out,HE.out];simp⟩
      case measure=>simp [intOf]
     ·have e1:(((x:Nat):Int) != (y:Int))=true:=by simp;omega
      have HN:=hid he;clear he;by_cases hlt:x<y
      ·have e2:decide ((x:Int)<(y:Int))=true:=by simp;omega
       go_wp2
       go_quiet (fail)
       go_wp2
       go_quiet ((go_at_call 161;exact Abp (Abz _ _)))
       go_wp2;go_ret;refine ⟨Ia ?_,by simp only [World.drewN_drewN];exact ⟨_,rfl⟩⟩;rw [←HT.out,HE.out,if_neg HN.out,if_pos hlt];rfl
      ·have e2:decide ((x:Int)<(y:Int))=false:=by simp;omega
       go_wp2
       go_quiet (fail)
       go_wp2
       go_quiet ((go_at_call 161;exact Abp (Abz _ _)))
       go_wp2;go_ret;refine ⟨Ia ?_,by simp only [World.drewN_drewN];exact ⟨_,rfl⟩⟩;rw [←HT.out,HE.out,if_neg HN.out,if_neg hlt];rfl
 ·have en:((((Aj n).length:Nat):Int) != ((Aj m).length:Int))=true:=by simp;omega
  have hcm:E4 n m=sgn (decide ((Aj n).length<(Aj m).length)):=by
   by_cases hlt:(Aj n).length<(Aj m).length
   ·have:=J0 n m hlt;simp [E4,sgn,hlt,this]
   ·have:=J0 m n (by omega);simp only [E4,sgn,hlt];rw [if_neg (by omega),if_neg (by omega)];rfl
  rw [hcm];clear hcm hne hA hA' hs hs';generalize (Aj n).length=l at *;generalize (Aj m).length=l' at *;have ed:decide (((l:Nat):Int)<(l':Int))=decide (l<l'):=by simp
  have HD:=hid ed;clear ed;go_enter Tryz.func113,Tryz.ntmps113
  go_wp2_with (go_at_call 161;refine (Abz _ _).mono ?_;rintro e w' ⟨rfl,q,rfl⟩)
  go_ret;exact ⟨rfl,_,rfl⟩
theorem Adl {w:World}{v:Value}{n:Nat}(hv:Lim w v (Aj n))(hl:(Aj n).length≤17592186044416)(hn:n≠0)(hT:Tab w) :
 Calls Tryz.prog 116 #[v] w (RetQ (.int .i64 (tz n)) w):=by
 obtain ⟨hs,A,c,rfl,hc,hA⟩:=hv;have hp:=Bj n hn;obtain ⟨b,off,rfl,hb,hcell⟩:=hA hp;have ht:=Aez n hn;rw [←ht];have hnz:=Lp n hn;have hx:=E7 n;generalize Aj n=xs at *;generalize hnx:xs.length=l at *;have HC:=hid hcell;have HX:=hid hx;have HNZ:=hid hnz;have HT:=hid hT;clear hcell hx hnz ht hA hs hT;go_enter Tryz.func116,Tryz.ntmps116;go_wp2
 go_loop [7] (fun t=>∃ k:Nat,k≤l∧t=.int .i64 k∧tzL xs=64*k+tzL (xs.drop k)∧∀ j,j<k→nth xs j=0) (fun t=>(l-intOf t).toNat)
 case atStart=>exact ⟨0,Nat.zero_le _,rfl,by simp,fun j hj=>absurd hj (by omega)⟩
 case round =>
  obtain ⟨k,hk,rfl,h1,h2⟩:=hrel;have hkl:k<l:=by
   by_cases e:k<l
   ·exact e
   ·exact absurd (h2 (l-1) (by omega)) HNZ.out
  have hck:=HC.out k hkl;have hxk:=HX.out k;have hd:=Aie xs k (by omega);rw [hd] at h1;have H1:=hid h1;have H2:=hid h2;have HXK:Hid (nth xs k=nth xs k):=rfl;clear h1 h2 hd;by_cases hx0:nth xs k=0
  ·have H1':=H1.out;rw [if_pos hx0] at H1';rw [hx0] at hck;have HD:=hid H1';have H0:=hid hx0;clear H1' hx0 hxk;go_wp2
   go_round
   case rel=>exact ⟨k+1,by omega,by go_num,by rw [HD.out];omega,fun j hj=>by
    by_cases e:j=k
    ·rw [e];exact H0.out
    ·exact H2.out j (by omega)⟩
   case measure=>simp [intOf];omega
  ·have H1':=H1.out;rw [if_neg hx0] at H1';rw [H1'];have htz:=M9 _ 64 hx0 (by omega);generalize nth xs k=x at *;have e1:(((x:Nat):Int) != 0)=true:=by simp;omega
   have HX0:=hid hx0;clear H1' hx0
   go_wp2_with (go_at_call 162;refine (Aph _ hxk HX0.out _ HT.out).mono ?_;rintro e w' ⟨rfl,rfl⟩)
   go_ret;exact ⟨Ia (by omega),0,rfl⟩
end Go.Proofs.YtabjjdicffcolaaGreatDoor
