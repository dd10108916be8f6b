/- Words and contracts, part 6. -/
import Derived.Test.YtmgaloopddiekaaGreatDoorClaimFargsp03
import Derived.Test.YtmgaloopddiekaaGreatDoorClaimFargsp05
import Derived.Deep.QuietTactic
import Derived.BigQuiet
set_option maxRecDepth 100000
set_option maxHeartbeats 0
namespace Go.Proofs.YtmgaloopddiekaaGreatDoor
open Go.Lib (hid)
open Go.RowKit
theorem Ay (b:Bool):b=true∨b=false:=by cases b<;>simp
theorem Ah5 {w:World}{v:Value}{xs:List Nat}(hv:Lim w v xs)(hl:xs.length≤17592186044416) :
 Calls Tryz.prog 88 #[v] w (RetQ (.bool (Ll xs)) w):=by
 obtain ⟨hs,A,c,rfl,hc,hA⟩:=hv;unfold Ll;by_cases h0:xs.length=0
 ·rw [h0];clear hs hA;have HL:=hid h0;clear h0 hl hc;go_enter Tryz.func88,Tryz.ntmps88;go_wp2;go_ret;exact RetQ.mk0 _ _
 ·obtain ⟨b,off,rfl,hb,hcell⟩:=hA (by omega);have hck:=hcell (xs.length-1) (by omega);clear hcell hs hA hb;generalize nth xs (xs.length-1)=x at *;generalize xs.length=m at *;obtain ⟨l,rfl⟩:∃ l,m=l+1:=⟨m-1,by omega⟩;clear h0;rw [Nat.add_sub_cancel] at hck;have e0:(l+1==0)=false:=by simp
  rw [e0,Bool.false_or];clear e0;have e1:(((l+1:Nat):Int)==0)=false:=by simp;omega
  by_cases h1:l+1≤64
  ·have d1:decide (l+1≤64)=true:=by simpa using h1
   rw [d1,Bool.true_and];have e3:(x != 0)=(((x:Nat):Int) != 0):=by
    by_cases hx:x=0
    ·subst hx;rfl
    ·have:((x:Nat):Int)≠0:=by omega
     rw [bne_iff_ne.2 hx,bne_iff_ne.2 this]
   rw [e3];clear e3 d1;go_enter Tryz.func88,Tryz.ntmps88;go_wp2;go_ret;exact RetQ.mk0 _ _
  ·have d1:decide (l+1≤64)=false:=by simpa using h1
   rw [d1,Bool.false_and];clear d1;go_enter Tryz.func88,Tryz.ntmps88;go_wp2;go_ret;exact RetQ.mk0 _ _
theorem G6 {w:World}{v:Value}{xs:List Nat}(hv:Lim w v xs)(hl:xs.length≤17592186044416) :
 Calls Tryz.prog 151 #[v] w (Sa (limbs (val xs)) w):=by
 have hv':=hv;obtain ⟨hs,A,c,rfl,hc,hA⟩:=hv;refine Calls.mono (R:=fun e w'=>e=.returned (.slice A (tl xs) c)∧w=w') ?_ (fun e w' ⟨he,hw⟩=>⟨_,he,hv'.trimmed,hw⟩);clear hv';have HA:=hid hA;clear hA hs;generalize hn:xs.length=n at *;have htl:tl xs=Db xs n:=by unfold tl;rw [hn]
 rw [htl];clear hn htl;go_enter Tryz.func151,Tryz.ntmps151;go_wp2
 go_loop [0] (fun s=>∃ k:Nat,k≤n∧s=.slice A k c∧Db xs k=Db xs n) (fun s=>match s with | .slice _ k _=>k | _=>0)
 case atStart=>exact ⟨n,Nat.le_refl _,rfl,rfl⟩
 case round =>
  obtain ⟨k,hk,rfl,ht⟩:=hrel;have HT:=hid ht;clear ht;cases k with
  | zero =>
    go_wp2;go_ret;exact ⟨by rw [←HT.out];rfl,rfl⟩
  | succ k =>
    obtain ⟨b,off,rfl,hb,hcell⟩:=HA.out (by omega);have hck:=hcell k (by omega);clear hcell;by_cases hz:nth xs k=0
    ·rw [hz] at hck;have HZ:=hid hz;clear hz;go_wp2
     go_round
     case rel=>exact ⟨k,by omega,by go_num,by rw [←HT.out,Db,if_pos HZ.out]⟩
     case measure=>simp
    ·have hz':((nth xs k:Int)==0)=false:=by simp;omega
     have HZ:=hid hz;clear hz;go_wp2;go_ret;exact ⟨by rw [←HT.out,Db,if_neg HZ.out];rfl,rfl⟩
theorem Kr {w:World}{v:Value}{n:Nat}(hv:Lim w v (limbs n))(hl:(limbs n).length≤17592186044416) :
 Calls Tryz.prog 127 #[v] w (RetQ (.int .i64 (bl n)) w):=by
 obtain ⟨hs,A,c,rfl,hc,hA⟩:=hv;by_cases h0:n=0
 ·subst h0;rw [Bd];clear hs hA hc hl;have e:((bl 0:Nat):Int)=0:=rfl;rw [e];clear e;go_enter Tryz.func127,Tryz.ntmps127;go_wp2;go_ret;exact RetQ.mk0 _ _
 ·have hp:=Bq n h0;obtain ⟨b,off,rfl,hb,hcell⟩:=hA hp;have hck:=hcell ((limbs n).length-1) (by omega);have hlt:=nth_lt hs ((limbs n).length-1);have hbl:bl n=64*((limbs n).length-1)+bl (nth (limbs n) ((limbs n).length-1)):=Sd n h0;have hb64:bl (nth (limbs n) ((limbs n).length-1))≤64:=On _ hlt;rw [hbl];clear hcell hs hA hb hbl h0;generalize nth (limbs n) ((limbs n).length-1)=x at *;generalize (limbs n).length=m at *;obtain ⟨l,rfl⟩:∃ l,m=l+1:=⟨m-1,by omega⟩;clear hp;rw [Nat.add_sub_cancel] at *;have e1:(((l+1:Nat):Int)==0)=false:=by simp;omega
  go_enter Tryz.func127,Tryz.ntmps127
  go_wp2_with (go_at_call 163;refine (Ah2 _ _ (by omega)).mono ?_;rintro e w' ⟨rfl,rfl⟩)
  go_ret;exact ⟨H4 (by omega),0,rfl⟩
theorem Dl (n i:Nat):nth (limbs n) i<18446744073709551616:=nth_lt (Cq n) i
def sgn (b:Bool):Int:=if b then -1 else 1
theorem Xo (b:Bool)(w:World):Calls Tryz.prog 164 #[.bool b] w (RetQ (.int .i64 (sgn b)) w):=by
 cases b
 ·go_enter Tryz.func164,Tryz.ntmps164;go_wp2;go_ret;exact RetQ.mk0 _ _
 ·go_enter Tryz.func164,Tryz.ntmps164;go_wp2;go_ret;exact RetQ.mk0 _ _
theorem M5 {w:World}{v u:Value}{n m:Nat}(hv:Lim w v (limbs n))(hu:Lim w u (limbs m))(hl:(limbs n).length≤17592186044416)(_hl':(limbs m).length≤17592186044416) :
 Calls Tryz.prog 128 #[v,u] w (RetQ (.int .i64 (Ea n m)) w):=by
 obtain ⟨hs,A,c,rfl,hc,hA⟩:=hv;obtain ⟨hs',A',c',rfl,hc',hA'⟩:=hu;by_cases hne:(limbs n).length=(limbs m).length
 ·have ht:=Jw           n m hne;rw [←ht];have HA:=hid hA;have HA':=hid hA';rw [←hne] at HA' hc' ⊢;clear hA hA' hs hs' ht hne;have hx:=Dl           n;have hy:=Dl           m;generalize limbs n=xs at *;generalize limbs m=ys at *;generalize hnx:xs.length=l at *;clear hnx;have HX:=hid hx;have HY:=hid hy;clear hx hy;have en:(((l:Nat):Int) != (l:Int))=false:=by simp
  go_enter Tryz.func128,Tryz.ntmps128;go_wp2
  go_loopw [5] (fun i wr=>∃ k:Nat,k≤l∧i=.int .i64 ((k:Int)-1)∧(∃ q,wr=w.drewN q)∧El xs ys k=El xs ys l) (fun i _=>(intOf i+1).toNat)
  case atStart=>exact ⟨l,Nat.le_refl _,rfl,⟨0,rfl⟩,rfl⟩
  case round =>
   obtain ⟨k,hk,rfl,⟨q,rfl⟩,ht⟩:=hrel;have HT:=hid ht;clear ht;cases k with
   | zero =>
     go_wp2;go_ret;refine ⟨?_,q,rfl⟩;rw [←HT.out];rfl
   | succ k =>
     obtain ⟨b,off,rfl,hb,hcell⟩:=HA.out (by omega);have hck:=hcell k (by omega);clear hcell;obtain ⟨b',off',rfl,hb',hcell⟩:=HA'.out (by omega);have hck':=hcell k (by omega);have hkl:k<l:=by omega
     have hxk:=HX.out k;have hyk:=HY.out k;clear hcell;have HE:=hid (show El xs ys (k+1)=if nth xs k=nth ys k then El xs ys k else if nth xs k<nth ys k then -1 else 1 from rfl);generalize nth xs k=x at *;generalize nth ys k=y at *;by_cases he:x=y
     ·subst he;have e1:(((x:Nat):Int) != (x:Int))=false:=by simp
      go_wp2
      go_quiet (fail)
      go_wp2;go_roundw
      case rel=>exact ⟨k,by omega,by go_num,⟨_,rfl⟩,by rw [←HT.out,HE.out];simp⟩
      case measure=>simp [intOf]
     ·have e1:(((x:Nat):Int) != (y:Int))=true:=by simp;omega
      have HN:=hid he;clear he;by_cases hlt:x<y
      ·have e2:decide ((x:Int)<(y:Int))=true:=by simp;omega
       go_wp2
       go_quiet (fail)
       go_wp2
       go_quiet ((go_at_call 164;exact Xe (Xo _ _)))
       go_wp2;go_ret;refine ⟨H4 ?_,by simp only [World.drewN_drewN];exact ⟨_,rfl⟩⟩;rw [←HT.out,HE.out,if_neg HN.out,if_pos hlt];rfl
      ·have e2:decide ((x:Int)<(y:Int))=false:=by simp;omega
       go_wp2
       go_quiet (fail)
       go_wp2
       go_quiet ((go_at_call 164;exact Xe (Xo _ _)))
       go_wp2;go_ret;refine ⟨H4 ?_,by simp only [World.drewN_drewN];exact ⟨_,rfl⟩⟩;rw [←HT.out,HE.out,if_neg HN.out,if_neg hlt];rfl
 ·have en:((((limbs n).length:Nat):Int) != ((limbs m).length:Int))=true:=by simp;omega
  have hcm:Ea n m=sgn (decide ((limbs n).length<(limbs m).length)):=by
   by_cases hlt:(limbs n).length<(limbs m).length
   ·have:=E8 n m hlt;simp [Ea,sgn,hlt,this]
   ·have:=E8 m n (by omega);simp only [Ea,sgn,hlt];rw [if_neg (by omega),if_neg (by omega)];rfl
  rw [hcm];clear hcm hne hA hA' hs hs';generalize (limbs n).length=l at *;generalize (limbs m).length=l' at *;have ed:decide (((l:Nat):Int)<(l':Int))=decide (l<l'):=by simp
  have HD:=hid ed;clear ed;go_enter Tryz.func128,Tryz.ntmps128
  go_wp2_with (go_at_call 164;refine (Xo _ _).mono ?_;rintro e w' ⟨rfl,q,rfl⟩)
  go_ret;exact ⟨rfl,_,rfl⟩
theorem Zc {w:World}{v:Value}{n:Nat}(hv:Lim w v (limbs n))(hl:(limbs n).length≤17592186044416)(hn:n≠0)(hT:Tab w) :
 Calls Tryz.prog 138 #[v] w (RetQ (.int .i64 (tz n)) w):=by
 obtain ⟨hs,A,c,rfl,hc,hA⟩:=hv;have hp:=Bq n hn;obtain ⟨b,off,rfl,hb,hcell⟩:=hA hp;have ht:=Aaw n hn;rw [←ht];have hnz:=Il n hn;have hx:=Dl n;generalize limbs n=xs at *;generalize hnx:xs.length=l at *;have HC:=hid hcell;have HX:=hid hx;have HNZ:=hid hnz;have HT:=hid hT;clear hcell hx hnz ht hA hs hT;go_enter Tryz.func138,Tryz.ntmps138;go_wp2
 go_loop [7] (fun t=>∃ k:Nat,k≤l∧t=.int .i64 k∧tzL xs=64*k+tzL (xs.drop k)∧∀ j,j<k→nth xs j=0) (fun t=>(l-intOf t).toNat)
 case atStart=>exact ⟨0,Nat.zero_le _,rfl,by simp,fun j hj=>absurd hj (by omega)⟩
 case round =>
  obtain ⟨k,hk,rfl,h1,h2⟩:=hrel;have hkl:k<l:=by
   by_cases e:k<l
   ·exact e
   ·exact absurd (h2 (l-1) (by omega)) HNZ.out
  have hck:=HC.out k hkl;have hxk:=HX.out k;have hd:=Aep xs k (by omega);rw [hd] at h1;have H1:=hid h1;have H2:=hid h2;have HXK:Hid (nth xs k=nth xs k):=rfl;clear h1 h2 hd;by_cases hx0:nth xs k=0
  ·have H1':=H1.out;rw [if_pos hx0] at H1';rw [hx0] at hck;have HD:=hid H1';have H0:=hid hx0;clear H1' hx0 hxk;go_wp2
   go_round
   case rel=>exact ⟨k+1,by omega,by go_num,by rw [HD.out];omega,fun j hj=>by
    by_cases e:j=k
    ·rw [e];exact H0.out
    ·exact H2.out j (by omega)⟩
   case measure=>simp [intOf];omega
  ·have H1':=H1.out;rw [if_neg hx0] at H1';rw [H1'];have htz:=Ahc _ 64 hx0 (by omega);generalize nth xs k=x at *;have e1:(((x:Nat):Int) != 0)=true:=by simp;omega
   have HX0:=hid hx0;clear H1' hx0
   go_wp2_with (go_at_call 168;refine (Aj5 _ hxk HX0.out _ HT.out).mono ?_;rintro e w' ⟨rfl,rfl⟩)
   go_ret;exact ⟨H4 (by omega),0,rfl⟩
theorem Agd {w:World}{v:Value}{xs:List Nat}(hv:Lim w v xs)(hl:xs.length≤17592186044416) :
 Calls Tryz.prog 26 #[v] w (RetQ (.bool (Ll xs)) w):=by
 obtain ⟨hs,A,c,rfl,hc,hA⟩:=hv;unfold Ll;by_cases h0:xs.length=0
 ·rw [h0];clear hs hA;have HL:=hid h0;clear h0 hl hc;go_enter Tryz.func26,Tryz.ntmps26;go_wp2_with fail;go_ret;exact RetQ.mk0 _ _
 ·obtain ⟨b,off,rfl,hb,hcell⟩:=hA (by omega);have hck:=hcell (xs.length-1) (by omega);clear hcell hs hA hb;generalize nth xs (xs.length-1)=x at *;generalize xs.length=m at *;obtain ⟨l,rfl⟩:∃ l,m=l+1:=⟨m-1,by omega⟩;clear h0;rw [Nat.add_sub_cancel] at hck;have e0:(l+1==0)=false:=by simp
  rw [e0,Bool.false_or];clear e0;have e1:(((l+1:Nat):Int)==0)=false:=by simp;omega
  by_cases h1:l+1≤64
  ·have d1:decide (l+1≤64)=true:=by simpa using h1
   rw [d1,Bool.true_and];have e3:(x != 0)=(((x:Nat):Int) != 0):=by
    by_cases hx:x=0
    ·subst hx;rfl
    ·have:((x:Nat):Int)≠0:=by omega
     rw [bne_iff_ne.2 hx,bne_iff_ne.2 this]
   rw [e3];clear e3 d1;go_enter Tryz.func26,Tryz.ntmps26;go_wp2_with fail;go_ret;exact RetQ.mk0 _ _
  ·have d1:decide (l+1≤64)=false:=by simpa using h1
   rw [d1,Bool.false_and];clear d1;go_enter Tryz.func26,Tryz.ntmps26;go_wp2_with fail;go_ret;exact RetQ.mk0 _ _
namespace Dg
theorem Ael {w:World}{A:Option Addr}{n c:Nat}{xs:List Nat}(hv:Lim w (.slice A n c) xs)(hl:xs.length≤17592186044416) :
 Calls Tryz.prog 57 #[.slice A n c] w (fun e w'=>e=.returned (.slice A (tl xs) c)∧w=w'):=by
 obtain ⟨hs,A',c',he,hc,hA⟩:=hv;injection he with h1 h2 h3
 subst h1;subst h3;subst h2;have HA:=hid hA;clear hA hs;generalize hn:xs.length=n at *;have htl:tl xs=Db xs n:=by unfold tl;rw [hn]
 rw [htl];clear hn htl;go_enter Tryz.func57,Tryz.ntmps57;go_wp2_with fail
 go_loop [3] (fun s=>∃ k:Nat,k≤n∧s=.int .i64 k∧Db xs k=Db xs n) (fun s=>(intOf s).toNat)
 case atStart=>exact ⟨n,Nat.le_refl _,rfl,rfl⟩
 case round =>
  obtain ⟨k,hk,rfl,ht⟩:=hrel;have HT:=hid ht;clear ht;cases k with
  | zero =>
    go_wp2_with fail;go_ret;exact ⟨by rw [←HT.out];rfl,rfl⟩
  | succ k =>
    obtain ⟨b,off,rfl,hb,hcell⟩:=HA.out (by omega);have hck:=hcell k (by omega);clear hcell;by_cases hz:nth xs k=0
    ·rw [hz] at hck;have HZ:=hid hz;clear hz;go_wp2_with fail
     go_round
     case rel=>exact ⟨k,by omega,by go_num,by rw [←HT.out,Db,if_pos HZ.out]⟩
     case measure=>simp [intOf]
    ·have hz':((nth xs k:Int)==0)=false:=by simp;omega
     have HZ:=hid hz;clear hz;go_wp2_with fail;go_ret;exact ⟨by rw [←HT.out,Db,if_neg HZ.out];rfl,rfl⟩
theorem G6 {w:World}{v:Value}{xs:List Nat}(hv:Lim w v xs)(hl:xs.length≤17592186044416) :
 Calls Tryz.prog 57 #[v] w (Sa (limbs (val xs)) w):=by
 have hv':=hv;obtain ⟨hs,A,c,rfl,hc,hA⟩:=hv;exact Calls.mono (Ael hv' hl) (fun e w' ⟨he,hw⟩=>⟨_,he,hv'.trimmed,hw⟩)
theorem Aio {w:World}{base:Nat}{v:Value}{xs:List Nat}(ho:Own w base v xs)(hs:Small xs)(hl:xs.length≤17592186044416) :
 Calls Tryz.prog 57 #[v] w (fun e w'=>∃ v',e=.returned v'∧Lim w v' (limbs (val xs))∧Xw base v'∧w=w'):=by
 have hv:=ho.lim hs;have hv':=hv;obtain ⟨-,A,c,rfl,-,-⟩:=hv;exact Calls.mono (Ael hv' hl) (fun e w' ⟨he,hw⟩=>⟨_,he,hv'.trimmed,ho.fresh,hw⟩)
theorem Ae2 {x:Nat}(h:x≠0):bl x=bl (x/2)+1:=by
 by_cases h1:x/2=0
 ·have:x=1:=by omega
  subst this;rfl
 ·obtain ⟨q,hq⟩:∃ q,bl (x/2)=q+1:=⟨bl (x/2)-1,by have:=Id _ h1;omega⟩;have a:=D0 _ h1;have b:=Cm (x/2);rw [hq] at a b ⊢;rw [Nat.add_sub_cancel] at a;exact Tm x (q+1) (by rw [Nat.pow_succ];omega) (by rw [Nat.pow_succ];omega)
theorem bits_c {w:World}{v:Value}{n:Nat}(hv:Lim w v (limbs n))(hl:(limbs n).length≤17592186044416) :
 Calls Tryz.prog 28 #[v] w (RetQ (.int .i64 (bl n)) w):=by
 obtain ⟨hs,A,c,rfl,hc,hA⟩:=hv;by_cases h0:n=0
 ·subst h0;rw [Bd];clear hs hA hc hl;have e:((bl 0:Nat):Int)=0:=rfl;rw [e];clear e;go_enter Tryz.func28,Tryz.ntmps28;go_wp2_with fail;go_ret;exact RetQ.mk0 _ _
 ·have hp:=Bq n h0;obtain ⟨b,off,rfl,hb,hcell⟩:=hA hp;have hck:=hcell ((limbs n).length-1) (by omega);have hlt:=nth_lt hs ((limbs n).length-1);have hbl:bl n=16*((limbs n).length-1)+bl (nth (limbs n) ((limbs n).length-1)):=Sd n h0;have hb16:bl (nth (limbs n) ((limbs n).length-1))≤16:=N3 _ 16 hlt;rw [hbl];clear hcell hs hA hb hbl h0;generalize nth (limbs n) ((limbs n).length-1)=x at *;generalize (limbs n).length=m at *;obtain ⟨l,rfl⟩:∃ l,m=l+1:=⟨m-1,by omega⟩;clear hp;rw [Nat.add_sub_cancel] at *;have e1:(((l+1:Nat):Int)==0)=false:=by simp;omega
  go_enter Tryz.func28,Tryz.ntmps28;go_wp2_with fail
  go_loop [3,4] (fun s t=>∃ i y:Nat,s=.int .i64 i∧t=.int .u32 y∧y<65536∧i+bl y=16*l+bl x) (fun _ t=>(intOf t).toNat)
  case atStart=>exact ⟨16*l,x,by go_num,rfl,hlt,rfl⟩
  case round =>
   obtain ⟨i,y,rfl,rfl,hy,ht⟩:=hrel;have HT:=hid ht;clear ht;by_cases hz:y=0
   ·subst hz;have HT':=HT.out;rw [Oq] at HT';go_wp2_with fail;go_ret;exact ⟨H4 (by omega),0,rfl⟩
   ·have hz':decide ((0:Int)<(y:Int))=true:=by simp;omega
    have hz2:decide (0<y)=true:=by simp;omega
    have hz3:0<y:=by omega
    have HB:=hid (Ae2 hz);have HZ:=hid hz;have hi:i<281474976710657:=by have:=HT.out;omega
    clear hz;go_wp2_with fail
    go_round
    case rel=>exact ⟨i+1,y/2,by go_num,by go_num,by omega,by have:=HT.out;have:=HB.out;omega⟩
    case measure=>simp [intOf];omega
theorem Dl (n i:Nat):nth (limbs n) i<65536:=nth_lt (Cq n) i
theorem cmp_c {w:World}{v u:Value}{n m:Nat}(hv:Lim w v (limbs n))(hu:Lim w u (limbs m))(hl:(limbs n).length≤17592186044416)(_hl:(limbs m).length≤17592186044416) :
 Calls Tryz.prog 30 #[v,u] w (RetQ (.int .i64 (Ea n m)) w):=by
 obtain ⟨hs,A,c,rfl,hc,hA⟩:=hv;obtain ⟨hs',A',c',rfl,hc',hA'⟩:=hu;by_cases hne:(limbs n).length=(limbs m).length
 ·have ht:=Jw           n m hne;rw [←ht];have HA:=hid hA;have HA':=hid hA';rw [←hne] at HA' hc' ⊢;clear hA hA' hs hs' ht hne;have hx:=Dl           n;have hy:=Dl           m;generalize limbs n=xs at *;generalize limbs m=ys at *;generalize hnx:xs.length=l at *;clear hnx;have HX:=hid hx;have HY:=hid hy;clear hx hy;have en:(((l:Nat):Int) != (l:Int))=false:=by simp
  go_enter Tryz.func30,Tryz.ntmps30;go_wp2_with fail
  go_loopw [5] (fun i wr=>∃ k:Nat,k≤l∧i=.int .i64 ((k:Int)-1)∧(∃ q,wr=w.drewN q)∧El xs ys k=El xs ys l) (fun i _=>(intOf i+1).toNat)
  case atStart=>exact ⟨l,Nat.le_refl _,rfl,⟨0,rfl⟩,rfl⟩
  case round =>
   obtain ⟨k,hk,rfl,⟨q,rfl⟩,ht⟩:=hrel;have HT:=hid ht;clear ht;cases k with
   | zero =>
     go_wp2_with fail;go_ret;refine ⟨?_,q,rfl⟩;rw [←HT.out];rfl
   | succ k =>
     obtain ⟨b,off,rfl,hb,hcell⟩:=HA.out (by omega);have hck:=hcell k (by omega);clear hcell;obtain ⟨b',off',rfl,hb',hcell⟩:=HA'.out (by omega);have hck':=hcell k (by omega);have hkl:k<l:=by omega
     have hxk:=HX.out k;have hyk:=HY.out k;clear hcell;have HE:=hid (show El xs ys (k+1)=if nth xs k=nth ys k then El xs ys k else if nth xs k<nth ys k then -1 else 1 from rfl);generalize nth xs k=x at *;generalize nth ys k=y at *;by_cases he:x=y
     ·subst he;have e1:decide (x<x)=false:=by simp
      go_wp2_with fail
      go_quiet (fail)
      go_wp2_with fail
      go_quiet (fail)
      go_wp2_with fail;go_roundw
      case rel=>exact ⟨k,by omega,by go_num,⟨_,rfl⟩,by rw [←HT.out,HE.out];simp⟩
      case measure=>simp [intOf]
     ·have HN:=hid he;by_cases hlt:x<y
      ·clear he;have e2:decide (x<y)=true:=by simp;omega
       go_wp2_with fail
       go_quiet (fail)
       go_wp2_with fail;go_ret;refine ⟨H4 ?_,by simp only [World.drewN_drewN];exact ⟨_,rfl⟩⟩;rw [←HT.out,HE.out,if_neg HN.out,if_pos hlt]
      ·have e2:decide (x<y)=false:=by simp;omega
       have e3:decide (y<x)=true:=by simp;omega
       clear he;go_wp2_with fail
       go_quiet (fail)
       go_wp2_with fail
       go_quiet (fail)
       go_wp2_with fail;go_ret;refine ⟨H4 ?_,by simp only [World.drewN_drewN];exact ⟨_,rfl⟩⟩;rw [←HT.out,HE.out,if_neg HN.out,if_neg hlt]
 ·have en:((((limbs n).length:Nat):Int) != ((limbs m).length:Int))=true:=by simp;omega
  have hcm:Ea n m=if (limbs n).length<(limbs m).length then -1 else 1:=by
   by_cases hlt:(limbs n).length<(limbs m).length
   ·have:=E8 n m hlt;simp [Ea,hlt,this]
   ·have:=E8 m n (by omega);simp only [Ea,hlt];rw [if_neg (by omega),if_neg (by omega)];rfl
  rw [hcm];clear hcm hne hA hA' hs hs';generalize (limbs n).length=l at *;generalize (limbs m).length=l' at *;by_cases hlt:l<l'
  ·rw [if_pos hlt];have ed:decide (l<l')=true:=by simp;omega
   go_enter Tryz.func30,Tryz.ntmps30;go_wp2_with fail;go_ret;exact ⟨rfl,0,rfl⟩
  ·rw [if_neg hlt];have ed:decide (l<l')=false:=by simp;omega
   go_enter Tryz.func30,Tryz.ntmps30;go_wp2_with fail;go_ret;exact ⟨rfl,0,rfl⟩
end Dg
end Go.Proofs.YtmgaloopddiekaaGreatDoor
