/- Words and contracts, part 6. -/
import Derived.Test.YtabjjdicffcolaaGreatDoorClaimJfrontp03
import Derived.Test.YtabjjdicffcolaaGreatDoorClaimJfrontp04
import Derived.Test.YtabjjdicffcolaaGreatDoorClaimJfrontp05
import Derived.Deep.QuietTactic
import Derived.BigQuiet
import Derived.Deep.RegionHeld3
import Derived.StillTailTactics
import Derived.Deep.DeepCutAuto
import Derived.Deep.CutBlock
set_option maxRecDepth 100000
set_option maxHeartbeats 0
namespace Go.Proofs.YtabjjdicffcolaaGreatDoor
open Go.RowKit
variable {post pre wl xs ys:List Nat} {N base cap g m n x:Nat} {u v:Value} {a w:World}
theorem Cb (b:Bool):b=true\/b=false:=by cases b<;>simp
theorem pQ (hv:Lim w v xs)(hl:xs.length<=17592186044416) :
 Calls Tryz.prog 90 #[v] w (RetQ (.bool (Wk xs)) w):=by
 obtain ⟨hs,A,c,rfl,hc,hA⟩:=hv;unfold Wk;by_cases h0:xs.length=0
 ·rw [h0];clear hs hA;have HL:=Ad h0;clear h0 hl hc;go_enter Tryz.func90,Tryz.ntmps90;go_wp2;go_ret;exact RetQ.mk0 _ _
 ·obtain ⟨b,off,rfl,hb,hcell⟩:=hA (by omega);have hck:=hcell (xs.length-1) (by omega);clear hcell hs hA hb;generalize Ba xs (xs.length-1)=x at *;generalize xs.length=m at *;obtain ⟨l,rfl⟩:∃ l,m=l+1:=⟨m-1,by omega⟩;clear h0;rw [Nat.add_sub_cancel] at hck;have e0:(l+1==0)=false:=by simp
  rw [e0,Bool.false_or];clear e0;have e1:(((l+1:Nat):Int)==0)=false:=by simp;omega
  by_cases h1:l+1<=64
  ·have d1:decide (l+1≤64)=true:=by simpa using h1
   rw [d1,Bool.true_and];have e3:(x != 0)=(((x:Nat):Int) != 0):=by
    by_cases hx:x=0
    ·subst hx;rfl
    ·have:((x:Nat):Int)≠0:=by omega
     rw [bne_iff_ne.2 hx,bne_iff_ne.2 this]
   rw [e3];clear e3 d1;go_enter Tryz.func90,Tryz.ntmps90;go_wp2;go_ret;exact RetQ.mk0 _ _
  ·have d1:decide (l+1≤64)=false:=by simpa using h1
   rw [d1,Bool.false_and];clear d1;go_enter Tryz.func90,Tryz.ntmps90;go_wp2;go_ret;exact RetQ.mk0 _ _
theorem La (hv:Lim w v xs)(hl:xs.length<=17592186044416) :
 Calls Tryz.prog 82 #[v] w (lH (Al (Bq xs)) w):=by
 have hv':=hv;obtain ⟨hs,A,c,rfl,hc,hA⟩:=hv;refine Calls.mono (R:=λe w'=>e=.returned (.slice A (tl xs) c)/\w=w') ?_ (λe w' ⟨he,hw⟩=>⟨_,he,hv'.trimmed,hw⟩);clear hv';have HA:=Ad hA;clear hA hs;generalize hn:xs.length=n at *;have htl:tl xs=Ju xs n:=by unfold tl;rw [hn]
 rw [htl];clear hn htl;go_enter Tryz.func82,Tryz.ntmps82;go_wp2
 go_loop [0] (λs=>∃ k:Nat,k<=n/\s=.slice A k c/\Ju xs k=Ju xs n) (λs=>match s with | .slice _ k _=>k | _=>0)
 case atStart=>exact ⟨n,Aq _,rfl,rfl⟩
 case round =>
  obtain ⟨k,hk,rfl,ht⟩:=hrel;have HT:=Ad ht;clear ht;cases k with
  | zero =>
    go_wp2;go_ret;exact ⟨by rw [<-HT.o];rfl,rfl⟩
  | succ k =>
    obtain ⟨b,off,rfl,hb,hcell⟩:=HA.o (by omega);have hck:=hcell k (by omega);clear hcell;by_cases hz:Ba xs k=0
    ·rw [hz] at hck;have HZ:=Ad hz;clear hz;go_wp2
     go_round
     case rel=>exact ⟨k,by omega,by go_num,by rw [<-HT.o,Ju,Ak HZ.o]⟩
     case measure=>simp
    ·have hz':((Ba xs k:Int)==0)=false:=by simp;omega
     have HZ:=Ad hz;clear hz;go_wp2;go_ret;exact ⟨by rw [<-HT.o,Ju,Af HZ.o];rfl,rfl⟩
theorem Nk (hv:Lim w v (Al n))(hl:(Al n).length<=17592186044416) :
 Calls Tryz.prog 112 #[v] w (RetQ (.int .i64 (bl n)) w):=by
 obtain ⟨hs,A,c,rfl,hc,hA⟩:=hv;by_cases h0:n=0
 ·subst h0;rw [Be];clear hs hA hc hl;have e:((bl 0:Nat):Int)=0:=rfl;rw [e];clear e;go_enter Tryz.func112,Tryz.ntmps112;go_wp2;go_ret;exact RetQ.mk0 _ _
 ·have hp:=Br n h0;obtain ⟨b,off,rfl,hb,hcell⟩:=hA hp;have hck:=hcell ((Al n).length-1) (by omega);have hlt:=Cc hs ((Al n).length-1);have hbl:bl n=64*((Al n).length-1)+bl (Ba (Al n) ((Al n).length-1)):=cE n h0;have hb64:bl (Ba (Al n) ((Al n).length-1))≤64:=Qx _ hlt;rw [hbl];clear hcell hs hA hb hbl h0;generalize Ba (Al n) ((Al n).length-1)=x at *;generalize (Al n).length=m at *;obtain ⟨l,rfl⟩:∃ l,m=l+1:=⟨m-1,by omega⟩;clear hp;rw [Nat.add_sub_cancel] at *;have e1:(((l+1:Nat):Int)==0)=false:=by simp;omega
  go_enter Tryz.func112,Tryz.ntmps112
  go_wp2_with (go_at_call 160;refine (pO _ _ (by omega)).mono ?_;rintro e w' ⟨rfl,rfl⟩)
  go_ret;exact ⟨Jf (by omega),0,rfl⟩
theorem Fy (n i:Nat):Ba (Al n) i<18446744073709551616:=Cc (Hv n) i
def sc (b:Bool):Int:=if b then -1 else 1
theorem dN (b:Bool)(w:World):Calls Tryz.prog 161 #[.bool b] w (RetQ (.int .i64 (sc b)) w):=by
 cases b
 ·go_enter Tryz.func161,Tryz.ntmps161;go_wp2;go_ret;exact RetQ.mk0 _ _
 ·go_enter Tryz.func161,Tryz.ntmps161;go_wp2;go_ret;exact RetQ.mk0 _ _
theorem Nc (hv:Lim w v (Al n))(hu:Lim w u (Al m))(hl:(Al n).length<=17592186044416)(_hl':(Al m).length<=17592186044416) :
 Calls Tryz.prog 113 #[v,u] w (RetQ (.int .i64 (Fx n m)) w):=by
 obtain ⟨hs,A,c,rfl,hc,hA⟩:=hv;obtain ⟨hs',A',c',rfl,hc',hA'⟩:=hu;by_cases hne:(Al n).length=(Al m).length
 ·have ht:=Yc           n m hne;rw [←ht];have HA:=Ad  hA;have HA':=Ad  hA';rw [←hne] at HA' hc' ⊢;clear hA hA' hs hs' ht hne;have hx:=Fy           n;have hy:=Fy           m;generalize Al    n=xs at *;generalize Al    m=ys at *;generalize hnx:xs.length=l at *;clear hnx;have HX:=Ad  hx;have HY:=Ad  hy;clear hx hy;have en:(((l:Nat):Int) != (l:Int))=false:=by simp
  go_enter Tryz.func113,Tryz.ntmps113;go_wp2
  go_loopw [5] (λi wr=>∃ k:Nat,k<=l/\i=.int .i64 ((k:Int)-1)/\(∃ q,wr=w.drewN q)/\Mx xs ys k=Mx xs ys l) (λi _=>(intOf i+1).toNat)
  case atStart=>exact ⟨l,Aq _,rfl,⟨0,rfl⟩,rfl⟩
  case round =>
   obtain ⟨k,hk,rfl,⟨q,rfl⟩,ht⟩:=hrel;have HT:=Ad ht;clear ht;cases k with
   | zero =>
     go_wp2;go_ret;refine ⟨?_,q,rfl⟩;rw [<-HT.o];rfl
   | succ k =>
     obtain ⟨b,off,rfl,hb,hcell⟩:=HA.o (by omega);have hck:=hcell k (by omega);clear hcell;obtain ⟨b',off',rfl,hb',hcell⟩:=HA'.o (by omega);have hck':=hcell k (by omega);have hkl:k<l:=by omega
     have hxk:=HX.o k;have hyk:=HY.o k;clear hcell;have HE:=Ad (show Mx xs ys (k+1)=if Ba xs k=Ba ys k then Mx xs ys k else if Ba xs k<Ba ys k then -1 else 1 from rfl);generalize Ba xs k=x at *;generalize Ba ys k=y at *;by_cases he:x=y
     ·subst he;have e1:(((x:Nat):Int) != (x:Int))=false:=by simp
      go_wp2
      go_quiet (fail)
      go_wp2;go_roundw
      case rel=>exact ⟨k,by omega,by go_num,⟨_,rfl⟩,by rw [<-HT.o,HE.o];simp⟩
      case measure=>simp [intOf]
     ·have e1:(((x:Nat):Int) != (y:Int))=true:=by simp;omega
      have HN:=Ad he;clear he;by_cases hlt:x<y
      ·have e2:decide ((x:Int)<(y:Int))=true:=by simp;omega
       go_wp2
       go_quiet (fail)
       go_wp2
       go_quiet ((go_at_call 161;exact dB (dN _ _)))
       go_wp2;go_ret;refine ⟨Jf ?_,by simp only [World.drewN_drewN];exact ⟨_,rfl⟩⟩;rw [<-HT.o,HE.o,Af HN.o,Ak hlt];rfl
      ·have e2:decide ((x:Int)<(y:Int))=false:=by simp;omega
       go_wp2
       go_quiet (fail)
       go_wp2
       go_quiet ((go_at_call 161;exact dB (dN _ _)))
       go_wp2;go_ret;refine ⟨Jf ?_,by simp only [World.drewN_drewN];exact ⟨_,rfl⟩⟩;rw [<-HT.o,HE.o,Af HN.o,Af hlt];rfl
 ·have en:((((Al n).length:Nat):Int) != ((Al m).length:Int))=true:=by simp;omega
  have hcm:Fx n m=sc (decide ((Al n).length<(Al m).length)):=by
   by_cases hlt:(Al n).length<(Al m).length
   ·have:=Lf n m hlt;simp [Fx,sc,hlt,this]
   ·have:=Lf m n (by omega);simp only [Fx,sc,hlt];rw [Af (by omega),Af (by omega)];rfl
  rw [hcm];clear hcm hne hA hA' hs hs';generalize (Al n).length=l at *;generalize (Al m).length=l' at *;have ed:decide (((l:Nat):Int)<(l':Int))=decide (l<l'):=by simp
  have HD:=Ad ed;clear ed;go_enter Tryz.func113,Tryz.ntmps113
  go_wp2_with (go_at_call 161;refine (dN _ _).mono ?_;rintro e w' ⟨rfl,q,rfl⟩)
  go_ret;exact ⟨rfl,_,rfl⟩
theorem fL (hv:Lim w v (Al n))(hl:(Al n).length<=17592186044416)(hn:n≠0)(hT:Tab w) :
 Calls Tryz.prog 116 #[v] w (RetQ (.int .i64 (tz n)) w):=by
 obtain ⟨hs,A,c,rfl,hc,hA⟩:=hv;have hp:=Br n hn;obtain ⟨b,off,rfl,hb,hcell⟩:=hA hp;have ht:=ik n hn;rw [<-ht];have hnz:=M7 n hn;have hx:=Fy n;generalize Al n=xs at *;generalize hnx:xs.length=l at *;have HC:=Ad hcell;have HX:=Ad hx;have HNZ:=Ad hnz;have HT:=Ad hT;clear hcell hx hnz ht hA hs hT;go_enter Tryz.func116,Tryz.ntmps116;go_wp2
 go_loop [7] (λt=>∃ k:Nat,k<=l/\t=.int .i64 k/\oS xs=64*k+oS (xs.drop k)/\∀ j,j<k->Ba xs j=0) (λt=>(l-intOf t).toNat)
 case atStart=>exact ⟨0,Nat.zero_le _,rfl,by simp,λj hj=>absurd hj (by omega)⟩
 case round =>
  obtain ⟨k,hk,rfl,h1,h2⟩:=hrel;have hkl:k<l:=by
   by_cases e:k<l
   ·exact e
   ·exact absurd (h2 (l-1) (by omega)) HNZ.o
  have hck:=HC.o k hkl;have hxk:=HX.o k;have hd:=lv xs k (by omega);rw [hd] at h1;have H1:=Ad h1;have H2:=Ad h2;have HXK:Hid (Ba xs k=Ba xs k):=rfl;clear h1 h2 hd;by_cases hx0:Ba xs k=0
  ·have H1':=H1.out;rw [Ak hx0] at H1';rw [hx0] at hck;have HD:=Ad H1';have H0:=Ad hx0;clear H1' hx0 hxk;go_wp2
   go_round
   case rel=>exact ⟨k+1,by omega,by go_num,by rw [HD.o];omega,λj hj=>by
    by_cases e:j=k
    ·rw [e];exact H0.o
    ·exact H2.o j (by omega)⟩
   case measure=>simp [intOf];omega
  ·have H1':=H1.out;rw [Af hx0] at H1';rw [H1'];have htz:=O0 _ 64 hx0 (by omega);generalize Ba xs k=x at *;have e1:(((x:Nat):Int) != 0)=true:=by simp;omega
   have HX0:=Ad hx0;clear H1' hx0
   go_wp2_with (go_at_call 162;refine (sF _ hxk HX0.o _ HT.o).mono ?_;rintro e w' ⟨rfl,rfl⟩)
   go_ret;exact ⟨Jf (by omega),0,rfl⟩
theorem O9 (hv:Lim w v xs)(hl:xs.length<=1000000) :
 Calls Tryz.prog 81 #[v] w λe w'=>∃ v',e=.returned v'/\Own w' w.heap.size v' xs/\Kept w w':=by
 obtain ⟨hs,A,c,rfl,hc,hA⟩:=hv;cases A with
 | none =>
   have h0:xs.length=0:=by
    by_cases h:0<xs.length
    ·obtain ⟨b,off,h1,_⟩:=hA h;cases h1
    ·omega
   obtain rfl:xs=[]:=G9 h0;clear hA hl hc h0 hs;refine Calls.mono (R:=λe w'=>e=.returned (.slice none 0 0)/\w=w') ?_ (λe w' ⟨he,hw⟩=>by subst hw;exact ⟨_,he,World.ownsRow_nil _ _ _ _,Below.refl _ _⟩);have e1:=λ(w:World)=>Lib.run_eql_slice_nil (P:=Tryz.prog) w 26 55 none 0 c 0 0 Tryz.underlying26
   go_enter Tryz.func81,Tryz.ntmps81;go_wp2_with fail;go_ret;exact ⟨rfl,rfl⟩
 | some a =>
   have e1:=λ(w:World)=>Lib.run_eql_slice_nil (P:=Tryz.prog) w 26 55 (some a) xs.length c 0 0 Tryz.underlying26
   go_enter Tryz.func81,Tryz.ntmps81;obtain ⟨i0,hi,hz0,hz1,hz2⟩:=info_parts Sy;have hown:(w.alloc (.cells #[] 55)).ownsRow w.heap.size 55 1 (.slice (some ⟨w.heap.size,0,none⟩) 0 0) 0 []:=World.ownsRow_made w #[] 0 (Aq _) (by decide) rfl;have hlim:Lim (w.alloc (.cells #[] 55)) (.slice (some a) xs.length c) xs:=Lim.kept ⟨hs,some a,c,rfl,hc,hA⟩ ((Below.refl _ _).alloc (Aq _) _);have H1:=Ad hown;have H2:=Ad hlim;clear hown hlim hA hs
   go_wp2_with (at_builtin;refine wpList_append_own _ rfl _ _ 26 rfl w.heap.size 55 i0 (.int .u64 0) 1 8 Tryz.underlying26 hi hz0 hz1 hz2 rfl (by decide) _ 0 [] rfl H1.o a xs.length c (xs.map U) rfl (by simp) H2.o.news (gD xs) (by unfold maxLen;omega) (by omega) (by simp) ?_)
   intro v' w1 hown1 hgrow _;have hk:Kept w w1:=Below.grown ((Below.refl _ _).alloc (Aq _) _) hgrow (by simp) (by intro k hk;have:w.heap.size=k:=Option.some.inj hk;omega);have HO:Hid (Own w1 w.heap.size v' xs):=Om (xs:=[]) hown1;have HK:=Ad hk;clear hown1 hgrow hk;go_wp2;go_ret;exact ⟨_,rfl,HO.o,HK.o⟩
theorem Yb (hv:Lim w v xs)(hl:xs.length<=1000000) :
 Calls Tryz.prog 81 #[v] w (RetLim xs w) :=
 (O9 hv hl).mono λ_ _ ⟨v',he,ho,hk⟩=>⟨v',he,ho.lim hv.1,hk⟩
theorem Md (xs:List Nat)(h:Small xs):(Al (Bq xs)).length<=xs.length:=by
 rw [<-Zg xs h,List.length_take];exact Nat.min_le_right _ _
theorem nu (hv:Lim w v xs)(hl:xs.length<=1000000) :
 Calls Tryz.prog 42 #[v] w (RetLim (Al (Bq xs)) w):=by
 have hb:=Md xs hv.1;have HV:=Ad hv;clear hv;go_enter Tryz.func42,Tryz.ntmps42
 go_wp2_with (first
  | (go_at_call 82;refine (La HV.o (by omega)).mono ?_;rintro e w' ⟨v',rfl,hv',rfl⟩;have HV':=Ad hv';clear hv')
  | (go_at_call 81;refine (Yb HV'.o (by omega)).mono ?_;rintro e w' ⟨v2,rfl,hv2,hk⟩;have HV2:=Ad hv2;have HK:=Ad hk;clear hv2 hk))
 go_ret;exact ⟨_,rfl,HV2.o,HK.o⟩
theorem Y6 (a b:Nat)(ha:a<18446744073709551616)(hb:b<18446744073709551616):bits .or .u64 (a:Int) (b:Int)=((a ||| b:Nat):Int):=bits_or_u64_nat a b ha hb
theorem Pr (x r:Nat):IntKind.u64.wrap ((x:Int)*2^r)=((x*2^r%18446744073709551616:Nat):Int):=by
 rw [IntKind.wrap_u64];simp
theorem Tt (x r:Nat):(x:Int)/2^r=((x/2^r:Nat):Int):=by
 simp
theorem kH (x:Nat):(x:Int)/2=((x/2:Nat):Int):=by omega
theorem ju (hv:Lim w v xs)(n:Nat)(hl:xs.length<=100000)(h0:0<xs.length)(hn:n<=6400000) :
 Calls Tryz.prog 114 #[v,.int .i64 n] w (RetLim (Al (Bq (Gs xs (n/64) (n%64) (n/64+xs.length+1) xs.length))) w):=by
 obtain ⟨hs,A,c,rfl,hc,hA⟩:=hv;obtain ⟨b,off,rfl,hb,hcell⟩:=hA h0;have HC:=Ad hcell;have hx:=Cc hs;have HX:=Ad hx;have HS:=Ad hs;clear hcell hA hx hs;obtain ⟨i0,hi,hz0,hz1,hz2⟩:=info_parts Sy;generalize hlen:xs.length=l at *;have HF:=Ad (M6 xs (n/64) (n%64) (n/64+l+1));have HL:=Ad hlen;have HSM:=Ad (St xs HS.o (n/64) (n%64) (n/64+l+1));clear hlen;have e0:(((l:Nat):Int)==0)=false:=by rw [Ek];omega
 go_enter Tryz.func114,Tryz.ntmps114
 go_wp2_with (at_make;go_must (refine wpList_make_full _ rfl _ _ 26 rfl w.heap.size 55 i0 (.int .u64 0) 1 Tryz.underlying26 hi hz0 hz1 .i64 .i64 _ _ (n/64+l+1) rfl rfl (by omega) (by omega) (by rw [hz2];omega) (by unfold maxLen;omega) (by simp) ?_))
 intro w1 hown1 hgrow1;have ho:Hid (Own w1 w.heap.size (.slice (some ⟨w.heap.size,0,none⟩) (n/64+l+1) (n/64+l+1)) (Gs xs (n/64) (n%64) (n/64+l+1) 0)):=Ol hown1;have hk:Hid (Below w.heap.size w w1):=Below.grown (Below.refl _ _) hgrow1 (by simp) (by intro k hk;cases hk);clear hown1 hgrow1;go_wp2_with fail
 go_loopw [20] (λt wr=>∃ k:Nat,k<=l/\t=.int .i64 k/\Own wr w.heap.size (.slice (some ⟨w.heap.size,0,none⟩) (n/64+l+1) (n/64+l+1)) (Gs xs (n/64) (n%64) (n/64+l+1) k)/\Below w.heap.size w wr) (λt _=>(l-intOf t).toNat)
 case atStart=>exact ⟨0,Nat.zero_le _,rfl,ho.o,hk.o⟩
 case round =>
  obtain ⟨k,hkl,rfl,hO,hB⟩:=hrel;have HO:=Ad hO;have HB:=Ad hB;clear hO hB;by_cases hlt:k<l
  ·have hck:=(HB.out.cell (p:=⟨b,off+k,none⟩) hb).trans (HC.out k hlt);have ho1:=HO.out.cell (n/64+k) (by rw [HF.out];omega);have ho2:=HO.out.cell (n/64+k+1) (by rw [HF.out];omega);have hf1:=HO.out.frozen (n/64+k);have hf2:=HO.out.frozen (n/64+k+1);have hxk:=HX.out k;have HST:=Ad (show Gs xs (n/64) (n%64) (n/64+l+1) (k+1)=Mc (Gs xs (n/64) (n%64) (n/64+l+1) k) (n/64) (n%64) k (Ba xs k) from rfl);have HY:Hid (Ba (Gs xs (n/64) (n%64) (n/64+l+1) k) (n/64+k)<18446744073709551616∧Ba (Gs xs (n/64) (n%64) (n/64+l+1) k) (n/64+k+1)<18446744073709551616):=⟨Cc (HSM.out k) _,Cc (HSM.out k) _⟩
   unfold Mc at HST;generalize Gs xs (n/64) (n%64) (n/64+l+1) k=out at *;generalize Ba xs k=x at *;generalize Ba out (n/64+k)=y0 at *;generalize Ba out (n/64+k+1)=y1 at *;go_wp2_with fail;go_roundw
   case rel =>
    refine ⟨k+1,by omega,by go_num,?_,(HB.o.setCell (by simp) _).setCell (by simp) _⟩;rw [Pr,kH,Tt,Y6 _ _ HY.o.1 (Nat.mod_lt _ (by decide)),Y6 _ _ HY.o.2 (Nat.lt_of_le_of_lt (Nat.div_le_self _ _) (Nat.lt_of_le_of_lt (Nat.div_le_self _ _) hxk)),HST.o];exact (HO.o.stored _ _).stored _ _
   case measure=>simp [intOf];omega
  ·obtain rfl:k=l:=by omega
   have hlim:=HO.o.lim (HSM.o _);have HLM:=Ad hlim;clear hlim
   go_wp2_with (go_at_call 82;refine (La HLM.o (by rw [HF.o];omega)).mono ?_;rintro e w' ⟨v',rfl,hv',rfl⟩;have HV':=Ad hv';clear hv')
   go_ret;exact ⟨_,rfl,HV'.o,HB.o⟩
theorem Ov (h:Small xs):Small (xs++[0]):=by
 intro x hx;rcases List.mem_append.1 hx with hx | hx
 ·exact h x hx
 ·have:x=0:=by simpa using hx
  omega
theorem Ya (w:World)(u:Value)(T:TypeId):∀ j x,[u][j]?=some x->(w.alloc (.cells #[u] T)).cell? ((⟨w.heap.size,0,none⟩:Addr).add j)=some x:=by
 intro j x hj
 match j,hj with
 | 0, hj =>
   have:u=x:=by simpa using hj
   subst this;simp [Addr.add,go_sem]
 | j+1,hj=>simp at hj
theorem aJ (hv:Lim w v xs)(hu:Lim w u ys)(hl:xs.length<=100000)(hle:ys.length<=xs.length)
 {args:Array Value} (hargs:args=#[v,u]\/args=#[u,v]/\ys.length<xs.length) :
 Calls Tryz.prog 194 args w (RetLim (Al (Bq (Ej (xs++[0]) ys (xs.length+1)).1)) w):=by
 have hv':=hv;obtain ⟨hs,A,c,rfl,hc,hA⟩:=hv;obtain ⟨hs',A',c',rfl,hc',hA'⟩:=hu;have HV:=Ad hv';have HS:=Ad hs;have HA':=Ad hA';have HS':=Ad hs';clear hA hA' hv' hs hs';generalize hlen:xs.length=l,hlen':ys.length=l' at *;have HL:=Ad hlen;have HL':=Ad hlen';clear hlen hlen';obtain ⟨i0,hi,hz0,hz1,hz2⟩:=info_parts Sy;rcases hargs with rfl | ⟨rfl,hlt'⟩
 all_goals
  go_enter Tryz.func194,Tryz.ntmps194;go_wp2_with fail;go_step3
  go_wp2_with (first
   | (go_at_call 81;refine (O9 HV.o (by rw [HL.o];omega)).mono ?_;rintro e w1 ⟨v1,rfl,ho,hk⟩;have HO:=Ad ho;have HK:=Ad hk;clear ho hk)
   | (at_builtin;go_must (refine wpList_append_own _ rfl _ _ 26 rfl w.heap.size 55 i0 (.int .u64 0) 1 8 Tryz.underlying26 hi hz0 hz1 hz2 rfl (by decide) _ xs.length (xs.map U) rfl (HO.o.alloc _) ⟨w1.heap.size,0,none⟩ 1 1 [.int .u64 0] rfl rfl (Ya w1 _ _) (by simp [Value.oneCell']) (by unfold maxLen;rw [HL.o];omega) (by rw [HL.o];omega) (by have:=HK.o.size;simp;omega) ?_)))
  intro v' w2 hown2 hgrow2 _;have ho:Hid (Own w2 w.heap.size v' (xs++[0])):=Om (ys:=[0]) hown2;have hk:Hid (Below w.heap.size w w2):=Below.grown (HK.o.alloc HK.o.size _) hgrow2 (by have:=HK.o.size;simp;omega) (λk hk=>(World.ownsRow.lt HO.o k hk).1);clear hown2 hgrow2;obtain ⟨g,cap,rfl,hg,_,hcap⟩:=ho.o.shape (by simp);have el:(xs++[0]).length=l+1:=by rw [List.length_append,HL.o];rfl
  rw [el] at ho hcap ⊢;have HC:=Ad el;clear el HO HK;go_wp2_with fail;go_step3;go_wp2_with fail;have HSM:=Ad (Ho (xs++[0]) ys (Ov HS.o));have HCY:=Ad (Ms (xs++[0]) ys (Ov HS.o) HS'.o);have HLN:=Ad (λk=>(Gj (xs++[0]) ys k).trans HC.o);have HSTOP:=Ad (Wu (xs++[0]) ys (Ov HS.o))
  go_loopw [6,22] (λcy t wr=>∃ k:Nat,k<=l+1/\t=.int .i64 k/\cy=.int .u64 (Ej (xs++[0]) ys k).2/\Own wr w.heap.size (.slice (some ⟨g,0,none⟩) (l+1) cap) (Ej (xs++[0]) ys k).1/\Below w.heap.size w wr) (λ_ t _=>(l+1-intOf t).toNat)
  case atStart=>exact ⟨0,Nat.zero_le _,rfl,rfl,ho.o,hk.o⟩
  case round =>
   obtain ⟨k,hkl,rfl,rfl,hO,hB⟩:=hrel;have HO:=Ad hO;have HB:=Ad hB;clear hO hB;by_cases hlt:k<l+1
   ·have ho1:=HO.out.cell k (by rw [HLN.out];omega);have hf1:=HO.out.frozen k;have hcy:=HCY.out k;have HST:=Ad (Ir (xs++[0]) ys k);have hxk:=Cc (HSM.out k) k;by_cases hky:k<l'
    ·obtain ⟨b,off,rfl,hb,hcell⟩:=HA'.out (by omega);have hck:=(HB.out.cell (p:=⟨b,off+k,none⟩) hb).trans (hcell k hky);have hyk:=Cc HS'.out k;clear hcell;generalize Ba ys k=y at *;generalize Ej (xs++[0]) ys k=s at *;obtain ⟨o,q⟩:=s;simp only at *;generalize Ba o k=z at *;have hadd:=fun w=>Qu z y q hcy w
     go_wp2_with (fail)
     go_roundw
     case rel=>exact ⟨k+1,by omega,by go_num,by rw [HST.o];rfl,by rw [HST.o];exact HO.o.stored _ _,HB.o.setCell hg _⟩
     case measure=>simp [intOf];omega
    ·have hd:decide ((k:Int)<(l':Int))=false:=by simp;omega
     have hyk:Ba ys k=0:=Sd ys k (by rw [HL'.o];omega);rw [hyk] at HST;clear hyk;by_cases hq:(Ej (xs++[0]) ys k).2=0
     ·have hfin:(Ej (xs++[0]) ys (l+1)).1=(Ej (xs++[0]) ys k).1:=by
       have:=HSTOP.o k (by rw [HL'.o];omega) hq (l+1-k) (by rw [HC.o];omega);rw [show k+(l+1-k)=l+1 by omega] at this;rw [this]
      have hlim:=HO.o.lim (HSM.o k);rw [<-hfin] at hlim;have HLM:=Ad hlim;rw [hq];have HQ:=Ad hq;clear hlim hq hfin hcy
      go_wp2_with (go_at_call 82;refine (La HLM.o (by rw [HLN.o];omega)).mono ?_;rintro e w' ⟨v',rfl,hv',rfl⟩;have HV':=Ad hv';clear hv')
      rw [Exit.noGoto_ret];go_ret;exact ⟨_,rfl,HV'.o,HB.o⟩
     ·generalize Ej (xs++[0]) ys k=s at *;obtain ⟨o,q⟩:=s;simp only at *;have hq1:(((q:Nat):Int)==0)=false:=by rw [Ek];omega
      generalize Ba o k=z at *;have hadd:∀ w,(callFunc 201 #[.int .u64 z,.int .u64 0,.int .u64 q]).run Tryz.prog w=.ok (.value (.tuple #[.int .u64 (Du z 0 q),.int .u64 (D5 z 0 q)])) w:=λw=>Qu z 0 q hcy w
      have HQ:=Ad hq;clear hq
      go_wp2_with (fail)
      go_roundw
      case rel=>exact ⟨k+1,by omega,by go_num,by rw [HST.o];rfl,by rw [HST.o];exact HO.o.stored _ _,HB.o.setCell hg _⟩
      case measure=>simp [intOf];omega
   ·obtain rfl:k=l+1:=by omega
    have hlim:=HO.o.lim (HSM.o _);have HLM:=Ad hlim;clear hlim
    go_wp2_with (go_at_call 82;refine (La HLM.o (by rw [HLN.o];omega)).mono ?_;rintro e w' ⟨v',rfl,hv',rfl⟩;have HV':=Ad hv';clear hv')
    rw [Exit.noGoto_ret];go_ret;exact ⟨_,rfl,HV'.o,HB.o⟩
theorem dx (hv:Lim w v (Al n))(hu:Lim w u (Al m))(hl:(Al n).length<=100000)(hl':(Al m).length<=100000) :
 Calls Tryz.prog 194 #[v,u] w (RetLim (Al (n+m)) w):=by
 by_cases hle:(Al m).length<=(Al n).length
 ·have:=aJ hv hu hl hle (Or.inl rfl);rwa [Zn _ _ hv.1 hu.1 hle,Cq,Cq] at this
 ·have:=aJ hu hv hl' (by omega) (Or.inr ⟨rfl,by omega⟩);rwa [Zn _ _ hu.1 hv.1 (by omega),Cq,Cq,Nat.add_comm] at this
theorem Oc (hv:Lim w v (Al m))(n:Nat)(hl:(Al m).length<=100000)(hn:n<=6400000) :
 Calls Tryz.prog 114 #[v,.int .i64 n] w (RetLim (Al (m*2^n)) w):=by
 by_cases h0:m=0
 ·subst h0;rw [Be] at *;rw [Nat.zero_mul,Be];obtain ⟨hs,A,c,rfl,hc,hA⟩:=hv;clear hs hA hc hl;refine Calls.mono (R:=λe w'=>e=.returned (.slice none 0 0)/\w=w') ?_ (λe w' ⟨he,hw⟩=>by subst hw;exact ⟨_,he,Lim.nil _ _ _,Below.refl _ _⟩);have e0:(((([]:List Nat).length:Nat):Int)==0)=true:=rfl;go_enter Tryz.func114,Tryz.ntmps114;go_wp2_with fail;go_ret;exact ⟨rfl,rfl⟩
 ·have:=ju hv n hl (Br m h0) hn;rwa [fZ _ hv.1,Cq] at this
theorem gw (hv:Lim w v xs)(hu:Lim w u ys)(hl:xs.length<=100000) :
 Calls Tryz.prog 199 #[v,u] w (RetLim (Al (Bq (Lc xs ys xs.length).1)) w):=by
 have hv':=hv;obtain ⟨hs,A,c,rfl,hc,hA⟩:=hv;obtain ⟨hs',A',c',rfl,hc',hA'⟩:=hu;have HV:=Ad hv';have HS:=Ad hs;have HS':=Ad hs';have HA':=Ad hA';clear hA hA' hv' hs hs';generalize hlen:xs.length=l,hlen':ys.length=l' at *;have HL:=Ad hlen;have HL':=Ad hlen';clear hlen hlen';have HSM:=Ad (No xs ys HS.o);have HCY:=Ad (Oy xs ys);have HLN:=Ad (λk=>(Lr xs ys k).trans HL.o);go_enter Tryz.func199,Tryz.ntmps199
 go_wp2_with (go_at_call 81;refine (O9 HV.o (by rw [HL.o];omega)).mono ?_;rintro e w1 ⟨v1,rfl,ho,hk⟩;obtain ⟨A1,cap1,rfl,hg1⟩:=ho.shape0;rw [HL.o] at ho hg1 ⊢;have HO1:=Ad ho;have HG1:=Ad hg1;have HK:=Ad hk;clear ho hk hg1)
 go_loopw [6,13] (λcy t wr=>∃ k:Nat,k<=l/\t=.int .i64 k/\cy=.int .u64 (Lc xs ys k).2/\Own wr w.heap.size (.slice A1 l cap1) (Lc xs ys k).1/\Below w.heap.size w wr) (λ_ t _=>(l-intOf t).toNat)
 case atStart=>exact ⟨0,Nat.zero_le _,rfl,rfl,HO1.o,HK.o⟩
 case round =>
  obtain ⟨k,hkl,rfl,rfl,hO,hB⟩:=hrel;have HO:=Ad hO;have HB:=Ad hB;clear hO hB;by_cases hlt:k<l
  ·obtain ⟨g,rfl,hg,hg'⟩:=HG1.out (by omega);have ho1:=HO.out.cell k (by rw [HLN.out];omega);have hf1:=HO.out.frozen k;have hcy:=HCY.out k;have HST:=Ad (Mp xs ys k);have hxk:=Cc (HSM.out k) k;have hyk:=Cc HS'.out k;by_cases hky:k<l'
   ·obtain ⟨b,off,rfl,hb,hcell⟩:=HA'.out (by omega);have hck:=(HB.out.cell (p:=⟨b,off+k,none⟩) hb).trans (hcell k hky);clear hcell;generalize Ba ys k=y at *;generalize Lc xs ys k=s at *;obtain ⟨o,q⟩:=s;simp only at *;generalize Ba o k=z at *;have hsub:=fun w=>fD z y q hcy w
    go_wp2_with (fail)
    go_roundw
    case rel=>exact ⟨k+1,by omega,by go_num,by rw [HST.o];rfl,by rw [HST.o];exact HO.o.stored _ _,HB.o.setCell hg _⟩
    case measure=>simp [intOf];omega
   ·have hd:decide ((k:Int)<(l':Int))=false:=by simp;omega
    have hy0:Ba ys k=0:=Sd ys k (by rw [HL'.o];omega);rw [hy0] at HST;clear hy0;generalize Lc xs ys k=s at *;obtain ⟨o,q⟩:=s;simp only at *;generalize Ba o k=z at *;have hsub:∀ w,(callFunc 206 #[.int .u64 z,.int .u64 0,.int .u64 q]).run Tryz.prog w=.ok (.value (.tuple #[.int .u64 (P0 z 0 q),.int .u64 (Ra z 0 q)])) w:=λw=>fD z 0 q hcy w
    go_wp2_with (fail)
    go_roundw
    case rel=>exact ⟨k+1,by omega,by go_num,by rw [HST.o];rfl,by rw [HST.o];exact HO.o.stored _ _,HB.o.setCell hg _⟩
    case measure=>simp [intOf];omega
  ·obtain rfl:k=l:=by omega
   have hlim:=HO.o.lim (HSM.o _);have HLM:=Ad hlim;clear hlim
   go_wp2_with (go_at_call 82;refine (La HLM.o (by rw [HLN.o];omega)).mono ?_;rintro e w' ⟨v',rfl,hv',rfl⟩;have HV':=Ad hv';clear hv')
   go_ret;exact ⟨_,rfl,HV'.o,HB.o⟩
theorem fo (hv:Lim w v (Al n))(hu:Lim w u (Al m))(hl:(Al n).length<=100000)(hle:m<=n) :
 Calls Tryz.prog 199 #[v,u] w (RetLim (Al (n-m)) w):=by
 have:=gw hv hu hl;have hll:(Al m).length<=(Al n).length:=by
  by_cases h:(Al n).length<(Al m).length
  ·have:=Lf n m h;omega
  ·omega
 rwa [kQ _ _ hv.1 hu.1 hll (by rw [Cq,Cq];exact hle),Cq,Cq] at this
theorem jO (x y:Nat)(hx:x<18446744073709551616)(hy:y<18446744073709551616):x*y<=18446744073709551615*18446744073709551615:=Nat.mul_le_mul (by omega) (by omega)
theorem ii (hv:Lim w v xs)(hu:Lim w u ys)(hl:xs.length<=100000)(hl':ys.length<=100000) :
 Calls Tryz.prog 180 #[v,u] w (RetLim (Al (Bq (Oe xs ys (xs.length+ys.length) xs.length))) w):=by
 obtain ⟨hs,A,c,rfl,hc,hA⟩:=hv;obtain ⟨hs',A',c',rfl,hc',hA'⟩:=hu;have HS:=Ad hs;have HS':=Ad hs';have HA:=Ad hA;have HA':=Ad hA';clear hA hA' hs hs';generalize hlen:xs.length=l,hlen':ys.length=l' at *;have HL:=Ad hlen;have HL':=Ad hlen';clear hlen hlen';have HSM:=Ad (Ux xs ys (l+l') HS.o HS'.o);have HLN:=Ad (Og xs ys (l+l'));obtain ⟨i0,hi,hz0,hz1,hz2⟩:=info_parts Sy;go_enter Tryz.func180,Tryz.ntmps180
 go_wp2_with (at_make;go_must (refine wpList_make_full _ rfl _ _ 26 rfl w.heap.size 55 i0 (.int .u64 0) 1 Tryz.underlying26 hi hz0 hz1 .i64 .i64 _ _ (l+l') rfl rfl (by omega) (by omega) (by rw [hz2];omega) (by unfold maxLen;omega) (by simp) ?_))
 intro w1 hown1 hgrow1;have ho:Hid (Own w1 w.heap.size (.slice (some ⟨w.heap.size,0,none⟩) (l+l') (l+l')) (Oe xs ys (l+l') 0)):=Ol hown1;have hk:Hid (Below w.heap.size w w1):=Below.grown (Below.refl _ _) hgrow1 (by simp) (by intro k hk;cases hk);clear hown1 hgrow1;go_wp2_with fail;generalize hBase:w.heap.size=B at *;have HBASE:=Ad hBase;clear hBase
 go_loopw [22] (λt wr=>∃ k:Nat,k<=l/\t=.int .i64 k/\Own wr B (.slice (some ⟨B,0,none⟩) (l+l') (l+l')) (Oe xs ys (l+l') k)/\Below B w wr) (λt _=>(l-intOf t).toNat)
 case atStart=>exact ⟨0,Nat.zero_le _,rfl,ho.o,hk.o⟩
 case round =>
  obtain ⟨k,hkl,rfl,hO,hB⟩:=hrel;have HO:=Ad hO;have HB:=Ad hB;clear hO hB;by_cases hlt:k<l
  ·obtain ⟨b,off,rfl,hb,hcell⟩:=HA.out (by omega);have hck:=(HB.out.cell (p:=⟨b,off+k,none⟩) hb).trans (hcell k hlt);clear hcell;have hxk:=Cc HS.out k;have HST:=Ad (Pj xs ys (l+l') k);have HSMK:=Ad (HSM.out k);have HLNK:=Ad (HLN.out k);generalize Oe xs ys (l+l') k=out at *;generalize Ba xs k=x at *;have HRS:=Ad (Ni out k x ys HSMK.out);have HRC:=Ad (Qq out k x ys HSMK.out HS'.out hxk);have HRL:=Ad (fun j=>(Hu out k x ys j).trans HLNK.out);go_wp2_with fail;obtain ⟨wo,rfl⟩:∃ wo:World,wo=wr:=⟨_,rfl⟩
   go_loopw [8,29] (λcy t wr=>∃ j:Nat,j<=l'/\t=.int .i64 j/\cy=.int .u64 (Jz out k x ys j).2/\Own wr B (.slice (some ⟨B,0,none⟩) (l+l') (l+l')) (Jz out k x ys j).1/\Below B w wr) (λ_ t _=>(l'-intOf t).toNat)
   case atStart=>exact ⟨0,Nat.zero_le _,rfl,rfl,HO.o,HB.o⟩
   case round =>
    obtain ⟨j,hjl,rfl,rfl,hO,hB⟩:=hrel;clear HO HB hck;have HO:=Ad hO;have HB:=Ad hB;clear hO hB;by_cases hjt:j<l'
    ·obtain ⟨b',off',rfl,hb',hcell⟩:=HA'.out (by omega);have hck:=(HB.out.cell (p:=⟨b',off'+j,none⟩) hb').trans (hcell j hjt);clear hcell;have hyj:=Cc HS'.out j;have ho1:=HO.out.cell (k+j) (by rw [HRL.out];omega);have hf1:=HO.out.frozen (k+j);have hz:=Cc (HRS.out j) (k+j);have hcy:=HRC.out j;have HSJ:=Ad (Kl out k x ys j);generalize Ba ys j=y at *;generalize Jz out k x ys j=s at *;obtain ⟨o,q⟩:=s;simp only at *;generalize Ba o (k+j)=z at *;have HM:=Ad (fun w=>jM x y hxk hyj w);have hadd1:∀ w,(callFunc 201 #[.int .u64 (Fk x y),.int .u64 q,.int .u64 0]).run Tryz.prog w=.ok (.value (.tuple #[.int .u64 (Du (Fk x y) q 0),.int .u64 (D5 (Fk x y) q 0)])) w:=fun w=>Qu _ _ 0 (by omega) w
     have hadd2:∀ w,(callFunc 201 #[.int .u64 z,.int .u64 (Du (Fk x y) q 0),.int .u64 0]).run Tryz.prog w=.ok (.value (.tuple #[.int .u64 (Du z (Du (Fk x y) q 0) 0),.int .u64 (D5 z (Du (Fk x y) q 0) 0)])) w:=λw=>Qu _ _ 0 (by omega) w
     have st:=jP (x*y) q z;have sb:=Pk x y q z hxk hyj hcy hz;have s1:Du z (Du (Fk x y) q 0) 0=(x*y+q+z)%18446744073709551616:=by rw [<-st.1];rfl
     have s2:Pz x y+D5 (Fk x y) q 0+D5 z (Du (Fk x y) q 0) 0=(x*y+q+z)/18446744073709551616:=by rw [<-st.2];rfl
     have b1:Pz x y+D5 (Fk x y) q 0+D5 z (Du (Fk x y) q 0) 0<=18446744073709551615:=by rw [s2];omega
     have S1:=Ad s1;have S2:=Ad s2;clear st sb s1 s2;generalize Pz x y=h1 at *;generalize Fk x y=l1 at *;generalize Du l1 q 0=l2 at *;generalize D5 l1 q 0=c2 at *;generalize D5 z l2 0=c3 at *;generalize Du z l2 0=z' at *
     go_wp2_with (go_at_call 200;refine (HM.o _).mono ?_;rintro e w' ⟨rfl,rfl⟩)
     go_roundw
     case rel =>
      refine ⟨j+1,by omega,by go_num,?_,?_,HB.o.setCell (Aq _) _⟩
      ·rw [HSJ.o,<-S2.o];simp
      ·rw [HSJ.o,<-S1.o];exact HO.o.stored _ _
     case measure=>simp [intOf];omega
    ·obtain rfl:j=l':=by omega
     have ho1:=HO.o.cell (k+j) (by rw [HRL.o];omega);have hf1:=HO.o.frozen (k+j);rw [HL'.o] at HST;generalize Jz out k x ys j=s at *;obtain ⟨o,q⟩:=s;simp only at *;go_wp2_with fail;go_roundw
     case rel =>
      refine ⟨k+1,by omega,by go_num,?_,HB.o.setCell (Aq _) _⟩;rw [HST.o];exact HO.o.stored _ _
     case measure=>simp [intOf];omega
  ·obtain rfl:k=l:=by omega
   have hlim:=HO.o.lim (HSM.o _);have HLM:=Ad hlim;clear hlim
   go_wp2_with (go_at_call 82;refine (La HLM.o (by rw [HLN.o];omega)).mono ?_;rintro e w' ⟨v',rfl,hv',rfl⟩;have HV':=Ad hv';clear hv')
   go_ret;refine ⟨_,rfl,HV'.o,?_⟩;rw [Kept,HBASE.o];exact HB.o
theorem fE (hv:Lim w v (Al n))(hu:Lim w u (Al m))(hl:(Al n).length<=100000)(hl':(Al m).length<=100000) :
 Calls Tryz.prog 180 #[v,u] w (RetLim (Al (n*m)) w):=by
 have:=ii hv hu hl hl';rwa [jN _ _ hv.1 hu.1,Cq,Cq] at this
theorem kc (xs:List Nat)(q i:Nat):Ba (xs.drop q) i=Ba xs (q+i):=by
 unfold Ba;rw [Da,Da,List.getElem?_drop]
theorem gN (hv:Lim w v xs)(n:Nat)(hl:xs.length<=100000)(hn:n<=6400000)(hq:n/64<xs.length) :
 Calls Tryz.prog 117 #[v,.int .i64 n] w (RetLim (Al (Bq (E2 (xs.drop (n/64)) (n%64) (xs.drop (n/64)).length))) w):=by
 obtain ⟨hs,A,c,rfl,hc,hA⟩:=hv;obtain ⟨b,off,rfl,hb,hcell⟩:=hA (by omega);have hcell':∀ i,i<(xs.drop (n/64)).length->w.cell? ⟨b,off+n/64+i,none⟩=some (.int .u64 (Ba (xs.drop (n/64)) i)):=by
  intro i hi;rw [List.length_drop] at hi;rw [kc,Nat.add_assoc];exact hcell _ (by omega)
 have hs':Small (xs.drop (n/64)):=Nl hs _;have hlen':=List.length_drop (i:=n/64) (l:=xs);generalize hlen:xs.length=l at *;generalize xs.drop (n/64)=ys at *;have HS:=Ad hs';have HC:=Ad hcell';have HL:=Ad hlen';have HLN:=Ad (Jg ys (n%64));have HSM:=Ad (Rj ys hs' (n%64) (Nat.mod_lt _ (by decide)));clear hlen hcell hcell' hA hs hs' hlen';obtain ⟨i0,hi,hz0,hz1,hz2⟩:=info_parts Sy;have hqc:n/64<c:=by omega
 generalize hq':n/64=q at *;have HQ:=Ad hq';clear hq';obtain ⟨m,rfl⟩:∃ m,l=q+m:=⟨l-q,by omega⟩;have hm:ys.length=m:=by rw [HL.o];omega
 have HM:=Ad hm;rw [hm] at HC ⊢;clear hm HL;have dq:decide (((q+m:Nat):Int)<=(n:Int)/64)=false:=by have:=HQ.o;simp;omega
 have e1:(n:Int)/64=(q:Int):=by have:=HQ.o;omega
 go_enter Tryz.func117,Tryz.ntmps117
 go_wp2_with (at_make;go_must (refine wpList_make_full _ rfl _ _ 26 rfl w.heap.size 55 i0 (.int .u64 0) 1 Tryz.underlying26 hi hz0 hz1 .i64 .i64 _ _ m rfl rfl (by omega) (by omega) (by rw [hz2];omega) (by unfold maxLen;omega) (by simp) ?_))
 intro w1 hown1 hgrow1;have ho:Hid (Own w1 w.heap.size (.slice (some ⟨w.heap.size,0,none⟩) m m) (List.replicate m 0)):=Ol hown1;have hk:Hid (Below w.heap.size w w1):=Below.grown (Below.refl _ _) hgrow1 (by simp) (by intro k hk;cases hk);clear hown1 hgrow1;go_wp2_with fail;generalize hBase:w.heap.size=B at *;have HBASE:=Ad hBase;clear hBase
 go_loopw [22] (λt wr=>∃ k:Nat,k<=m/\t=.int .i64 k/\Own wr B (.slice (some ⟨B,0,none⟩) m m) (E2 ys (n%64) k)/\Below B w wr) (λt _=>(m-intOf t).toNat)
 case atStart=>exact ⟨0,Nat.zero_le _,rfl,by rw [E2,HM.o];exact ho.o,hk.o⟩
 case round =>
  obtain ⟨k,hkl,rfl,hO,hB⟩:=hrel;have HO:=Ad hO;have HB:=Ad hB;clear hO hB;by_cases hlt:k<m
  ·have hck:=(HB.out.cell (p:=⟨b,off+q+k,none⟩) hb).trans (HC.out k hlt);have ho1:=HO.out.cell k (by rw [HLN.out,HM.out];omega);have hf1:=HO.out.frozen k;have hxk:=Cc HS.out k;have hyk:=Cc HS.out (k+1);by_cases hl1:k+1<m
   ·have hck2:=(HB.out.cell (p:=⟨b,off+q+(k+1),none⟩) hb).trans (HC.out (k+1) hl1);have HST:Hid (E2 ys (n%64) (k+1)=(E2 ys (n%64) k).set k ((Ba ys k/2^(n%64)) ||| (Ba ys (k+1)*2%18446744073709551616*2^(63-n%64)%18446744073709551616))):=by
     show (E2 ys (n%64) k).set k (Ky ys (n%64) k)=_
     unfold Ky;rw [Ak (by rw [HM.o];exact hl1)]
    generalize E2 ys (n%64) k=o at *;generalize Ba ys k=x at *;generalize Ba ys (k+1)=y at *;generalize Ba o k=z at *;go_wp2_with fail;go_region;go_wp2_with fail;go_roundw
    case rel =>
     refine ⟨k+1,by omega,by go_num,?_,((HB.o.setCell (Aq _) _).setCell (Aq _) _).drew⟩;have hx2:x/2^(n%64)<18446744073709551616:=Nat.lt_of_le_of_lt (Nat.div_le_self _ _) hxk;rw [Tt,show (2:Int)=2^1 from rfl,Pr,Int.pow_succ,Int.pow_zero,Int.one_mul,Pr,Y6 _ _ hx2 (Nat.mod_lt _ (by decide)),HST.o];have h1:=(HO.o.stored k (x/2^(n%64))).stored k (x/2^(n%64) ||| y*2^1%18446744073709551616*2^(63-n%64)%18446744073709551616);rw [List.set_set] at h1;exact h1
    case measure=>simp [intOf];omega
   ·have HST:Hid (E2 ys (n%64) (k+1)=(E2 ys (n%64) k).set k (Ba ys k/2^(n%64))):=by
     show (E2 ys (n%64) k).set k (Ky ys (n%64) k)=_
     unfold Ky;rw [Af (by rw [HM.o];exact hl1)]
    generalize E2 ys (n%64) k=o at *;generalize Ba ys k=x at *;generalize Ba o k=z at *;go_wp2_with fail;go_roundw
    case rel =>
     refine ⟨k+1,by omega,by go_num,?_,HB.o.setCell (Aq _) _⟩;rw [Tt,HST.o];exact HO.o.stored _ _
    case measure=>simp [intOf];omega
  ·obtain rfl:k=m:=by omega
   have hlim:=HO.o.lim (HSM.o _);have HLM:=Ad hlim;clear hlim
   go_wp2_with (go_at_call 82;refine (La HLM.o (by rw [HLN.o,HM.o];omega)).mono ?_;rintro e w' ⟨v',rfl,hv',rfl⟩;have HV':=Ad hv';clear hv')
   go_ret;refine ⟨_,rfl,HV'.o,?_⟩;rw [Kept,HBASE.o];exact HB.o
theorem Ts (hv:Lim w v (Al m))(n:Nat)(hl:(Al m).length<=100000)(hn:n<=6400000) :
 Calls Tryz.prog 117 #[v,.int .i64 n] w (RetLim (Al (m/2^n)) w):=by
 by_cases hq:n/64<(Al m).length
 ·have:=gN hv n hl hn hq;rwa [gM _ hv.1,Cq] at this
 ·have h0:m/2^n=0:=by
   apply Nat.div_eq_of_lt;have a:=Di m;have b:18446744073709551616^(Al m).length<=18446744073709551616^(n/64):=Ee (by decide) (by omega);have c:18446744073709551616^(n/64)<=2^n:=by
    rw [L6 n];exact Nat.le_mul_of_pos_left _ (Nat.pow_pos (by decide))
   omega
  rw [h0,Be];obtain ⟨hs,A,c,rfl,hc,hA⟩:=hv;clear hs hA hc h0;refine Calls.mono (R:=λe w'=>e=.returned (.slice none 0 0)/\w=w') ?_ (λe w' ⟨he,hw⟩=>by subst hw;exact ⟨_,he,Lim.nil _ _ _,Below.refl _ _⟩);generalize (Al m).length=l at *;have dq:decide ((l:Int)<=(n:Int)/64)=true:=by simp;omega
  go_enter Tryz.func117,Tryz.ntmps117;go_wp2_with fail;go_ret;exact ⟨rfl,rfl⟩
theorem E4 (u d Y q:Nat)(hY:Y<18446744073709551616)(h0:0<Y)(hq:q=(u*4294967296+d)/Y) :
 IntKind.u64.wrap (IntKind.u64.wrap (IntKind.u64.wrap ((u:Int)*4294967296)+(d:Int))-IntKind.u64.wrap ((q:Int)*(Y:Int)))=(((u*4294967296+d)%Y:Nat):Int):=by
 have:=fV u d Y q hY h0 hq;rw [<-this];simp only [IntKind.wrap_u64];omega
def lG (u d1 d0 Y s:Nat) (w:World) (e:Ending) (w':World):Prop:=∃ q1 q2 v t:Nat,e=.returned (.tuple #[.int .u64 ((q1*4294967296+q2:Nat):Int),.int .u64 ((t/2^s:Nat):Int)]) /\
 q1=(u*4294967296+d1)/Y/\(u*4294967296+d1)%Y=v/\q2=(v*4294967296+d0)/Y/\(v*4294967296+d0)%Y=t/\∃ n,w'=w.drewN n
theorem eI (hi lo y:Nat)(hy:y<18446744073709551616)(hlo:lo<18446744073709551616)(hlt:hi<y)(w:World) :
 Calls Tryz.prog 205 #[.int .u64 hi,.int .u64 lo,.int .u64 y] w (RetQ (.tuple #[.int .u64 ((hi*18446744073709551616+lo)/y:Nat),.int .u64 ((hi*18446744073709551616+lo)%y:Nat)]) w):=by
 by_cases h0:hi=0
 ·subst h0;have e1:(((y:Nat):Int)==0)=false:=by rw [Ek];omega
  have e2:¬y=0:=by omega
  rw [Nat.zero_mul,Nat.zero_add];go_enter Tryz.func205,Tryz.ntmps205;go_wp2_with fail
  go_quiet (fail)
  go_wp2;have ew:IntKind.u64.wrap ((lo:Int)/(y:Int))=((lo/y:Nat):Int):=by
   rw [<-Int.natCast_ediv,IntKind.wrap_u64];have:=Nat.div_le_self lo y;generalize lo/y=z at *;omega
  refine bodyPost_ret (v:=.tuple #[.int .u64 ((lo/y:Nat):Int),.int .u64 ((lo%y:Nat):Int)]) (by simp [results,Tryz.results205,go_sem,ew]) rfl ⟨rfl,_,rfl⟩
 ·have e1:(((y:Nat):Int)==0)=false:=by rw [Ek];omega
  have e2:(((hi:Nat):Int)==0)=false:=by rw [Ek];omega
  have hb1:=Bm y;have hb2:=D9 y (by omega);have hb3:=Qx y hy;have hb4:=Df y (by omega);obtain ⟨s,hs⟩:∃ s,s+bl y=64:=⟨64-bl y,by omega⟩;have HB:=Ad hs;have hlz:∀ w,Calls Tryz.prog 160 #[.int .u64 y] w λe w'=>e=.returned (.int .i64 s)/\w=w':=by
   intro w;have:=pO y w hy;rwa [show ((64:Int)-(bl y:Int))=(s:Int) by omega] at this
  have HLZ:=Ad hlz;clear hlz hs;have hs64:s<64:=by have:=HB.o;omega
  have hY:y*2^s<18446744073709551616:=by
   have:=Nat.mul_lt_mul_of_pos_right hb1 (Nat.pow_pos (n:=s) (show 0<2 by decide));rw [<-Nat.pow_add,show bl y+s=64 by have:=HB.o;omega] at this;exact this
  have hY2:9223372036854775808<=y*2^s:=by
   have:=Fh (2^s) hb2;rw [<-Nat.pow_add,show bl y-1+s=63 by have:=HB.o;omega] at this;exact this
  clear hb1 hb2 hb3 hb4;obtain ⟨sh1,sh2,sh3,sh4⟩:=gS hi lo y s hs64 hlo hlt;have hfin1:(hi*18446744073709551616+lo)/y=((hi*18446744073709551616+lo)*2^s)/(y*2^s):=(Nat.mul_div_mul_right _ _ (Nat.pow_pos (by decide))).symm;have hfin2:(hi*18446744073709551616+lo)%y=((hi*18446744073709551616+lo)*2^s)%(y*2^s)/2^s:=by
   rw [Nat.mul_mod_mul_right,Nat.mul_div_cancel _ (Nat.pow_pos (by decide))]
  rw [hfin1,hfin2,sh1];have eY:IntKind.u64.wrap ((y:Int)*2^s)=((y*2^s:Nat):Int):=by rw [Pr,Nat.mod_eq_of_lt hY]
  have eU:bits .or .u64 (IntKind.u64.wrap ((hi:Int)*2^s)) ((lo:Int)/2^(64-s))=((hi*2^s+lo/2^(64-s):Nat):Int):=by
   have a:hi*2^s<18446744073709551616:=by omega
   rw [Pr,Nat.mod_eq_of_lt a,Tt,Y6 _ _ a (by omega),Nat.mul_comm hi,<-Nat.two_pow_add_eq_or_of_lt sh3]
  have eL:IntKind.u64.wrap ((lo:Int)*2^s)=((lo*2^s%18446744073709551616:Nat):Int):=Pr lo s;have hL:lo*2^s%18446744073709551616<18446744073709551616:=Nat.mod_lt _ (by decide);clear sh1 sh3 sh4 hfin1 hfin2;generalize y*2^s=Y at *;generalize hi*2^s+lo/2^(64-s)=u at *;generalize lo*2^s%18446744073709551616=L at *;have eY1:(Y:Int)/4294967296=((Y/4294967296:Nat):Int):=by omega
  have hyn1:2147483648<=Y/4294967296:=by omega
  have hyn1':Y/4294967296<4294967296:=by omega
  have eY0:bits .and .u64 (Y:Int) 4294967295=((Y%4294967296:Nat):Int):=Mul64.maskN Y hY;have hyn0:Y%4294967296<4294967296:=by omega
  have HYY:Hid (Y/4294967296*4294967296+Y%4294967296=Y):=by show _=_;omega
  generalize Y/4294967296=yn1 at *;generalize Y%4294967296=yn0 at *;have eL1:(L:Int)/4294967296=((L/4294967296:Nat):Int):=by omega
  have eL0:bits .and .u64 (L:Int) 4294967295=((L%4294967296:Nat):Int):=Mul64.maskN L hL;have hd1:L/4294967296<4294967296:=by omega
  have hd0:L%4294967296<4294967296:=by omega
  have eN:u*18446744073709551616+L=(u*4294967296+L/4294967296)*4294967296+L%4294967296:=by omega
  rw [eN];clear eN;generalize L/4294967296=d1 at *;generalize L%4294967296=d0 at *;have hTH:=dY ((u*4294967296+d1)*4294967296+d0) Y d0 (u*4294967296+d1) (by omega) rfl hd0;refine Calls.mono (R:=lG u d1 d0 Y s w) ?_ (λe w' ⟨q1,q2,v,t,he,h1,h2,h3,h4,hw⟩=>⟨by rw [he,hTH.1,hTH.2,h2,<-h1,<-h3,h4],hw⟩);clear hTH;have hS:=M4 u d1 yn1 yn0 hd1 (by omega);have hqn:u/yn1*yn1<=u:=Nat.div_mul_le_self _ _;have hqb:u/yn1<=8589934592:=by
   rw [Nat.div_le_iff_le_mul_add_pred (by omega)];have:2147483648*8589934592<=yn1*8589934592:=Fh _ hyn1;omega
  have hr0:u%yn1<yn1:=Nat.mod_lt _ (by omega);have eq0:(u:Int)/(yn1:Int)=((u/yn1:Nat):Int):=rfl;generalize u/yn1=q0 at *;generalize u%yn1=r0 at *;have hp0:(0:Int)<=(q0:Int)*(yn1:Int):=by rw [<-Int.natCast_mul];omega
  have hp1:(q0:Int)*(yn1:Int)<=(u:Int):=by rw [<-Int.natCast_mul];omega
  have er0:(u:Int)-(q0:Int)*(yn1:Int)=(r0:Int):=by
   have:=hS.sum;rw [<-Int.natCast_mul];omega
  have HS:=Ad hS;have HU:Hid (u<yn1*4294967296+yn0):=by show _<_;rw [HYY.o];exact sh2
  clear hS;go_enter Tryz.func205,Tryz.ntmps205
  go_wp2_with (go_at_call 160;refine (HLZ.o _).mono ?_;rintro e w' ⟨rfl,rfl⟩)
  go_loop [15,16] (λa b=>∃ q r:Nat,a=.int .u64 q/\b=.int .u64 r/\Gv u d1 yn1 yn0 q r/\r<4294967296/\q<=8589934592) (λa _=>(intOf a).toNat)
  case atStart=>exact ⟨_,_,rfl,rfl,HS.o,by omega,hqb⟩
  case round =>
   obtain ⟨q,r,rfl,rfl,hI,hr,hq⟩:=hrel;have HI:=Ad hI;clear hI HS hqn hqb eq0 hr0 hp0 hp1 er0 eU eY eY1 eY0 eL eL1 eL0;have hp2:(0:Int)<=(q:Int)*(yn0:Int):=by rw [<-Int.natCast_mul];omega
   by_cases hA:4294967296<=q
   ·have hA':decide ((4294967296:Int)≤(q:Int))=true:=decide_eq_true (by omega);have hl:=Hr HI.out HU.out hd1 (by omega) (Or.inl hA);obtain ⟨hq1,hI'⟩:=hl;have HI':=Ad hI';clear hA;clear hI';obtain ⟨r1,hr1⟩:∃ r1,r+yn1=r1:=⟨_,rfl⟩;obtain ⟨qq,hqe⟩:∃ qq,q-1=qq:=⟨_,rfl⟩;rw [hr1,hqe] at HI';have hri:(r:Int)+(yn1:Int)=(r1:Int):=by omega
    have hqi:(q:Int)-1=(qq:Int):=by omega
    have hqm:qq<q:=by omega
    clear hr1 hqe;by_cases hbr:r1<4294967296
    ·have hbr':decide ((4294967296:Int)≤(r1:Int))=false:=decide_eq_false (by omega);have HBR:=Ad hbr;clear hbr;go_wp2_with fail
     go_round
     case rel=>exact ⟨qq,r1,rfl,rfl,HI'.o,HBR.o,by omega⟩
     case measure=>simp [intOf];omega
    ·have hqq:=Gq HI'.out HU.out hyn0 (by omega) (by omega);rw [HYY.out] at hqq;have HQ:=Ad hqq;have hbr':decide ((4294967296:Int)≤(r1:Int))=true:=decide_eq_true (by omega);clear hqq hbr;have eR1:=E4 u d1 Y qq hY (by omega) HQ.out;have hq1b:=Eh u d1 Y sh2 hd1;have hv:(u*4294967296+d1)%Y<Y:=Nat.mod_lt _ (by omega);rw [←HQ.out] at hq1b;obtain ⟨v,hve⟩:∃ v,(u*4294967296+d1)%Y=v:=⟨_,rfl⟩;rw [hve] at eR1 hv;have HV:=Ad hve;obtain ⟨q1,rfl⟩:∃ x,x=qq:=⟨qq,rfl⟩;have HQ1:=HQ;clear hve HQ;have HU2:Hid (v<yn1*4294967296+yn0):=by show _<_;rw [HYY.out];exact hv
     have hS:=M4 v d0 yn1 yn0 hd0 (by omega);have hqn:v/yn1*yn1<=v:=Nat.div_mul_le_self _ _;have hqb:v/yn1<=8589934592:=by
      rw [Nat.div_le_iff_le_mul_add_pred (by omega)];have:2147483648*8589934592<=yn1*8589934592:=Fh _ hyn1;omega
     have hr0:v%yn1<yn1:=Nat.mod_lt _ (by omega);have eq0:(v:Int)/(yn1:Int)=((v/yn1:Nat):Int):=rfl;generalize v/yn1=q0 at *;generalize v%yn1=r0 at *;have hp0:(0:Int)<=(q0:Int)*(yn1:Int):=by rw [<-Int.natCast_mul];omega
     have hp1:(q0:Int)*(yn1:Int)<=(v:Int):=by rw [<-Int.natCast_mul];omega
     have er0:(v:Int)-(q0:Int)*(yn1:Int)=(r0:Int):=by
      have:=hS.sum;rw [<-Int.natCast_mul];omega
     have HS:=Ad hS;clear hS HU;have HU:=HU2;go_wp2_with fail
     go_loop [18,16] (λa b=>∃ q r:Nat,a=.int .u64 q/\b=.int .u64 r/\Gv v d0 yn1 yn0 q r/\r<4294967296/\q<=8589934592) (λa _=>(intOf a).toNat)
     case atStart=>exact ⟨_,_,rfl,rfl,HS.o,by omega,hqb⟩
     case round =>
      obtain ⟨q,r,rfl,rfl,hI,hr,hq⟩:=hrel;have HI:=Ad hI;clear hI HS hqn hqb eq0 hr0 hp0 hp1 er0 ;have hp2:(0:Int)<=(q:Int)*(yn0:Int):=by rw [<-Int.natCast_mul];omega
      by_cases hA:4294967296<=q
      ·have hA':decide ((4294967296:Int)≤(q:Int))=true:=decide_eq_true (by omega);have hl:=Hr HI.out HU.out hd0 (by omega) (Or.inl hA);obtain ⟨hq1,hI'⟩:=hl;have HI':=Ad hI';clear hA;clear hI';obtain ⟨r1,hr1⟩:∃ r1,r+yn1=r1:=⟨_,rfl⟩;obtain ⟨qq,hqe⟩:∃ qq,q-1=qq:=⟨_,rfl⟩;rw [hr1,hqe] at HI';have hri:(r:Int)+(yn1:Int)=(r1:Int):=by omega
       have hqi:(q:Int)-1=(qq:Int):=by omega
       have hqm:qq<q:=by omega
       clear hr1 hqe;by_cases hbr:r1<4294967296
       ·have hbr':decide ((4294967296:Int)≤(r1:Int))=false:=decide_eq_false (by omega);have HBR:=Ad hbr;clear hbr;go_wp2_with fail
        go_round
        case rel=>exact ⟨qq,r1,rfl,rfl,HI'.o,HBR.o,by omega⟩
        case measure=>simp [intOf];omega
       ·have hqq:=Gq HI'.o HU.o hyn0 (by omega) (by omega);rw [HYY.o] at hqq;have HQ:=Ad hqq;have hbr':decide ((4294967296:Int)<=(r1:Int))=true:=decide_eq_true (by omega);clear hqq hbr;have eR2:=E4 v d0 Y qq hY (by omega) HQ.o;have hqq2:=Eh v d0 Y hv hd0;rw [<-HQ.o] at hqq2;obtain ⟨t,ht⟩:∃ t,(v*4294967296+d0)%Y=t:=⟨_,rfl⟩;rw [ht] at eR2;have HT:=Ad ht;clear ht;go_wp2_with fail;refine bodyPost_ret (v:=.tuple #[.int .u64 ((q1*4294967296+qq:Nat):Int),.int .u64 ((t/2^s:Nat):Int)]) (by simp [results,Tryz.results205,go_sem]) rfl ⟨q1,qq,v,t,rfl,HQ1.o,HV.o,HQ.o,HT.o,0,rfl⟩
      ·have hp3:q*yn0≤4294967296*4294967295:=Nat.mul_le_mul (by omega) (by omega);have hA':decide ((4294967296:Int)≤(q:Int))=false:=decide_eq_false (by omega);have hm1:(q:Int)*(yn0:Int)=((q*yn0:Nat):Int):=(Int.natCast_mul _ _).symm;have hm2:(4294967296:Int)*(r:Int)=((4294967296*r:Nat):Int):=by omega
       have hm3:((4294967296*r:Nat):Int)+(d0:Int)=((4294967296*r+d0:Nat):Int):=by omega
       have hm4:4294967296*r+d0<18446744073709551616:=by omega
       have hm5:4294967296*r<18446744073709551616:=by omega
       have HM:Hid (4294967296*r+d0<q*yn0\/q*yn0<=4294967296*r+d0):=Nat.lt_or_ge _ _;have HF1:Hid (4294967296*r+d0<q*yn0->1<=q/\Gv v d0 yn1 yn0 (q-1) (r+yn1)):=λhB=>Hr HI.o HU.o hd0 (by omega) (Or.inr hB)
       have HF2:Hid (q*yn0<=4294967296*r+d0->q=(v*4294967296+d0)/(yn1*4294967296+yn0)):=λhB=>Mb HI.o (by omega) hB
       clear hp2 hA;generalize 4294967296*r+d0=z at *;generalize 4294967296*r=zr at *;generalize q*yn0=pq at *;by_cases hB:z<pq
       ·have hl:=HF1.out hB;have hB':decide (z<pq)=true:=decide_eq_true hB;obtain ⟨hq1,hI'⟩:=hl;have HI':=Ad hI'
        skip
        clear hI';obtain ⟨r1,hr1⟩:∃ r1,r+yn1=r1:=⟨_,rfl⟩;obtain ⟨qq,hqe⟩:∃ qq,q-1=qq:=⟨_,rfl⟩;rw [hr1,hqe] at HI';have hri:(r:Int)+(yn1:Int)=(r1:Int):=by omega
        have hqi:(q:Int)-1=(qq:Int):=by omega
        have hqm:qq<q:=by omega
        clear hr1 hqe;by_cases hbr:r1<4294967296
        ·have hbr':decide ((4294967296:Int)≤(r1:Int))=false:=decide_eq_false (by omega);have HBR:=Ad hbr;clear hbr;go_wp2_with fail
         go_round
         case rel=>exact ⟨qq,r1,rfl,rfl,HI'.o,HBR.o,by omega⟩
         case measure=>simp [intOf];omega
        ·have hqq:=Gq HI'.o HU.o hyn0 (by omega) (by omega);rw [HYY.o] at hqq;have HQ:=Ad hqq;have hbr':decide ((4294967296:Int)<=(r1:Int))=true:=decide_eq_true (by omega);clear hqq hbr;have eR2:=E4 v d0 Y qq hY (by omega) HQ.o;have hqq2:=Eh v d0 Y hv hd0;rw [<-HQ.o] at hqq2;obtain ⟨t,ht⟩:∃ t,(v*4294967296+d0)%Y=t:=⟨_,rfl⟩;rw [ht] at eR2;have HT:=Ad ht;clear ht;go_wp2_with fail;refine bodyPost_ret (v:=.tuple #[.int .u64 ((q1*4294967296+qq:Nat):Int),.int .u64 ((t/2^s:Nat):Int)]) (by simp [results,Tryz.results205,go_sem]) rfl ⟨q1,qq,v,t,rfl,HQ1.o,HV.o,HQ.o,HT.o,0,rfl⟩
       ·have hB':decide (z<pq)=false:=decide_eq_false hB;have hqq:=HF2.o (by omega);rw [HYY.o] at hqq;have HQ:=Ad hqq;clear hqq;obtain ⟨qq,rfl⟩:∃ x,x=q:=⟨q,rfl⟩;have eR2:=E4 v d0 Y qq hY (by omega) HQ.o;have hqq2:=Eh v d0 Y hv hd0;rw [<-HQ.o] at hqq2;obtain ⟨t,ht⟩:∃ t,(v*4294967296+d0)%Y=t:=⟨_,rfl⟩;rw [ht] at eR2;have HT:=Ad ht;clear ht;go_wp2_with fail;refine bodyPost_ret (v:=.tuple #[.int .u64 ((q1*4294967296+qq:Nat):Int),.int .u64 ((t/2^s:Nat):Int)]) (by simp [results,Tryz.results205,go_sem]) rfl ⟨q1,qq,v,t,rfl,HQ1.o,HV.o,HQ.o,HT.o,0,rfl⟩
   ·have hp3:q*yn0≤4294967296*4294967295:=Nat.mul_le_mul (by omega) (by omega);have hA':decide ((4294967296:Int)≤(q:Int))=false:=decide_eq_false (by omega);have hm1:(q:Int)*(yn0:Int)=((q*yn0:Nat):Int):=(Int.natCast_mul _ _).symm;have hm2:(4294967296:Int)*(r:Int)=((4294967296*r:Nat):Int):=by omega
    have hm3:((4294967296*r:Nat):Int)+(d1:Int)=((4294967296*r+d1:Nat):Int):=by omega
    have hm4:4294967296*r+d1<18446744073709551616:=by omega
    have hm5:4294967296*r<18446744073709551616:=by omega
    have HM:Hid (4294967296*r+d1<q*yn0\/q*yn0<=4294967296*r+d1):=Nat.lt_or_ge _ _;have HF1:Hid (4294967296*r+d1<q*yn0->1<=q/\Gv u d1 yn1 yn0 (q-1) (r+yn1)):=λhB=>Hr HI.o HU.o hd1 (by omega) (Or.inr hB)
    have HF2:Hid (q*yn0<=4294967296*r+d1->q=(u*4294967296+d1)/(yn1*4294967296+yn0)):=λhB=>Mb HI.o (by omega) hB
    clear hp2 hA;generalize 4294967296*r+d1=z at *;generalize 4294967296*r=zr at *;generalize q*yn0=pq at *;by_cases hB:z<pq
    ·have hl:=HF1.out hB;have hB':decide (z<pq)=true:=decide_eq_true hB;obtain ⟨hq1,hI'⟩:=hl;have HI':=Ad hI'
     skip
     clear hI';obtain ⟨r1,hr1⟩:∃ r1,r+yn1=r1:=⟨_,rfl⟩;obtain ⟨qq,hqe⟩:∃ qq,q-1=qq:=⟨_,rfl⟩;rw [hr1,hqe] at HI';have hri:(r:Int)+(yn1:Int)=(r1:Int):=by omega
     have hqi:(q:Int)-1=(qq:Int):=by omega
     have hqm:qq<q:=by omega
     clear hr1 hqe;by_cases hbr:r1<4294967296
     ·have hbr':decide ((4294967296:Int)≤(r1:Int))=false:=decide_eq_false (by omega);have HBR:=Ad hbr;clear hbr;go_wp2_with fail
      go_round
      case rel=>exact ⟨qq,r1,rfl,rfl,HI'.o,HBR.o,by omega⟩
      case measure=>simp [intOf];omega
     ·have hqq:=Gq HI'.out HU.out hyn0 (by omega) (by omega);rw [HYY.out] at hqq;have HQ:=Ad hqq;have hbr':decide ((4294967296:Int)≤(r1:Int))=true:=decide_eq_true (by omega);clear hqq hbr;have eR1:=E4 u d1 Y qq hY (by omega) HQ.out;have hq1b:=Eh u d1 Y sh2 hd1;have hv:(u*4294967296+d1)%Y<Y:=Nat.mod_lt _ (by omega);rw [←HQ.out] at hq1b;obtain ⟨v,hve⟩:∃ v,(u*4294967296+d1)%Y=v:=⟨_,rfl⟩;rw [hve] at eR1 hv;have HV:=Ad hve;obtain ⟨q1,rfl⟩:∃ x,x=qq:=⟨qq,rfl⟩;have HQ1:=HQ;clear hve HQ;have HU2:Hid (v<yn1*4294967296+yn0):=by show _<_;rw [HYY.out];exact hv
      have hS:=M4 v d0 yn1 yn0 hd0 (by omega);have hqn:v/yn1*yn1<=v:=Nat.div_mul_le_self _ _;have hqb:v/yn1<=8589934592:=by
       rw [Nat.div_le_iff_le_mul_add_pred (by omega)];have:2147483648*8589934592<=yn1*8589934592:=Fh _ hyn1;omega
      have hr0:v%yn1<yn1:=Nat.mod_lt _ (by omega);have eq0:(v:Int)/(yn1:Int)=((v/yn1:Nat):Int):=rfl;generalize v/yn1=q0 at *;generalize v%yn1=r0 at *;have hp0:(0:Int)<=(q0:Int)*(yn1:Int):=by rw [<-Int.natCast_mul];omega
      have hp1:(q0:Int)*(yn1:Int)<=(v:Int):=by rw [<-Int.natCast_mul];omega
      have er0:(v:Int)-(q0:Int)*(yn1:Int)=(r0:Int):=by
       have:=hS.sum;rw [<-Int.natCast_mul];omega
      have HS:=Ad hS;clear hS HU;have HU:=HU2;go_wp2_with fail
      go_loop [18,16] (λa b=>∃ q r:Nat,a=.int .u64 q/\b=.int .u64 r/\Gv v d0 yn1 yn0 q r/\r<4294967296/\q<=8589934592) (λa _=>(intOf a).toNat)
      case atStart=>exact ⟨_,_,rfl,rfl,HS.o,by omega,hqb⟩
      case round =>
       obtain ⟨q,r,rfl,rfl,hI,hr,hq⟩:=hrel;have HI:=Ad hI;clear hI HS hqn hqb eq0 hr0 hp0 hp1 er0 ;have hp2:(0:Int)<=(q:Int)*(yn0:Int):=by rw [<-Int.natCast_mul];omega
       by_cases hA:4294967296<=q
       ·have hA':decide ((4294967296:Int)≤(q:Int))=true:=decide_eq_true (by omega);have hl:=Hr HI.out HU.out hd0 (by omega) (Or.inl hA);obtain ⟨hq1,hI'⟩:=hl;have HI':=Ad hI';clear hA;clear hI';obtain ⟨r1,hr1⟩:∃ r1,r+yn1=r1:=⟨_,rfl⟩;obtain ⟨qq,hqe⟩:∃ qq,q-1=qq:=⟨_,rfl⟩;rw [hr1,hqe] at HI';have hri:(r:Int)+(yn1:Int)=(r1:Int):=by omega
        have hqi:(q:Int)-1=(qq:Int):=by omega
        have hqm:qq<q:=by omega
        clear hr1 hqe;by_cases hbr:r1<4294967296
        ·have hbr':decide ((4294967296:Int)≤(r1:Int))=false:=decide_eq_false (by omega);have HBR:=Ad hbr;clear hbr;go_wp2_with fail
         go_round
         case rel=>exact ⟨qq,r1,rfl,rfl,HI'.o,HBR.o,by omega⟩
         case measure=>simp [intOf];omega
        ·have hqq:=Gq HI'.o HU.o hyn0 (by omega) (by omega);rw [HYY.o] at hqq;have HQ:=Ad hqq;have hbr':decide ((4294967296:Int)<=(r1:Int))=true:=decide_eq_true (by omega);clear hqq hbr;have eR2:=E4 v d0 Y qq hY (by omega) HQ.o;have hqq2:=Eh v d0 Y hv hd0;rw [<-HQ.o] at hqq2;obtain ⟨t,ht⟩:∃ t,(v*4294967296+d0)%Y=t:=⟨_,rfl⟩;rw [ht] at eR2;have HT:=Ad ht;clear ht;go_wp2_with fail;refine bodyPost_ret (v:=.tuple #[.int .u64 ((q1*4294967296+qq:Nat):Int),.int .u64 ((t/2^s:Nat):Int)]) (by simp [results,Tryz.results205,go_sem]) rfl ⟨q1,qq,v,t,rfl,HQ1.o,HV.o,HQ.o,HT.o,0,rfl⟩
       ·have hp3:q*yn0≤4294967296*4294967295:=Nat.mul_le_mul (by omega) (by omega);have hA':decide ((4294967296:Int)≤(q:Int))=false:=decide_eq_false (by omega);have hm1:(q:Int)*(yn0:Int)=((q*yn0:Nat):Int):=(Int.natCast_mul _ _).symm;have hm2:(4294967296:Int)*(r:Int)=((4294967296*r:Nat):Int):=by omega
        have hm3:((4294967296*r:Nat):Int)+(d0:Int)=((4294967296*r+d0:Nat):Int):=by omega
        have hm4:4294967296*r+d0<18446744073709551616:=by omega
        have hm5:4294967296*r<18446744073709551616:=by omega
        have HM:Hid (4294967296*r+d0<q*yn0\/q*yn0<=4294967296*r+d0):=Nat.lt_or_ge _ _;have HF1:Hid (4294967296*r+d0<q*yn0->1<=q/\Gv v d0 yn1 yn0 (q-1) (r+yn1)):=λhB=>Hr HI.o HU.o hd0 (by omega) (Or.inr hB)
        have HF2:Hid (q*yn0<=4294967296*r+d0->q=(v*4294967296+d0)/(yn1*4294967296+yn0)):=λhB=>Mb HI.o (by omega) hB
        clear hp2 hA;generalize 4294967296*r+d0=z at *;generalize 4294967296*r=zr at *;generalize q*yn0=pq at *;by_cases hB:z<pq
        ·have hl:=HF1.out hB;have hB':decide (z<pq)=true:=decide_eq_true hB;obtain ⟨hq1,hI'⟩:=hl;have HI':=Ad hI'
         skip
         clear hI';obtain ⟨r1,hr1⟩:∃ r1,r+yn1=r1:=⟨_,rfl⟩;obtain ⟨qq,hqe⟩:∃ qq,q-1=qq:=⟨_,rfl⟩;rw [hr1,hqe] at HI';have hri:(r:Int)+(yn1:Int)=(r1:Int):=by omega
         have hqi:(q:Int)-1=(qq:Int):=by omega
         have hqm:qq<q:=by omega
         clear hr1 hqe;by_cases hbr:r1<4294967296
         ·have hbr':decide ((4294967296:Int)≤(r1:Int))=false:=decide_eq_false (by omega);have HBR:=Ad hbr;clear hbr;go_wp2_with fail
          go_round
          case rel=>exact ⟨qq,r1,rfl,rfl,HI'.o,HBR.o,by omega⟩
          case measure=>simp [intOf];omega
         ·have hqq:=Gq HI'.o HU.o hyn0 (by omega) (by omega);rw [HYY.o] at hqq;have HQ:=Ad hqq;have hbr':decide ((4294967296:Int)<=(r1:Int))=true:=decide_eq_true (by omega);clear hqq hbr;have eR2:=E4 v d0 Y qq hY (by omega) HQ.o;have hqq2:=Eh v d0 Y hv hd0;rw [<-HQ.o] at hqq2;obtain ⟨t,ht⟩:∃ t,(v*4294967296+d0)%Y=t:=⟨_,rfl⟩;rw [ht] at eR2;have HT:=Ad ht;clear ht;go_wp2_with fail;refine bodyPost_ret (v:=.tuple #[.int .u64 ((q1*4294967296+qq:Nat):Int),.int .u64 ((t/2^s:Nat):Int)]) (by simp [results,Tryz.results205,go_sem]) rfl ⟨q1,qq,v,t,rfl,HQ1.o,HV.o,HQ.o,HT.o,0,rfl⟩
        ·have hB':decide (z<pq)=false:=decide_eq_false hB;have hqq:=HF2.o (by omega);rw [HYY.o] at hqq;have HQ:=Ad hqq;clear hqq;obtain ⟨qq,rfl⟩:∃ x,x=q:=⟨q,rfl⟩;have eR2:=E4 v d0 Y qq hY (by omega) HQ.o;have hqq2:=Eh v d0 Y hv hd0;rw [<-HQ.o] at hqq2;obtain ⟨t,ht⟩:∃ t,(v*4294967296+d0)%Y=t:=⟨_,rfl⟩;rw [ht] at eR2;have HT:=Ad ht;clear ht;go_wp2_with fail;refine bodyPost_ret (v:=.tuple #[.int .u64 ((q1*4294967296+qq:Nat):Int),.int .u64 ((t/2^s:Nat):Int)]) (by simp [results,Tryz.results205,go_sem]) rfl ⟨q1,qq,v,t,rfl,HQ1.o,HV.o,HQ.o,HT.o,0,rfl⟩
    ·have hB':decide (z<pq)=false:=decide_eq_false hB;have hqq:=HF2.out (by omega);rw [HYY.out] at hqq;have HQ:=Ad hqq;clear hqq;obtain ⟨qq,rfl⟩:∃ x,x=q:=⟨q,rfl⟩;have eR1:=E4 u d1 Y qq hY (by omega) HQ.out;have hq1b:=Eh u d1 Y sh2 hd1;have hv:(u*4294967296+d1)%Y<Y:=Nat.mod_lt _ (by omega);rw [←HQ.out] at hq1b;obtain ⟨v,hve⟩:∃ v,(u*4294967296+d1)%Y=v:=⟨_,rfl⟩;rw [hve] at eR1 hv;have HV:=Ad hve;obtain ⟨q1,rfl⟩:∃ x,x=qq:=⟨qq,rfl⟩;have HQ1:=HQ;clear hve HQ;have HU2:Hid (v<yn1*4294967296+yn0):=by show _<_;rw [HYY.out];exact hv
     have hS:=M4 v d0 yn1 yn0 hd0 (by omega);have hqn:v/yn1*yn1<=v:=Nat.div_mul_le_self _ _;have hqb:v/yn1<=8589934592:=by
      rw [Nat.div_le_iff_le_mul_add_pred (by omega)];have:2147483648*8589934592<=yn1*8589934592:=Fh _ hyn1;omega
     have hr0:v%yn1<yn1:=Nat.mod_lt _ (by omega);have eq0:(v:Int)/(yn1:Int)=((v/yn1:Nat):Int):=rfl;generalize v/yn1=q0 at *;generalize v%yn1=r0 at *;have hp0:(0:Int)<=(q0:Int)*(yn1:Int):=by rw [<-Int.natCast_mul];omega
     have hp1:(q0:Int)*(yn1:Int)<=(v:Int):=by rw [<-Int.natCast_mul];omega
     have er0:(v:Int)-(q0:Int)*(yn1:Int)=(r0:Int):=by
      have:=hS.sum;rw [<-Int.natCast_mul];omega
     have HS:=Ad hS;clear hS HU;have HU:=HU2;go_wp2_with fail
     go_loop [18,16] (λa b=>∃ q r:Nat,a=.int .u64 q/\b=.int .u64 r/\Gv v d0 yn1 yn0 q r/\r<4294967296/\q<=8589934592) (λa _=>(intOf a).toNat)
     case atStart=>exact ⟨_,_,rfl,rfl,HS.o,by omega,hqb⟩
     case round =>
      obtain ⟨q,r,rfl,rfl,hI,hr,hq⟩:=hrel;have HI:=Ad hI;clear hI HS hqn hqb eq0 hr0 hp0 hp1 er0 ;have hp2:(0:Int)<=(q:Int)*(yn0:Int):=by rw [<-Int.natCast_mul];omega
      by_cases hA:4294967296<=q
      ·have hA':decide ((4294967296:Int)≤(q:Int))=true:=decide_eq_true (by omega);have hl:=Hr HI.out HU.out hd0 (by omega) (Or.inl hA);obtain ⟨hq1,hI'⟩:=hl;have HI':=Ad hI';clear hA;clear hI';obtain ⟨r1,hr1⟩:∃ r1,r+yn1=r1:=⟨_,rfl⟩;obtain ⟨qq,hqe⟩:∃ qq,q-1=qq:=⟨_,rfl⟩;rw [hr1,hqe] at HI';have hri:(r:Int)+(yn1:Int)=(r1:Int):=by omega
       have hqi:(q:Int)-1=(qq:Int):=by omega
       have hqm:qq<q:=by omega
       clear hr1 hqe;by_cases hbr:r1<4294967296
       ·have hbr':decide ((4294967296:Int)≤(r1:Int))=false:=decide_eq_false (by omega);have HBR:=Ad hbr;clear hbr;go_wp2_with fail
        go_round
        case rel=>exact ⟨qq,r1,rfl,rfl,HI'.o,HBR.o,by omega⟩
        case measure=>simp [intOf];omega
       ·have hqq:=Gq HI'.o HU.o hyn0 (by omega) (by omega);rw [HYY.o] at hqq;have HQ:=Ad hqq;have hbr':decide ((4294967296:Int)<=(r1:Int))=true:=decide_eq_true (by omega);clear hqq hbr;have eR2:=E4 v d0 Y qq hY (by omega) HQ.o;have hqq2:=Eh v d0 Y hv hd0;rw [<-HQ.o] at hqq2;obtain ⟨t,ht⟩:∃ t,(v*4294967296+d0)%Y=t:=⟨_,rfl⟩;rw [ht] at eR2;have HT:=Ad ht;clear ht;go_wp2_with fail;refine bodyPost_ret (v:=.tuple #[.int .u64 ((q1*4294967296+qq:Nat):Int),.int .u64 ((t/2^s:Nat):Int)]) (by simp [results,Tryz.results205,go_sem]) rfl ⟨q1,qq,v,t,rfl,HQ1.o,HV.o,HQ.o,HT.o,0,rfl⟩
      ·have hp3:q*yn0≤4294967296*4294967295:=Nat.mul_le_mul (by omega) (by omega);have hA':decide ((4294967296:Int)≤(q:Int))=false:=decide_eq_false (by omega);have hm1:(q:Int)*(yn0:Int)=((q*yn0:Nat):Int):=(Int.natCast_mul _ _).symm;have hm2:(4294967296:Int)*(r:Int)=((4294967296*r:Nat):Int):=by omega
       have hm3:((4294967296*r:Nat):Int)+(d0:Int)=((4294967296*r+d0:Nat):Int):=by omega
       have hm4:4294967296*r+d0<18446744073709551616:=by omega
       have hm5:4294967296*r<18446744073709551616:=by omega
       have HM:Hid (4294967296*r+d0<q*yn0\/q*yn0<=4294967296*r+d0):=Nat.lt_or_ge _ _;have HF1:Hid (4294967296*r+d0<q*yn0->1<=q/\Gv v d0 yn1 yn0 (q-1) (r+yn1)):=λhB=>Hr HI.o HU.o hd0 (by omega) (Or.inr hB)
       have HF2:Hid (q*yn0<=4294967296*r+d0->q=(v*4294967296+d0)/(yn1*4294967296+yn0)):=λhB=>Mb HI.o (by omega) hB
       clear hp2 hA;generalize 4294967296*r+d0=z at *;generalize 4294967296*r=zr at *;generalize q*yn0=pq at *;by_cases hB:z<pq
       ·have hl:=HF1.out hB;have hB':decide (z<pq)=true:=decide_eq_true hB;obtain ⟨hq1,hI'⟩:=hl;have HI':=Ad hI'
        skip
        clear hI';obtain ⟨r1,hr1⟩:∃ r1,r+yn1=r1:=⟨_,rfl⟩;obtain ⟨qq,hqe⟩:∃ qq,q-1=qq:=⟨_,rfl⟩;rw [hr1,hqe] at HI';have hri:(r:Int)+(yn1:Int)=(r1:Int):=by omega
        have hqi:(q:Int)-1=(qq:Int):=by omega
        have hqm:qq<q:=by omega
        clear hr1 hqe;by_cases hbr:r1<4294967296
        ·have hbr':decide ((4294967296:Int)≤(r1:Int))=false:=decide_eq_false (by omega);have HBR:=Ad hbr;clear hbr;go_wp2_with fail
         go_round
         case rel=>exact ⟨qq,r1,rfl,rfl,HI'.o,HBR.o,by omega⟩
         case measure=>simp [intOf];omega
        ·have hqq:=Gq HI'.o HU.o hyn0 (by omega) (by omega);rw [HYY.o] at hqq;have HQ:=Ad hqq;have hbr':decide ((4294967296:Int)<=(r1:Int))=true:=decide_eq_true (by omega);clear hqq hbr;have eR2:=E4 v d0 Y qq hY (by omega) HQ.o;have hqq2:=Eh v d0 Y hv hd0;rw [<-HQ.o] at hqq2;obtain ⟨t,ht⟩:∃ t,(v*4294967296+d0)%Y=t:=⟨_,rfl⟩;rw [ht] at eR2;have HT:=Ad ht;clear ht;go_wp2_with fail;refine bodyPost_ret (v:=.tuple #[.int .u64 ((q1*4294967296+qq:Nat):Int),.int .u64 ((t/2^s:Nat):Int)]) (by simp [results,Tryz.results205,go_sem]) rfl ⟨q1,qq,v,t,rfl,HQ1.o,HV.o,HQ.o,HT.o,0,rfl⟩
       ·have hB':decide (z<pq)=false:=decide_eq_false hB;have hqq:=HF2.o (by omega);rw [HYY.o] at hqq;have HQ:=Ad hqq;clear hqq;obtain ⟨qq,rfl⟩:∃ x,x=q:=⟨q,rfl⟩;have eR2:=E4 v d0 Y qq hY (by omega) HQ.o;have hqq2:=Eh v d0 Y hv hd0;rw [<-HQ.o] at hqq2;obtain ⟨t,ht⟩:∃ t,(v*4294967296+d0)%Y=t:=⟨_,rfl⟩;rw [ht] at eR2;have HT:=Ad ht;clear ht;go_wp2_with fail;refine bodyPost_ret (v:=.tuple #[.int .u64 ((q1*4294967296+qq:Nat):Int),.int .u64 ((t/2^s:Nat):Int)]) (by simp [results,Tryz.results205,go_sem]) rfl ⟨q1,qq,v,t,rfl,HQ1.o,HV.o,HQ.o,HT.o,0,rfl⟩
theorem Wq (u:Value)(n:Nat):(Builtin.zeroCells #[u] n).toList=List.replicate n u:=by
 unfold Builtin.zeroCells;apply List.ext_getElem
 ·simp
 ·intro i h1 h2;have:i%1=0:=Nat.mod_one i;simp [this]
theorem aE (n:Nat)(x:Nat):∀ u∈List.replicate n (Value.int .u64 x),u.oneCell'=true:=by
 intro u hu;rw [(List.mem_replicate.1 hu).2];rfl
theorem aI (hv:Lim w v xs)(n:Nat)(hl:xs.length<=n)(hn:n<=200000) :
 Calls Tryz.prog 196 #[v,.int .i64 n] w λe w'=>∃ v',e=.returned v'/\Own w' w.heap.size v' (xs++List.replicate (n-xs.length) 0)/\Kept w w':=by
 have hv':=hv;obtain ⟨hs,A,c,rfl,hc,hA⟩:=hv;have HV:=Ad hv';clear hA hv' hs;generalize hlen:xs.length=l at *;have HL:=Ad hlen;clear hlen;obtain ⟨i0,hi,hz0,hz1,hz2⟩:=info_parts Sy;have ez:=Wq (.int .u64 0) (n-l);have HZ:=Ad ez;clear ez;go_enter Tryz.func196,Tryz.ntmps196
 go_wp2_with (first
  | (go_at_call 81;refine (O9 HV.o (by rw [HL.o];omega)).mono ?_;rintro e w1 ⟨v1,rfl,ho,hk⟩;have HO:=Ad ho;have HK:=Ad hk;clear ho hk)
  | (at_builtin;go_must (refine Hx _ rfl _ _ 26 3 rfl w.heap.size 55 i0 (.int .u64 0) .i64 .i64 Tryz.underlying26 Tryz.underlying3 hi hz0 (by rw [hz1];decide) (by rw [hz1];rfl) _ xs.length (xs.map U) rfl (by rw [hz1];exact HO.o) (n-l) _ rfl (by omega) (by show ∀ u∈(Builtin.zeroCells #[_] _).toList,_;rw [HZ.o];exact aE _ _) (by unfold maxLen;rw [HL.o];omega) (by rw [HL.o,hz2];omega) HK.o.size ?_)))
 intro v' w2 hown2 hgrow2;have ho:Hid (Own w2 w.heap.size v' (xs++List.replicate (n-l) 0)):=by
  refine Om (n:=xs.length+(n-l)) ?_;have h2:=hown2;rw [HZ.o] at h2;rw [List.map_replicate];exact h2
 have hk:Hid (Below w.heap.size w w2):=Below.grown HK.o hgrow2 HK.o.size (λk hk=>(World.ownsRow.lt HO.o k hk).1);clear hown2 hgrow2;go_wp2_with fail;go_ret;exact ⟨_,rfl,ho.o,hk.o⟩
theorem lz (x:Nat):Bq [x]=x:=by simp [Bq]
theorem Yt (hx:x<18446744073709551616)(hg:g<w.heap.size)(hc:w.cell? ⟨g,0,none⟩=some (.int .u64 x))(c:Nat)(hc1:1<=c):Lim w (.slice (some ⟨g,0,none⟩) 1 c) [x]:=by
 refine ⟨λy hy=>?_,some ⟨g,0,none⟩,c,rfl,hc1,λ_=>⟨g,0,rfl,hg,λi hi=>?_⟩⟩
 ·rw [List.mem_singleton.1 hy];exact hx
 ·obtain rfl:i=0:=by simp at hi;omega
  exact hc
theorem gT (hv:Lim w v xs)(b:Nat)(hb:0<b)(hb64:b<18446744073709551616)(hl:xs.length<=100000) :
 Calls Tryz.prog 195 #[v,.int .u64 b] w λe w'=>∃ v1 v2,e=.returned (.tuple #[v1,v2])/\Lim w' v1 (Al (Bq xs/b))/\Lim w' v2 (Al (Bq xs%b))/\Kept w w':=by
 have hall:=nR xs hv.1 b hb;rw [<-hall.1,<-hall.2];clear hall;obtain ⟨hs,A,c,rfl,hc,hA⟩:=hv;have HS:=Ad hs;have HA:=Ad hA;have hsm:=Xl xs hs b hb;have HR:=Ad (Vk xs b hb);have hln:=Nj xs b;have hst:=Mm xs b;have hz:Rt xs b 0=(List.replicate xs.length 0,0):=rfl;clear hs hA;generalize hlen:xs.length=l at *;have HSM:=Ad hsm;have HLN:=Ad hln;have HST:=Ad hst;have HZ:=Ad hz;have HL:=Ad hlen;clear hlen hsm hln hst hz;obtain ⟨i0,hi,hz0,hz1,hz2⟩:=info_parts Sy;go_enter Tryz.func195,Tryz.ntmps195
 go_wp2_with (at_make;go_must (refine wpList_make_full _ rfl _ _ 26 rfl w.heap.size 55 i0 (.int .u64 0) 1 Tryz.underlying26 hi hz0 hz1 .i64 .i64 _ _ l rfl rfl (by omega) (by omega) (by rw [hz2];omega) (by unfold maxLen;omega) (by simp) ?_))
 intro w1 hown1 hgrow1;have ho:Hid (Own w1 w.heap.size (.slice (some ⟨w.heap.size,0,none⟩) l l) (Rt xs b 0).1):=by rw [HZ.o];exact Ol hown1
 have hk:Hid (Below w.heap.size w w1):=Below.grown (Below.refl _ _) hgrow1 (by simp) (by intro k hk;cases hk);clear hown1 hgrow1;go_wp2_with fail;generalize hBase:w.heap.size=B at *;have HBASE:=Ad hBase;clear hBase
 go_loopw [7,8] (λr t wr=>∃ k:Nat,k<=l/\t=.int .i64 ((k:Int)-1)/\r=.int .u64 (Rt xs b (l-k)).2/\Own wr B (.slice (some ⟨B,0,none⟩) l l) (Rt xs b (l-k)).1/\Below B w wr) (λ_ t _=>(intOf t+1).toNat)
 case atStart=>exact ⟨l,Aq _,rfl,by rw [Nat.sub_self,HZ.o];rfl,by rw [Nat.sub_self];exact ho.o,hk.o⟩
 case round =>
  obtain ⟨k,hkl,rfl,rfl,hO,hB⟩:=hrel;have HO:=Ad hO;have HB:=Ad hB;clear hO hB;cases k with
  | succ k =>
    obtain ⟨bb,off,rfl,hbb,hcell⟩:=HA.o (by omega);have hck:=(HB.o.cell (p:=⟨bb,off+k,none⟩) hbb).trans (hcell k (by omega));clear hcell;have ho1:=HO.o.cell k (by rw [HLN.o];omega);have hf1:=HO.o.frozen k;have hr:=HR.o (l-(k+1));have hx:=Cc HS.o k;have HS1:Hid (Rt xs b (l-k)=((Rt xs b (l-(k+1))).1.set k (((Rt xs b (l-(k+1))).2*18446744073709551616+Ba xs k)/b),((Rt xs b (l-(k+1))).2*18446744073709551616+Ba xs k)%b)):=by
     show _=_
     have:=HST.o (l-(k+1));rwa [show l-(k+1)+1=l-k by omega,show l-1-(l-(k+1))=k by omega] at this
    generalize Rt xs b (l-(k+1))=s at *;obtain ⟨o,r⟩:=s;simp only at *;generalize Ba xs k=x at *;generalize Ba o k=y at *;have hdiv:=λw=>eI r x b hb64 hx hr w
    have HD:=Ad hdiv;clear hdiv;obtain ⟨qd,hqd⟩:∃ qd,(r*18446744073709551616+x)/b=qd:=⟨_,rfl⟩;obtain ⟨rd,hrd⟩:∃ rd,(r*18446744073709551616+x)%b=rd:=⟨_,rfl⟩;rw [hqd,hrd] at HD HS1;clear hqd hrd
    go_wp2_with (go_at_call 205;refine (HD.o _).mono ?_;rintro e w' ⟨rfl,nd,rfl⟩)
    go_roundw
    case rel=>exact ⟨k,by omega,by go_num,by rw [HS1.o],by rw [HS1.o];exact HO.o.stored _ _,(below_drewN HB.o _).setCell (Aq _) _⟩
    case measure=>simp [intOf]
  | zero =>
    have hlim:=HO.o.lim (HSM.o _);rw [Nat.sub_zero] at hlim;have hr:=HR.o l;rw [Nat.sub_zero] at HO ⊢;have hlen:=HLN.o l;generalize hsE:Rt xs b l=s at *;obtain ⟨o,r⟩:=s;have HSE:=Ad hsE;clear hsE;simp only at *;have HLM:=Ad hlim;clear hlim
    go_wp2_with (fail)
    refine (La HLM.o (by rw [hlen];omega)).mono ?_;rintro e w' ⟨v1,rfl,hv1,rfl⟩;have HV1:=Ad hv1;clear hv1
    go_wp2_with (fail)
    have hl1:Lim (wr.alloc (.cells #[.int .u64 r] 55)) (.slice (some ⟨wr.heap.size,0,none⟩) 1 1) [r]:=Yt (by omega) (by simp) (by simp [go_sem]) 1 (Aq _);have hk1:Hid (Kept wr (wr.alloc (.cells #[.int .u64 r] 55))):=(Below.refl _ _).alloc (Aq _) _;have HL1:=Ad hl1;clear hl1;refine (La HL1.o (by simp)).mono ?_;rintro e w' ⟨v2,rfl,hv2,rfl⟩;have HV2:=Ad hv2;clear hv2
    go_wp2_with (fail)
    refine bodyPost_ret (v:=.tuple #[v1,v2]) (by simp [results,Tryz.results195,go_sem]) rfl ⟨v1,v2,rfl,by rw [HSE.o];exact HV1.o.kept hk1.o,?_,?_⟩
    ·have:=HV2.o;rw [lz] at this;rw [HSE.o];exact this
    ·rw [Kept,HBASE.o];exact HB.o.alloc (by rw [<-HBASE.o];exact HB.o.size) _
theorem nw (pre wl post:List Nat)(k:Nat)(hk:k<wl.length):Ba (pre++(wl++post)) (pre.length+k)=Ba wl k:=by
 unfold Ba;rw [Da,Da,Gk (by omega),Nat.add_sub_cancel_left,Gf hk]
theorem nP (pre wl post:List Nat)(k y:Nat)(hk:k<wl.length):(pre++(wl++post)).set (pre.length+k) y=pre++(wl.set k y++post):=by
 rw [List.set_append_right _ _ (by omega),Nat.add_sub_cancel_left,List.set_append_left _ _ hk]
def Win (w:World) (base g N cap:Nat) (pre wl post:List Nat):Prop:=Own w base (.slice (some ⟨g,0,none⟩) N cap) (pre++(wl++post))
theorem Win.cell (h:Win w base g N cap pre wl post)(k:Nat)(hk:k<wl.length):w.cell? ⟨g,pre.length+k,none⟩=some (.int .u64 (Ba wl k)):=by
 rw [<-nw pre wl post k hk];exact Own.cell h _ (by simp;omega)
theorem Win.frozen (h:Win w base g N cap pre wl post)(k:Nat):w.frozen? ⟨g,k,none⟩=false:=Own.frozen h k
theorem Win.stored (h:Win w base g N cap pre wl post)(k y:Nat)(hk:k<wl.length):Win (w.setCell ⟨g,pre.length+k,none⟩ (U y)) base g N cap pre (wl.set k y) post:=by
 unfold Win;rw [<-nP pre wl post k y hk];exact Own.stored h _ y
theorem Win.drewN (h:Win w base g N cap pre wl post)(n:Nat):Win (w.drewN n) base g N cap pre wl post:=h
structure Only (g:Nat) (w w':World):Prop where
 os:w'.os=w.os
 tape:w'.tape=w.tape
 output:w'.output=w.output
 size:w'.heap.size=w.heap.size
 block:∀ k,k≠g->w'.heap[k]?=w.heap[k]?
theorem Only.refl (g:Nat)(w:World):Only g w w:=⟨rfl,rfl,rfl,rfl,λ_ _=>rfl⟩
theorem Only.drewN (h:Only g a w)(n:Nat):Only g a (w.drewN n):=⟨h.os,h.tape,h.output,h.size,h.block⟩
theorem Only.setCell (h:Only g a w)(k:Nat)(u:Value):Only g a (w.setCell ⟨g,k,none⟩ u) :=
 ⟨h.os,h.tape,h.output,by rw [<-h.size];simp [World.setCell],λj hj=>(Below.heap_setCell w ⟨g,k,none⟩ u j hj).trans (h.block j hj)⟩
theorem Only.cell (h:Only g a w){b k:Nat}(hb:b≠g):w.cell? ⟨b,k,none⟩=a.cell? ⟨b,k,none⟩:=World.cell?_of_block (h.block b hb)
def lF (base g N cap:Nat) (pre wl post vs:List Nat) (w:World) (e:Ending) (w':World):Prop :=
 e=.returned (.int .u64 (Bq wl/Bq vs:Nat))/\∃ wl',wl'.length=wl.length/\Small wl'/\Bq wl'=Bq wl%Bq vs/\Win w' base g N cap pre wl' post/\Only g w w'
def iq (wl vs:List Nat) (n:Nat) (w:World) (x r o:Value) (wx:World):Prop :=
 ∃ X R O:Nat,x=.int .u64 X/\r=.int .u64 R/\o=.int .u64 O/\DigInv wl vs n X (O*18446744073709551616+R)/\R<18446744073709551616/\O<=1/\∃ q,wx=w.drewN q
def oU (wl vs:List Nat) (w:World) (x:Value) (wx:World):Prop :=
 ∃ X:Nat,x=.int .u64 X/\X<18446744073709551616/\(X=Bq wl/Bq vs\/X=Bq wl/Bq vs+1)/\∃ q,wx=w.drewN q
theorem mc {gv cv c:Nat}{vs:List Nat}(hd:DigIn wl vs n)(hn:n<=100000)(_hj:pre.length<=200000)(hw:Win w base g N cap pre wl post)(hc:n+1<=c)(hcv:n<=cv)
 (hne:gv≠g) (hv:∀ i,i<n->w.cell? ⟨gv,i,none⟩=some (.int .u64 (Ba vs i))) :
 Calls Tryz.prog 197 #[.slice (some ⟨g,pre.length,none⟩) (n+1) c,.slice (some ⟨gv,0,none⟩) n cv] w (lF base g N cap pre wl post vs w):=by
 have hn2:=hd.n2;have hwl:=hd.wlen;have hvn:=hv (n-1) (by omega);have hvm:=hv (n-2) (by omega);have hun:=hw.cell n (by omega);have hum:=hw.cell (n-1) (by omega);have huk:=hw.cell (n-2) (by omega);have bvn:=Cc hd.vsm (n-1);have bvm:=Cc hd.vsm (n-2);have bun:=Cc hd.ws n;have bum:=Cc hd.ws (n-1);have buk:=Cc hd.ws (n-2);have btop:=hd.top;have btops:=hd.tops;have HD:=Ad hd;have HW:=Ad hw;have HV:=Ad hv;have HWL:=Ad hwl;have HS1:=Ad hd.start_lt;have HS2:=Ad hd.start_eq;clear hd hw hv hwl;obtain ⟨m,rfl⟩:∃ m,n=m+2:=⟨n-2,by omega⟩;simp only [Nat.add_sub_cancel,show m+2-1=m+1 by omega] at *
 generalize hun':Ba wl (m+2)=un at *;generalize hum':Ba wl (m+1)=um at *;generalize huk':Ba wl m=uk at *;generalize hvn':Ba vs (m+1)=vn at *;generalize hvm':Ba vs m=vm at *;generalize hj':pre.length=j at *;have HE:=Ad (And.intro hun' (And.intro hum' (And.intro huk' (And.intro hvn' (And.intro hvm' hj')))));clear hun' hum' huk' hvn' hvm' hj';go_enter Tryz.func197,Tryz.ntmps197;go_wp2_with fail
 go_quiet (fail)
 iterate 2 go_step
 have e0:((0:Nat):Int)=0:=rfl
 go_cut [6,7,8] (iq wl vs (m+2) w)
 case first =>
  by_cases hlt:un<vn
  ·have hinv:=HS1.out hlt;have bx:=Qr un um vn hlt bum;have br:(un*18446744073709551616+um)%vn<vn:=Nat.mod_lt _ (by omega);have hdiv:=fun w=>eI un um vn bvn bum hlt w
   have HDV:=Ad hdiv;clear hdiv;obtain ⟨x0,hx0⟩:∃ x0,(un*18446744073709551616+um)/vn=x0:=⟨_,rfl⟩;obtain ⟨r0,hr0⟩:∃ r0,(un*18446744073709551616+um)%vn=r0:=⟨_,rfl⟩;rw [hx0,hr0] at hinv HDV;rw [hx0] at bx;rw [hr0] at br;have HI:=Ad hinv;clear hinv hx0 hr0 HS1 HS2;go_wp2_with fail
   go_quiet ((go_at_call 205;first | exact dB (HDV.o _) | exact qt (HDV.o _)))
   go_wp2_with fail
   go_meet
   case rel=>exact ⟨x0,r0,0,rfl,rfl,rfl,by rw [Nat.zero_mul,Nat.zero_add];exact HI.o,by omega,by omega,by simp only [World.drewN_drewN];exact ⟨_,rfl⟩⟩
  ·have hinv:=HS2.out hlt;have hadd:∀ w,(callFunc 201 #[.int .u64 um,.int .u64 vn,.int .u64 0]).run Tryz.prog w=.ok (.value (.tuple #[.int .u64 (Du um vn 0),.int .u64 (D5 um vn 0)])) w:=fun w=>Qu um vn 0 (by omega) w
   have hsum:D5 um vn 0*18446744073709551616+Du um vn 0=um+vn:=by unfold D5 Du;omega
   have hs1:D5 um vn 0<=1:=by unfold D5;omega
   have hs2:Du um vn 0<18446744073709551616:=Nat.mod_lt _ (by decide);rw [<-hsum] at hinv;have HI:=Ad hinv;clear hinv hsum HS1 HS2;generalize D5 um vn 0=o0 at *;generalize Du um vn 0=r0 at *;go_wp2_with fail
   go_quiet (fail)
   go_wp2_with fail
   go_meet
   case rel=>exact ⟨18446744073709551615,r0,o0,rfl,rfl,rfl,HI.o,hs2,hs1,by simp only [World.drewN_drewN];exact ⟨_,rfl⟩⟩
 case rest =>
  obtain ⟨X,R,O,rfl,rfl,rfl,hinv,hR,hO,q0,rfl⟩:=hcut;have HI0:=Ad hinv;clear hinv HS1 HS2
  go_upto_block 0 with fail
  go_cut [6] (oU wl vs w)
  case first =>
   go_wp2_with fail
   go_loopw [6,7,8] (λx r o wr=>iq wl vs (m+2) w x r o wr) (λx _ _ _=>(intOf x).toNat)
   case atStart=>exact ⟨X,R,O,rfl,rfl,rfl,HI0.o,hR,hO,_,rfl⟩
   case round =>
    clear HI0 hR hO;obtain ⟨x,r,o,rfl,rfl,rfl,hinv,hR,hO,q1,rfl⟩:=hrel;have HI:=Ad hinv;clear hinv;by_cases ho:o=0
    ·subst ho;have hdone:=fun hc=>HI.out.done HD.out (Or.inl hc)
     have hless:=λhc=>HI.o.less HD.o hc
     have hx:=HI.o.lt;have hcmp:=mY (x*vm) r uk buk;have hle:=jO x vm hx bvm;simp only [Nat.add_sub_cancel,show m+2-1=m+1 by omega,HE.o.2.2.1,HE.o.2.2.2.1,HE.o.2.2.2.2.1,Nat.zero_mul,Nat.zero_add] at hdone hless;rw [hcmp] at hdone;have hless':(¬(x*vm/18446744073709551616<r\/x*vm/18446744073709551616=r/\x*vm%18446744073709551616<=uk))->1<=x/\DigInv wl vs (m+2) (x-1) (r+vn):=λh=>hless (by rw [<-hcmp] at h;omega)
     have hmul:=λw=>jM x vm hx bvm w
     have HM:=Ad hmul;have HDN:=Ad hdone;have HLS:=Ad hless';clear hmul hdone hless hless' hcmp hle;unfold Pz Fk at HM;generalize x*vm/18446744073709551616=h at *;generalize x*vm%18446744073709551616=l at *;by_cases h1:h<r
     ·have HFIN:=Ad (HDN.out (Or.inl h1))
      go_wp2_with (go_at_call 200;refine (HM.o _).mono ?_;rintro e w' ⟨rfl,rfl⟩)
      go_meet
      case rel=>exact ⟨x,rfl,hx,HFIN.o,_,rfl⟩
     ·by_cases h2:h=r
      ·subst h2;have e1:(((h:Nat):Int)==(h:Int))=true:=by simp
       by_cases h3:l<=uk
       ·have HFIN:=Ad (HDN.out (Or.inr ⟨rfl,h3⟩))
        go_wp2_with (go_at_call 200;refine (HM.o _).mono ?_;rintro e w' ⟨rfl,rfl⟩)
        go_meet
        case rel=>exact ⟨x,rfl,hx,HFIN.o,_,rfl⟩
       ·skip
        have hll:=HLS.o (by omega);obtain ⟨hx1,hI'⟩:=hll;have hadd:∀ w,(callFunc 201 #[.int .u64 h,.int .u64 vn,.int .u64 0]).run Tryz.prog w=.ok (.value (.tuple #[.int .u64 (Du h vn 0),.int .u64 (D5 h vn 0)])) w:=λw=>Qu h vn 0 (by omega) w
        have hsum:D5 h vn 0*18446744073709551616+Du h vn 0=h+vn:=by unfold D5 Du;omega
        have hs1:D5 h vn 0<=1:=by unfold D5;omega
        have hs2:Du h vn 0<18446744073709551616:=Nat.mod_lt _ (by decide);rw [<-hsum] at hI';have HI':=Ad hI';clear hI' hsum HLS HDN HI;generalize D5 h vn 0=o1 at *;generalize Du h vn 0=r1 at *;obtain ⟨xx,hxe⟩:∃ xx,x-1=xx:=⟨_,rfl⟩;rw [hxe] at HI';have hxi:(x:Int)-1=(xx:Int):=by omega
        have hxl:xx<x:=by omega
        clear hxe
        go_wp2_with (go_at_call 200;refine (HM.o _).mono ?_;rintro e w' ⟨rfl,rfl⟩)
        go_roundw
        case rel=>exact ⟨xx,r1,o1,rfl,rfl,rfl,HI'.o,hs2,hs1,_,rfl⟩
        case measure=>simp [intOf];omega
      ·have e1:(((h:Nat):Int)==(r:Int))=false:=by rw [Ek];omega
       have hll:=HLS.o (by omega);obtain ⟨hx1,hI'⟩:=hll;have hadd:∀ w,(callFunc 201 #[.int .u64 r,.int .u64 vn,.int .u64 0]).run Tryz.prog w=.ok (.value (.tuple #[.int .u64 (Du r vn 0),.int .u64 (D5 r vn 0)])) w:=λw=>Qu r vn 0 (by omega) w
       have hsum:D5 r vn 0*18446744073709551616+Du r vn 0=r+vn:=by unfold D5 Du;omega
       have hs1:D5 r vn 0<=1:=by unfold D5;omega
       have hs2:Du r vn 0<18446744073709551616:=Nat.mod_lt _ (by decide);rw [<-hsum] at hI';have HI':=Ad hI';clear hI' hsum HLS HDN HI;generalize D5 r vn 0=o1 at *;generalize Du r vn 0=r1 at *;obtain ⟨xx,hxe⟩:∃ xx,x-1=xx:=⟨_,rfl⟩;rw [hxe] at HI';have hxi:(x:Int)-1=(xx:Int):=by omega
       have hxl:xx<x:=by omega
       clear hxe
       go_wp2_with (go_at_call 200;refine (HM.o _).mono ?_;rintro e w' ⟨rfl,rfl⟩)
       go_roundw
       case rel=>exact ⟨xx,r1,o1,rfl,rfl,rfl,HI'.o,hs2,hs1,_,rfl⟩
       case measure=>simp [intOf];omega
    ·have ho1:o=1:=by omega
     subst ho1;have hfin:=HI.o.done HD.o (Or.inr (by omega));have HFIN:=Ad hfin;have hx:=HI.o.lt;clear hfin HI;go_wp2_with fail
     go_meet
     case rel=>exact ⟨x,rfl,hx,HFIN.o,_,rfl⟩
  case rest =>
   obtain ⟨x,rfl,hx,hX,q1,rfl⟩:=hcut;have HX:=Ad hX;clear hX;have HMS:=Ad (Kk wl x vs HD.o.ws);have HMC:=Ad (Xf wl x vs hx HD.o.vsm);have HMB:=Ad (M9 wl x vs);have HML:=Ad (λk=>(Iz wl x vs k).trans HWL.o);have HMN:=Ad (Mf wl x vs);have HVL:=Ad (Cc HD.o.vsm);go_wp2_with fail
   go_loopw [11,12,107] (λcy bw t wr=>∃ k:Nat,k<=m+2/\t=.int .i64 k/\cy=.int .u64 (F9 wl x vs k).2.1/\bw=.int .u64 (F9 wl x vs k).2.2/\Win wr base g N cap pre (F9 wl x vs k).1 post/\Only g w wr) (λ_ _ t _=>(m+2-intOf t).toNat)
   case atStart=>exact ⟨0,Nat.zero_le _,rfl,rfl,rfl,HW.o.drewN _,(Only.refl g w).drewN _⟩
   case round =>
    obtain ⟨k,hkl,rfl,rfl,rfl,hWk,hOk⟩:=hrel;have HWk:=Ad hWk;have HOk:=Ad hOk;clear hWk hOk;by_cases hlt:k<m+2
    ·have hck:=(HOk.out.cell (k:=k) hne).trans (HV.out k hlt);have ho1:=HWk.out.cell k (by rw [HML.out];omega);have hf1:=HWk.out.frozen (j+k);rw [HE.out.2.2.2.2.2] at ho1;have hcy:=HMC.out k;have hbw:=HMB.out k;have hzk:=Cc (HMS.out k) k;have hyk:=HVL.out k;have HST:=Ad (HMN.out k);have hln:=HML.out k;generalize F9 wl x vs k=s at *;obtain ⟨o,cy,bw⟩:=s;simp only at *;generalize Ba o k=z at *;generalize Ba vs k=y at *;have HM:=Ad (fun w=>jM x y hx hyk w);have hadd:∀ w,(callFunc 201 #[.int .u64 (Fk x y),.int .u64 cy,.int .u64 0]).run Tryz.prog w=.ok (.value (.tuple #[.int .u64 (Du (Fk x y) cy 0),.int .u64 (D5 (Fk x y) cy 0)])) w:=fun w=>Qu _ _ 0 (by omega) w
     have hsub:∀ w,(callFunc 206 #[.int .u64 z,.int .u64 (Du (Fk x y) cy 0),.int .u64 bw]).run Tryz.prog w=.ok (.value (.tuple #[.int .u64 (P0 z (Du (Fk x y) cy 0) bw),.int .u64 (Ra z (Du (Fk x y) cy 0) bw)])) w:=λw=>fD _ _ bw hbw w
     have s1:Du (Fk x y) cy 0=(x*y+cy)%18446744073709551616:=by unfold Du Fk;omega
     have s2:Pz x y+D5 (Fk x y) cy 0=(x*y+cy)/18446744073709551616:=by unfold Pz D5 Fk;omega
     have b1:Pz x y+D5 (Fk x y) cy 0<=18446744073709551615:=by
      rw [s2];have:=Pk x y cy 0 hx hyk hcy (by decide);rw [Nat.add_zero] at this;exact Nat.le_of_lt_succ this
     rw [<-s1,<-s2] at HST;clear s1 s2;generalize Pz x y=h1 at *;generalize Fk x y=l1 at *;generalize Du l1 cy 0=l2 at *;generalize D5 l1 cy 0=c2 at *;have HST':Hid (F9 wl x vs (k+1)=(o.set k (P0 z l2 bw),h1+c2,Ra z l2 bw)):=HST.o;clear HST;generalize P0 z l2 bw=d1 at *;generalize Ra z l2 bw=d2 at *
     go_wp2_with (go_at_call 200;refine (HM.o _).mono ?_;rintro e w' ⟨rfl,rfl⟩)
     go_roundw
     case rel =>
      refine ⟨k+1,by omega,by go_num,by rw [HST'.o];simp,by rw [HST'.o],?_,HOk.o.setCell _ _⟩;rw [HST'.o];have:=HWk.o.stored k d1 (by rw [hln];omega);rwa [HE.o.2.2.2.2.2] at this
     case measure=>simp [intOf];omega
    ·obtain rfl:k=m+2:=by omega
     have hn1:(F9 wl x vs (m+2)).1.length=m+3:=HML.o _;have ho1:=HWk.o.cell (m+2) (by rw [hn1];omega);have hf1:=HWk.o.frozen (j+(m+2));rw [HE.o.2.2.2.2.2] at ho1;have hcy:=HMC.o (m+2);have hbw:=HMB.o (m+2);have hzk:=Cc (HMS.o (m+2)) (m+2);have hV:=HD.o.vpos;have hfit:=λhq=>cN wl vs x (m+2) HD.o.ws HWL.o HD.o.vlen hq hcy
     have hover:=λhq=>cO wl vs x (m+2) HD.o.ws HWL.o HD.o.vlen hV hq hcy
     have hsm2:=λy (hy:y<18446744073709551616)=>Ef (HMS.o (m+2)) (m+2) y hy
     generalize F9 wl x vs (m+2)=s at *;obtain ⟨o,cy,bw⟩:=s;simp only at *;generalize Ba o (m+2)=z at *;have hsub:∀ w,(callFunc 206 #[.int .u64 z,.int .u64 cy,.int .u64 bw]).run Tryz.prog w=.ok (.value (.tuple #[.int .u64 (P0 z cy bw),.int .u64 (Ra z cy bw)])) w:=λw=>fD _ _ bw hbw w
     have hlod:P0 z cy bw<18446744073709551616:=Nat.mod_lt _ (by decide);have hsm3:=hsm2 _ hlod;have HFIT:Hid (x=Bq wl/Bq vs->Bq (o.set (m+2) (P0 z cy bw))=Bq wl%Bq vs/\Ra z cy bw=0):=hfit;have HOVER:Hid (x=Bq wl/Bq vs+1->Bq (o.set (m+2) (P0 z cy bw))+Bq vs=Bq wl%Bq vs+18446744073709551616^(m+2)*18446744073709551616/\Ra z cy bw=1):=hover;have HSM3:=Ad hsm3;clear hfit hover hsm2 hsm3;generalize P0 z cy bw=d1 at *;generalize Ra z cy bw=d2 at *;have hW2:=HWk.o.stored (m+2) d1 (by rw [hn1];omega);rw [HE.o.2.2.2.2.2] at hW2;have HW2:=Ad hW2;clear hW2;rcases HX.o with hxq | hxq
     ·obtain ⟨f1,f2⟩:=HFIT.o hxq;subst f2;have HF1:=Ad f1;have HXQ:=Ad hxq;clear f1 hxq;go_wp2_with fail;go_ret;exact ⟨by rw [<-HXQ.o];rfl,o.set (m+2) d1,by rw [List.length_set,hn1,HWL.o],HSM3.o,HF1.o,HW2.o,HOk.o.setCell _ _⟩
     ·obtain ⟨f1,f2⟩:=HOVER.out hxq;subst f2;have HF1:=Ad f1;have HXQ:=Ad hxq;have hx1:1≤x:=by rw [hxq];exact Nat.le_add_left 1 _
      clear f1 hxq;go_wp2_with fail;have hO2:=HOk.o.setCell (j+(m+2)) (U d1);have HO2:=Ad hO2;clear hO2 HWk HOk;have hln2:(o.set (m+2) d1).length=m+3:=by rw [List.length_set];exact hn1
      generalize o.set (m+2) d1=w2 at *;have HLN2:=Ad hln2;have HAS:=Ad (Ho w2 vs HSM3.o);have HAC:=Ad (Ms w2 vs HSM3.o HD.o.vsm);have HAL:=Ad (λk=>(Gj w2 vs k).trans hln2);have HAN:=Ad (Ir w2 vs);clear hln2 hn1;obtain ⟨wo,hwo⟩:∃ wo,wr.setCell ⟨g,j+(m+2),none⟩ (Value.int .u64 d1)=wo:=⟨_,rfl⟩
      go_loopw [11,159] (λcy t wr'=>∃ k:Nat,k<=m+2/\t=.int .i64 k/\cy=.int .u64 (Ej w2 vs k).2/\Win wr' base g N cap pre (Ej w2 vs k).1 post/\Only g w wr') (λ_ t _=>(m+2-intOf t).toNat)
      case atStart=>exact ⟨0,Nat.zero_le _,rfl,rfl,HW2.o,HO2.o⟩
      case round =>
       obtain ⟨k,hkl,rfl,rfl,hWk,hOk⟩:=hrel;have HWk:=Ad hWk;have HOk:=Ad hOk;clear hWk hOk HW2 HO2 hwo;by_cases hlt:k<m+2
       ·have hck:=(HOk.out.cell (k:=k) hne).trans (HV.out k hlt);have ho1:=HWk.out.cell k (by rw [HAL.out];omega);have hf1:=HWk.out.frozen (j+k);rw [HE.out.2.2.2.2.2] at ho1;have hcy2:=HAC.out k;have hzk2:=Cc (HAS.out k) k;have hyk:=HVL.out k;have HST:=Ad (HAN.out k);have hln:=HAL.out k;generalize Ej w2 vs k=s at *;obtain ⟨o2,cy2⟩:=s;simp only at *;generalize Ba o2 k=z2 at *;generalize Ba vs k=y at *;have hadd:∀ w,(callFunc 201 #[.int .u64 z2,.int .u64 y,.int .u64 cy2]).run Tryz.prog w=.ok (.value (.tuple #[.int .u64 (Du z2 y cy2),.int .u64 (D5 z2 y cy2)])) w:=fun w=>Qu _ _ cy2 hcy2 w
        have HST':Hid (Ej w2 vs (k+1)=(o2.set k (Du z2 y cy2),D5 z2 y cy2)):=HST.o;clear HST;generalize Du z2 y cy2=e1 at *;generalize D5 z2 y cy2=e2 at *;go_wp2_with fail;go_roundw
        case rel =>
         refine ⟨k+1,by omega,by go_num,by rw [HST'.o],?_,HOk.o.setCell _ _⟩;rw [HST'.o];have:=HWk.o.stored k e1 (by rw [hln];omega);rwa [HE.o.2.2.2.2.2] at this
        case measure=>simp [intOf];omega
       ·obtain rfl:k=m+2:=by omega
        have hn3:(Ej w2 vs (m+2)).1.length=m+3:=HAL.o _;have ho1:=HWk.o.cell (m+2) (by rw [hn3];omega);have hf1:=HWk.o.frozen (j+(m+2));rw [HE.o.2.2.2.2.2] at ho1;have hcy2:=HAC.o (m+2);have hzk2:=Cc (HAS.o (m+2)) (m+2);have hback:=cM w2 vs (m+2) (Bq wl%Bq vs) HSM3.o HD.o.vsm HLN2.o HD.o.vlen (Nat.mod_lt _ hV) HF1.o;have hsm4:=λy (hy:y<18446744073709551616)=>Ef (HAS.o (m+2)) (m+2) y hy
        generalize Ej w2 vs (m+2)=s at *;obtain ⟨o2,cy2⟩:=s;simp only at *;generalize Ba o2 (m+2)=z2 at *;have hwrap:IntKind.u64.wrap ((z2:Int)+(cy2:Int))=(((z2+cy2)%18446744073709551616:Nat):Int):=by rw [IntKind.wrap_u64];omega
        have hlt4:(z2+cy2)%18446744073709551616<18446744073709551616:=Nat.mod_lt _ (by decide);have HSM4:=Ad (hsm4 _ hlt4);have HBK:=Ad hback;clear hsm4 hback;generalize (z2+cy2)%18446744073709551616=zf at *;have hW4:=HWk.o.stored (m+2) zf (by rw [hn3];omega);rw [HE.o.2.2.2.2.2] at hW4;have HW4:=Ad hW4;clear hW4;go_wp2_with fail;go_ret;refine ⟨?_,o2.set (m+2) zf,by rw [List.length_set,hn3,HWL.o],HSM4.o,HBK.o,HW4.o,HOk.o.setCell _ _⟩;refine Jf ?_;rw [show (Bq wl/Bq vs:Nat)=x-1 by rw [HXQ.o];exact (Nat.add_sub_cancel ..).symm];omega
end Go.Proofs.YtabjjdicffcolaaGreatDoor
