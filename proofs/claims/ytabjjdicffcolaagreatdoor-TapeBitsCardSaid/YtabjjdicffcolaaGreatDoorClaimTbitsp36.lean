/- Contracts of package expo: Exp, whatever its number. -/
import Derived.Test.YtabjjdicffcolaaGreatDoorClaimTbitsp20
import Derived.Test.YtabjjdicffcolaaGreatDoorClaimTbitsp29
import Derived.Test.YtabjjdicffcolaaGreatDoorClaimTbitsp35
set_option maxRecDepth 100000
set_option maxHeartbeats 16000000
namespace Go.Proofs.YtabjjdicffcolaaGreatDoor
theorem fitD_top {neg:Bool}{n:Nat}{e:Int}(h0:n≠0)(hb:bl n-tz n≤4096)(h1:-1048576≤e)(h2:bl n+e≤1048576) :
 (fitD neg n e).v.m≠0∧topD (fitD neg n e).v=bl n+e∧bl (fitD neg n e).v.m=bl n-tz n:=by
 have ht:tz n<bl n:=tz_lt n (bl n) h0 (lt_two_bl n);have hd:bl (n/2^tz n)=bl n-tz n:=bl_div _ _;have hl:(limbs (n/2^tz n)).length≤64:=limbs_len (k:=64) (by omega);unfold fitD;rw [if_neg h0,if_neg (by omega),if_neg (by omega),if_neg (by omega)];refine ⟨?_,?_,hd⟩
 ·show n / 2 ^ tz n ≠ 0
  intro h;rw [h,bl_zero] at hd;omega
 ·show ((bl (n / 2 ^ tz n) : Nat) : Int) + (e + tz n) = bl n + e
  omega
theorem cutD_top {neg:Bool}{m:Nat}{e:Int}{rest:Bool}{p:Nat}{up:Bool}(hm:m≠0)(p1:1≤p)(p2:p≤2000)(h1:-1000000≤e)(h2:bl m+e≤1000000) :
 (cutD neg m e rest p up).v.m≠0∧bl (cutD neg m e rest p up).v.m≤p∧topD (cutD neg m e rest p up).v≤bl m+e+1:=by
 unfold cutD;have hp:=bl_pos m hm;have hb:bl (m/2^(bl m-p))=bl m-(bl m-p):=bl_div _ _;have h2':cutM m rest p (up != neg)≤m/2^(bl m-p)+1∧m/2^(bl m-p)≤cutM m rest p (up != neg):=by
  unfold cutM cutN;simp only
  split<;>omega
 have h3:=lt_two_bl (m/2^(bl m-p));have h5:2^bl (m/2^(bl m-p))≤2^p:=Nat.pow_le_pow_right (by decide) (by omega);have hz:cutM m rest p (up != neg)≠0:=by
  intro h;rw [h] at h2';have h0:m/2^(bl m-p)=0:=Nat.le_zero.1 h2'.2;rw [h0,bl_zero] at hb;omega
 have h6:bl (cutM m rest p (up != neg))≤bl (m/2^(bl m-p))+1:=bl_le _ _ (by
  have:=Nat.two_pow_succ (bl (m/2^(bl m-p)));have:=Nat.two_pow_pos (bl (m/2^(bl m-p)));generalize m/2^(bl m-p)=z at *;omega)
 have h7:bl (cutM m rest p (up != neg))-tz (cutM m rest p (up != neg))≤p:=by
  by_cases hl:bl (cutM m rest p (up != neg))≤p
  ·omega
  ·have h8 := two_bl_le _ hz;have h9:2^p≤2^(bl (cutM m rest p (up != neg))-1):=Nat.pow_le_pow_right (by decide) (by omega);have h10:cutM m rest p (up != neg)=2^p:=by
    generalize m/2^(bl m-p)=z at *;omega
   have h11:tz (cutM m rest p (up != neg))=p:=tz_unique _ p 1 rfl (by rw [h10,Nat.one_mul]);omega
 obtain ⟨a,b,c⟩:=fitD_top (neg:=neg) (e:=e+((bl m-p:Nat):Int)) hz (by omega) (by omega) (by omega);exact ⟨a,by omega,by omega⟩
theorem topJ {j:Nat}(j1:1≤j)(j2:j≤1000000):(ofN j).m≠0∧1≤topD (ofN j)∧topD (ofN j)≤20∧bl (ofN j).m≤20:=by
 have hb:bl j≤20:=bl_le _ _ (by omega);have hp:=bl_pos j (by omega);obtain ⟨a,b,c⟩:=fitD_top (neg:=false) (n:=j) (e:=0) (by omega) (by omega) (by decide) (by omega);exact ⟨a,by unfold ofN;omega,by unfold ofN;omega,by unfold ofN;omega⟩
theorem nearT_step {p:Nat}{up:Bool}{r t:Dy}{j:Nat}(p1:1≤p)(p2:p≤2000)(hr:r.m≠0)(hr1:-500≤r.e)(hr2:topD r≤-8)(ht:t.m≠0)(ht1:bl t.m≤p)(ht2:-3000≤topD t)(ht3:topD t≤100)
 (j1:1≤j) (j2:j≤1000000):(nearT p up r t j).m≠0∧bl (nearT p up r t j).m≤p∧topD (nearT p up r t j)≤topD t-6:=by
 obtain ⟨b1,b2,b3,b4⟩:=topJ j1 j2;have hbt:=bl_pos _ ht;have hbr:=bl_pos _ hr;unfold topD at hr2 ht2 ht3;have hmz:t.m*r.m≠0:=Nat.mul_ne_zero ht hr;have hmb:=mul_lt_bl (Nat.le_refl (bl t.m)) (Nat.le_refl (bl r.m));have hmp:=bl_pos _ hmz;obtain ⟨c1,c2,c3⟩:=fitD_top (neg:=t.neg != r.neg) (n:=t.m*r.m) (e:=t.e+r.e) hmz (by omega) (by omega) (by omega);unfold nearT quotZ;rw [if_neg b1];obtain ⟨a,ha⟩:∃ a,a=(mulD t r).v:=⟨_,rfl⟩;have c1:a.m≠0:=by rw [ha];exact c1
 have c2:topD a=bl (t.m*r.m)+(t.e+r.e):=by rw [ha];exact c2
 have c3:bl a.m≤bl (t.m*r.m):=by rw [ha];show bl (fitD _ _ _).v.m≤_;omega
 rw [←ha];generalize ofN j=b at *;have hba:=bl_pos _ c1;have hbb:=bl_pos _ b1;unfold topD at c2 b2 b3;unfold quotD;have hK:quotK a b p=p+1+bl b.m-bl a.m:=rfl;have hq:=quot_bl a.m b.m p c1 b1 (quotK a b p) (by omega);have hk:bl (2^quotK a b p)≤quotK a b p+1:=bl_le _ _ (Nat.pow_lt_pow_right (by decide) (by omega));have hm2:=mul_lt_bl (Nat.le_refl (bl a.m)) hk;have hd:=bl_quot (x:=a.m*2^quotK a b p) b1;have hz:a.m*2^quotK a b p/b.m≠0:=by intro h;rw [h,bl_zero] at hq;omega
 obtain ⟨x,y,z⟩:=cutD_top (neg:=a.neg != b.neg) (rest:=decide (¬a.m*2^quotK a b p%b.m=0)) (up:=up) (e:=a.e-b.e-quotK a b p) hz p1 p2 (by omega) (by omega);exact ⟨x,y,by unfold topD at *;omega⟩
theorem nearG_go {p:Nat}{up:Bool}{r:Dy}(p1:1≤p)(p2:p≤2000)(hr:r.m≠0)(hr1:-500≤r.e)(hr2:topD r≤-8):∀ (f j:Nat) (s t:Dy),t.m≠0→bl t.m≤p→-(p:Int)-8≤topD t→topD t≤100 →
 topD t < -(p:Int)-8+6*f→1≤j→j+f≤1000000→∃ o,nearG p up r f j s t=some o
 | 0,j,s,t,_,_,h1,_,h2,_,_=>by omega
 | f + 1, j, s, t, ht, ht1, h1, h3, h2, j1, j2 => by
   obtain ⟨a,b,c⟩:=nearT_step (up:=up) p1 p2 hr hr1 hr2 ht ht1 (by omega) h3 j1 (by omega);rw [nearG]
   split
   ·exact ⟨_,rfl⟩
   ·exact nearG_go p1 p2 hr hr1 hr2 f (j+1) _ _ a b (by omega) (by omega) (by omega) (by omega) (by omega)
theorem nearG_ends {p : Nat} {up : Bool} {r : Dy} (p1 : 1 ≤ p) (p2 : p ≤ 2000) (hr : r.m ≠ 0) (hr1 : -500 ≤ r.e) (hr2 : topD r ≤ -8) : ∃ o, nearG p up r 400 1 one one = some o :=
 nearG_go p1 p2 hr hr1 hr2 400 1 one one (by decide) (by have : bl one.m = 1 := by decide
                                                         omega) (by have : topD one = 1 := by decide
                                                                    omega) (by decide) (by have : topD one = 1 := by decide
                                                                                           omega) (by decide) (by decide)
theorem bndR_facts {d:Dy}(h0:d.m≠0)(hl:bl d.m≤4096)(h1:-400≤d.e)(h2:topD d≤7):(bndR d).m≠0∧-500≤(bndR d).e∧topD (bndR d)≤-8:=by
 have hp:=bl_pos _ h0;have h2':=h2;unfold topD at h2';have hK:(bndK d:Int)=max (topD d+8) 0:=by unfold bndK;omega
 obtain ⟨a,b,c⟩:=fitD_top (neg:=d.neg) (n:=d.m) (e:=d.e+-(bndK d:Int)) h0 (by omega) (by omega) (by omega);unfold bndR shiftD;rw [if_neg h0,if_neg (by omega)];have ht:tz d.m<bl d.m:=tz_lt d.m (bl d.m) h0 (lt_two_bl d.m);refine ⟨a,?_,?_⟩
 ·have b' := b;unfold topD at b';omega
 ·rw [b];unfold topD at hK;omega
end Go.Proofs.YtabjjdicffcolaaGreatDoor
namespace Go.Proofs.YtabjjdicffcolaaGreatDoor
def sumTo (f:Nat→Rat):Nat→Rat
 | 0=>0
 | n+1=>sumTo f n+f n
theorem sumTo_congr {f g:Nat→Rat}:∀ n,(∀ i,i<n→f i=g i)→sumTo f n=sumTo g n
 | 0,_=>rfl
 | n + 1, h => by
   rw [sumTo,sumTo,sumTo_congr n (fun i hi=>h i (by omega)),h n (by omega)]
theorem sumTo_mul (a:Rat)(f:Nat→Rat):∀ n,sumTo (fun i=>a*f i) n=a*sumTo f n
 | 0=>by simp [sumTo]
 | n + 1 => by
   rw [sumTo,sumTo,sumTo_mul a f n]
   grind
theorem sumTo_add (f g:Nat→Rat):∀ n,sumTo (fun i=>f i+g i) n=sumTo f n+sumTo g n
 | 0=>by simp only [sumTo];grind
 | n + 1 => by
   rw [sumTo,sumTo,sumTo,sumTo_add f g n]
   grind
theorem sumTo_shift (f:Nat→Rat):∀ n,sumTo f (n+1)=f 0+sumTo (fun i=>f (i+1)) n
 | 0=>by simp only [sumTo];grind
 | n + 1 => by
   rw [sumTo,sumTo_shift f n,sumTo]
   grind
theorem sumTo_nonneg {f:Nat→Rat}:∀ n,(∀ i,i<n→0≤f i)→0≤sumTo f n
 | 0,_=>Rat.le_refl
 | n + 1, h => by
   have h1:=sumTo_nonneg n (fun i hi=>h i (by omega));have h2:=h n (by omega);rw [sumTo]
   grind
theorem sumTo_le {f g:Nat→Rat}:∀ n,(∀ i,i<n→f i≤g i)→sumTo f n≤sumTo g n
 | 0,_=>Rat.le_refl
 | n + 1, h => by
   have h1:=sumTo_le n (fun i hi=>h i (by omega));have h2:=h n (by omega);rw [sumTo,sumTo]
   grind
def eT (x:Rat):Nat→Rat
 | 0=>1
 | n+1=>eT x n*x/((n+1:Nat):Rat)
def eS (x:Rat) (n:Nat):Rat:=sumTo (eT x) n
theorem succ_pos (n:Nat):(0:Rat)<((n+1:Nat):Rat):=by exact_mod_cast Nat.succ_pos n
theorem eT_succ (x:Rat)(n:Nat):((n+1:Nat):Rat)*eT x (n+1)=x*eT x n:=by
 have h:=succ_pos n;rw [eT];generalize ((n+1:Nat):Rat)=k at *;rw [Rat.div_def];have hk:k*k⁻¹=1:=Rat.mul_inv_cancel k (by grind)
 grind
theorem eT_nonneg {x:Rat}(h:0≤x):∀ n,0≤eT x n
 | 0=>show (0:Rat)≤1 by decide
 | n + 1 => by
   rw [eT,Rat.div_def];exact Rat.mul_nonneg (Rat.mul_nonneg (eT_nonneg h n) h) (Rat.le_of_lt (Rat.inv_pos.2 (succ_pos n)))
def conv (x y:Rat) (k:Nat):Rat:=sumTo (fun i=>eT x i*eT y (k-i)) (k+1)
theorem conv_succ (x y:Rat)(k:Nat):((k+1:Nat):Rat)*conv x y (k+1)=(x+y)*conv x y k:=by
 have A:sumTo (fun i=>(i:Rat)*(eT x i*eT y (k+1-i))) (k+1+1)=x*conv x y k:=by
  rw [sumTo_shift];have e:sumTo (fun i=>((i+1:Nat):Rat)*(eT x (i+1)*eT y (k+1-(i+1)))) (k+1)=sumTo (fun i=>x*(eT x i*eT y (k-i))) (k+1):=sumTo_congr _ (fun i hi=>by
   have h:=eT_succ x i;have e:k+1-(i+1)=k-i:=by omega
   rw [e]
   grind)
  rw [e,sumTo_mul];unfold conv;have z:((0:Nat):Rat)=0:=rfl;rw [z]
  grind
 have B:sumTo (fun i=>((k+1-i:Nat):Rat)*(eT x i*eT y (k+1-i))) (k+1+1)=y*conv x y k:=by
  rw [sumTo];have e:sumTo (fun i=>((k+1-i:Nat):Rat)*(eT x i*eT y (k+1-i))) (k+1)=sumTo (fun i=>y*(eT x i*eT y (k-i))) (k+1):=sumTo_congr _ (fun i hi=>by
   have h:=eT_succ y (k-i);have e:k+1-i=k-i+1:=by omega
   rw [e]
   grind)
  rw [e,sumTo_mul];unfold conv;have z:((k+1-(k+1):Nat):Rat)=0:=by rw [Nat.sub_self];rfl
  rw [z]
  grind
 have C:sumTo (fun i=>((k+1:Nat):Rat)*(eT x i*eT y (k+1-i))) (k+1+1)=sumTo (fun i=>(i:Rat)*(eT x i*eT y (k+1-i))+((k+1-i:Nat):Rat)*(eT x i*eT y (k+1-i))) (k+1+1) :=
  sumTo_congr _ (fun i hi=>by
   have e:((k+1:Nat):Rat)=(i:Rat)+((k+1-i:Nat):Rat):=by
    rw [←Rat.natCast_add]
    congr 1
    omega
   rw [e]
   grind)
 rw [sumTo_add,A,B,sumTo_mul] at C;unfold conv at *
 grind
theorem conv_eq (x y:Rat):∀ k,conv x y k=eT (x+y) k
 | 0=>by simp only [conv,sumTo,Nat.sub_self,eT];grind
 | k + 1 => by
   have h:=conv_succ x y k;have h2:=eT_succ (x+y) k;rw [conv_eq x y k] at h;rw [←h2] at h;have hp:=succ_pos k;generalize ((k+1:Nat):Rat)=q at *;have hk:q*q⁻¹=1:=Rat.mul_inv_cancel q (by grind)
   grind
theorem eS_le {x:Rat}(h:0≤x){m:Nat}:∀ {n:Nat},m≤n→eS x m≤eS x n
 | 0, hm => by
   have e:m=0:=by omega
   rw [e];exact Rat.le_refl
 | n + 1, hm => by
   by_cases e:m=n+1
   ·rw [e];exact Rat.le_refl
   ·have h1 := eS_le h (m := m) (n := n) (by omega);have h2:=eT_nonneg h n;have h3:eS x (n+1)=eS x n+eT x n:=rfl
    grind
theorem eS_one (x:Rat):eS x 1=1:=by
 show (0:Rat)+1=1
 grind
theorem eS_pos {x:Rat}(h:0≤x){n:Nat}(hn:1≤n):1≤eS x n:=by
 have:=eS_le h hn
 rwa [eS_one] at this
theorem eS_nonneg {x:Rat}(h:0≤x)(n:Nat):0≤eS x n:=sumTo_nonneg _ (fun i _=>eT_nonneg h i)
theorem eT_mono {x y:Rat}(h:0≤x)(hy:x≤y):∀ n,eT x n≤eT y n
 | 0=>Rat.le_refl
 | n + 1 => by
   have h1:=eT_mono h hy n;have h2:eT x n*x≤eT y n*x:=Rat.mul_le_mul_of_nonneg_right h1 h;have h3:eT y n*x≤eT y n*y:=Rat.mul_le_mul_of_nonneg_left hy (eT_nonneg (Rat.le_trans h hy) n);rw [eT,eT,Rat.div_def,Rat.div_def];exact Rat.mul_le_mul_of_nonneg_right (Rat.le_trans h2 h3) (Rat.le_of_lt (Rat.inv_pos.2 (succ_pos n)))
theorem eS_mono {x y:Rat}(h:0≤x)(hy:x≤y)(n:Nat):eS x n≤eS y n:=sumTo_le n (fun i _=>eT_mono h hy i)
theorem sumTo_conv (x y:Rat):∀ n,sumTo (conv x y) n=sumTo (fun i=>eT x i*eS y (n-i)) n
 | 0=>rfl
 | n + 1 => by
   have e:sumTo (fun i=>eT x i*eS y (n+1-i)) (n+1)=sumTo (fun i=>eT x i*eS y (n-i)+eT x i*eT y (n-i)) (n+1):=sumTo_congr _ (fun i hi=>by
    have e:n+1-i=n-i+1:=by omega
    have e2:eS y (n-i+1)=eS y (n-i)+eT y (n-i):=rfl;rw [e,e2]
    grind)
   rw [e,sumTo_add,sumTo,sumTo_conv x y n];have h:sumTo (fun i=>eT x i*eS y (n-i)) (n+1)=sumTo (fun i=>eT x i*eS y (n-i)) n:=by
    rw [sumTo,Nat.sub_self];have z:eS y 0=0:=rfl;rw [z]
    grind
   rw [h]
   rfl
theorem eS_add {x y:Rat}(hx:0≤x)(hy:0≤y)(n:Nat):eS (x+y) n≤eS x n*eS y n:=by
 have h1:eS (x+y) n=sumTo (conv x y) n:=sumTo_congr n (fun i _=>(conv_eq x y i).symm);rw [h1,sumTo_conv];have h2:sumTo (fun i=>eT x i*eS y (n-i)) n≤sumTo (fun i=>eS y n*eT x i) n:=sumTo_le n (fun i _=>by
  have h3:=Rat.mul_le_mul_of_nonneg_left (eS_le hy (m:=n-i) (n:=n) (by omega)) (eT_nonneg hx i)
  grind)
 rw [sumTo_mul] at h2;have h4:sumTo (eT x) n=eS x n:=rfl;rw [h4] at h2
 grind
end Go.Proofs.YtabjjdicffcolaaGreatDoor
namespace Go.Proofs.YtabjjdicffcolaaGreatDoor
theorem fitD_k {neg:Bool}{n:Nat}{e:Int}(h0:n≠0)(hb:bl n-tz n≤4096)(h1:-1048576≤e)(h2:bl n+e≤1048576) :
 (fitD neg n e).k=0∧(fitD neg n e).v.neg=neg:=by
 have ht:tz n<bl n:=tz_lt n (bl n) h0 (lt_two_bl n);have hl:(limbs (n/2^tz n)).length≤64:=limbs_len (k:=64) (by rw [bl_div];omega);unfold fitD;rw [if_neg h0,if_neg (by omega),if_neg (by omega),if_neg (by omega)];exact ⟨rfl,rfl⟩
theorem cutD_k {neg:Bool}{m:Nat}{e:Int}{rest:Bool}{p:Nat}{up:Bool}(hm:m≠0)(p1:1≤p)(p2:p≤2000)(h1:-1000000≤e)(h2:bl m+e≤1000000) :
 (cutD neg m e rest p up).k=0∧(cutD neg m e rest p up).v.neg=neg∧bl m+e≤topD (cutD neg m e rest p up).v:=by
 unfold cutD;have hp:=bl_pos m hm;have hb:bl (m/2^(bl m-p))=bl m-(bl m-p):=bl_div _ _;have h2':cutM m rest p (up != neg)≤m/2^(bl m-p)+1∧m/2^(bl m-p)≤cutM m rest p (up != neg):=by
  unfold cutM cutN;simp only
  split<;>omega
 have h3:=lt_two_bl (m/2^(bl m-p));have h4:=bl_mono h2'.2;have hz:cutM m rest p (up != neg)≠0:=by
  intro h;rw [h,bl_zero] at h4;omega
 have h6:bl (cutM m rest p (up != neg))≤bl (m/2^(bl m-p))+1:=bl_le _ _ (by
  have:=Nat.two_pow_succ (bl (m/2^(bl m-p)));have:=Nat.two_pow_pos (bl (m/2^(bl m-p)));generalize m/2^(bl m-p)=z at *;omega)
 obtain ⟨a,b⟩:=fitD_k (neg:=neg) (e:=e+((bl m-p:Nat):Int)) hz (by omega) (by omega) (by omega);obtain ⟨c,d,-⟩:=fitD_top (neg:=neg) (e:=e+((bl m-p:Nat):Int)) hz (by omega) (by omega) (by omega);exact ⟨a,b,by omega⟩
theorem bl_quot_ge {x y:Nat}(h:y≠0):bl x≤bl (x/y)+bl y:=by
 by_cases hx:x=0
 ·rw [hx,bl_zero];omega
 ·refine bl_le _ _ ?_;have h1:=lt_two_bl (x/y);have h2:=lt_two_bl y;have h3:=Nat.lt_mul_div_succ x (Nat.pos_of_ne_zero h);have h4:y*(x/y+1)≤2^bl y*2^bl (x/y):=Nat.mul_le_mul (Nat.le_of_lt h2) h1;rw [←Nat.pow_add] at h4;rw [Nat.add_comm];omega
theorem mul_bl_ge {x y:Nat}(hx:x≠0)(hy:y≠0):bl x+bl y≤bl (x*y)+1:=by
 have h1:=two_bl_le x hx;have h2:=two_bl_le y hy;have h3:=Nat.mul_le_mul h1 h2;rw [←Nat.pow_add] at h3;have h4:=Nat.lt_of_le_of_lt h3 (lt_two_bl (x*y));have h5:=(Nat.pow_lt_pow_iff_right (by decide:1<2)).1 h4;have:=bl_pos x hx;have:=bl_pos y hy;omega
theorem nearT_full {p:Nat}{up:Bool}{r t:Dy}{j:Nat}(p1:1≤p)(p2:p≤2000)(hr:r.m≠0)(rn:r.neg=false)(hr1:-500≤r.e)(hr2:topD r≤-8)(ht:t.m≠0)(tn:t.neg=false)(ht1:bl t.m≤p)(ht2:-3000≤topD t)(ht3:topD t≤100)
 (j1:1≤j) (j2:j≤1000000):(nearT p up r t j).neg=false∧IsDir up p (t.q*r.q/(j:Rat)) (nearT p up r t j).q∧topD t+topD r-25≤topD (nearT p up r t j):=by
 obtain ⟨b1,b2,b3,b4⟩:=topJ j1 j2;have hjq:(ofN j).q=(j:Rat):=by
  have hb:bl j≤20:=bl_le _ _ (by omega);have h:=fitD_q (fitD_k (neg:=false) (n:=j) (e:=0) (by omega) (by omega) (by decide) (by omega)).1
  show (fitD false j 0).v.q=_
  rw [h,pw_zero,Rat.mul_one]
  rfl
 have hbt:=bl_pos _ ht;have hbr:=bl_pos _ hr;unfold topD at hr2 ht2 ht3;have hmz:t.m*r.m≠0:=Nat.mul_ne_zero ht hr;have hmb:=mul_lt_bl (Nat.le_refl (bl t.m)) (Nat.le_refl (bl r.m));have hmp:=bl_pos _ hmz;have hmg:=mul_bl_ge ht hr;obtain ⟨c1,c2,c3⟩:=fitD_top (neg:=t.neg != r.neg) (n:=t.m*r.m) (e:=t.e+r.e) hmz (by omega) (by omega) (by omega);obtain ⟨c4,c5⟩:=fitD_k (neg:=t.neg != r.neg) (n:=t.m*r.m) (e:=t.e+r.e) hmz (by omega) (by omega) (by omega);have hmq:(mulD t r).v.q=t.q*r.q:=mulD_q c4;unfold nearT quotZ;rw [if_neg b1,←hjq,←hmq];obtain ⟨a,ha⟩:∃ a,a=(mulD t r).v:=⟨_,rfl⟩;have c1:a.m≠0:=by rw [ha];exact c1
 have c2:topD a=bl (t.m*r.m)+(t.e+r.e):=by rw [ha];exact c2
 have c3:bl a.m≤bl (t.m*r.m):=by rw [ha];show bl (fitD _ _ _).v.m≤_;omega
 have c5:a.neg=false:=by rw [ha];refine Eq.trans c5 ?_;rw [tn,rn];rfl
 have b5:(ofN j).neg=false:=by
  have hb:bl j≤20:=bl_le _ _ (by omega);exact (fitD_k (neg:=false) (n:=j) (e:=0) (by omega) (by omega) (by decide) (by omega)).2
 rw [←ha];clear hmq ha hjq;generalize ofN j=b at *;have hba:=bl_pos _ c1;have hbb:=bl_pos _ b1;unfold topD at c2 b2 b3;have hK:quotK a b p=p+1+bl b.m-bl a.m:=rfl;have hq:=quot_bl a.m b.m p c1 b1 (quotK a b p) (by omega);have hk:bl (2^quotK a b p)≤quotK a b p+1:=bl_le _ _ (Nat.pow_lt_pow_right (by decide) (by omega));have hm2:=mul_lt_bl (Nat.le_refl (bl a.m)) hk;have hk1:quotK a b p+1≤bl (2^quotK a b p):=by
  have h:=lt_two_bl (2^quotK a b p);have h2:=(Nat.pow_lt_pow_iff_right (by decide:1<2)).1 h;omega
 have hm3:=mul_bl_ge c1 (Nat.ne_of_gt (Nat.two_pow_pos (quotK a b p)));have hd:=bl_quot (x:=a.m*2^quotK a b p) b1;have hd2:=bl_quot_ge (x:=a.m*2^quotK a b p) b1;have hz:a.m*2^quotK a b p/b.m≠0:=by intro h;rw [h,bl_zero] at hq;omega
 obtain ⟨x,y,z⟩:=cutD_k (neg:=a.neg != b.neg) (rest:=decide (¬a.m*2^quotK a b p%b.m=0)) (up:=up) (e:=a.e-b.e-quotK a b p) hz p1 p2 (by omega) (by omega);refine ⟨?_,quotD_dir p1 b1 x,?_⟩
 ·refine Eq.trans y ?_;rw [c5,b5]
  rfl
 ·have z' : (bl (a.m * 2 ^ quotK a b p / b.m) : Int) + (a.e - b.e - quotK a b p) ≤ topD (quotD a b p up).v := z;unfold topD at z' ⊢;omega
end Go.Proofs.YtabjjdicffcolaaGreatDoor
namespace Go.Proofs.YtabjjdicffcolaaGreatDoor
theorem pw_inv {a b:Int}(h:pw a≤pw b):a≤b:=by
 rcases Int.lt_or_le b a with h1 | h1
 ·exfalso
  have h2:=pw_mono (show b+1≤a by omega);have h3:=pw_pos b;rw [pw_add,pw_one] at h2
  grind
 ·exact h1
theorem pw_lt_inv {a b:Int}(h:pw a<pw b):a<b:=by
 rcases Int.lt_or_le a b with h1 | h1
 ·exact h1
 ·exfalso
  have h2:=pw_mono h1
  grind
theorem q_of {d:Dy}(hn:d.neg=false):d.q=(d.m:Rat)*pw d.e:=by
 unfold Dy.q sq;rw [hn]
 rfl
theorem q_gt {d:Dy}(h:d.m≠0)(hn:d.neg=false):0<d.q:=by
 rw [q_of hn];exact q_pos h d.e
theorem q_top {d:Dy}(h:d.m≠0)(hn:d.neg=false):pw (topD d-1)≤d.q∧d.q<pw (topD d):=by
 rw [q_of hn];exact mag_bl h d.e
theorem fits_one {p:Nat}(hp:1≤p):Fits p 1:=⟨false,1,0,hp,by simp [sq,pw_zero]⟩
theorem fits_pw {p:Nat}(hp:1≤p)(e:Int):Fits p (pw e):=by
 have h:=(fits_one hp).pw e
 rwa [Rat.one_mul] at h
theorem top_ge {x:Dy}{c:Int}(h:x.m≠0)(hn:x.neg=false)(hq:pw c≤x.q):c+1≤topD x:=by
 have h1:=(q_top h hn).2;have h2:pw c<pw (topD x):=by grind
 have:=pw_lt_inv h2;omega
theorem top_le {x:Dy}{c:Int}(h:x.m≠0)(hn:x.neg=false)(hq:x.q≤pw c):topD x≤c+1:=by
 have h1:=(q_top h hn).1;have h2:pw (topD x-1)≤pw c:=by grind
 have:=pw_inv h2;omega
theorem top_one {x:Dy}(h:x.m≠0)(hn:x.neg=false)(h1:1≤x.q)(h2:x.q<2):topD x=1:=by
 have a:=top_ge (c:=0) h hn (by rw [pw_zero];exact h1);have b:=(q_top h hn).1;have c:pw (topD x-1)<pw 1:=by rw [pw_one];grind
 have:=pw_lt_inv c;omega
theorem sum_k {s t:Dy}{p:Nat}(p2:p≤2000)(s0:s.m≠0)(sn:s.neg=false)(sb:bl s.m≤p)(s1:1≤s.q)(t0:t.m≠0)(tn:t.neg=false)(tk:t.Ok)(h2:s.q+t.q<2) :
 ((sumD s t).k=0↔-4095≤t.e)∧((sumD s t).k=0→(sumD s t).v.m≠0∧(sumD s t).v.neg=false∧topD (sumD s t).v=1∧-5000≤(sumD s t).v.e):=by
 have t1:=q_gt t0 tn;have hs1:=(q_top s0 sn).1;have hs2:=(q_top s0 sn).2;have hs3:topD s=1:=by
  have a:pw (topD s-1)<pw 1:=by rw [pw_one];grind
  have b:pw 0<pw (topD s):=by rw [pw_zero];grind
  have:=pw_lt_inv a;have:=pw_lt_inv b;omega
 have hs4:(bl s.m:Int)+s.e=1:=hs3;have sp:=bl_pos _ s0;have key:∀ (n:Nat) (e:Int),n≠0→(n:Rat)*pw e=s.q+t.q→(bl n:Int)+e=1:=by
  intro n e hn he;obtain ⟨a,b⟩:=mag_bl hn e;rw [he] at a b;have c:pw (bl n+e-1)<pw 1:=by rw [pw_one];grind
  have d:pw 0<pw (bl n+e):=by rw [pw_zero];grind
  have:=pw_lt_inv c;have:=pw_lt_inv d;omega
 unfold sumD;rw [if_neg s0,if_neg t0]
 by_cases h:s.e<t.e
 ·rw [if_pos h];have hn:t.m*2^(t.e-s.e).toNat+s.m≠0:=by omega
  have he:((t.m*2^(t.e-s.e).toNat+s.m:Nat):Rat)*pw s.e=s.q+t.q:=by
   rw [q_of sn,q_of tn,Rat.natCast_add,Rat.add_mul,←mag_nat t.m (Int.le_of_lt h)]
   grind
  have hb:=key _ _ hn he;have hg:¬(¬t.e=s.e∧4097-(bl t.m:Int)<t.e-s.e):=by
   have hbt:bl t.m+(t.e-s.e).toNat≤bl (t.m*2^(t.e-s.e).toNat+s.m):=by
    rw [←bl_mul_pow _ _ t0];exact bl_mono (Nat.le_add_right _ _)
   omega
  have hz:=tz_lt _ _ hn (lt_two_bl (t.m*2^(t.e-s.e).toNat+s.m));unfold sumC;rw [if_neg hg,if_pos (tn.trans sn.symm),tn];obtain ⟨k1,k2⟩:=fitD_k (neg:=false) (e:=s.e) hn (by omega) (by omega) (by omega);obtain ⟨f1,f2,f3⟩:=fitD_top (neg:=false) (e:=s.e) hn (by omega) (by omega) (by omega);have f2':=f2;unfold topD at f2';exact ⟨⟨fun _=>by omega,fun _=>k1⟩,fun _=>⟨f1,k2,by omega,by omega⟩⟩
 ·rw [if_neg h];have hn:s.m*2^(s.e-t.e).toNat+t.m≠0:=by omega
  have he:((s.m*2^(s.e-t.e).toNat+t.m:Nat):Rat)*pw t.e=s.q+t.q:=by
   rw [q_of sn,q_of tn,Rat.natCast_add,Rat.add_mul,←mag_nat s.m (by omega:t.e≤s.e)]
  have hb:=key _ _ hn he;have hz:=tz_lt _ _ hn (lt_two_bl (s.m*2^(s.e-t.e).toNat+t.m));unfold sumC
  by_cases hte:-4095≤t.e
  ·rw [if_neg (by omega), if_pos (sn.trans tn.symm), sn];obtain ⟨k1,k2⟩:=fitD_k (neg:=false) (e:=t.e) hn (by omega) (by omega) (by omega);obtain ⟨f1,f2,f3⟩:=fitD_top (neg:=false) (e:=t.e) hn (by omega) (by omega) (by omega);have f2':=f2;unfold topD at f2';exact ⟨⟨fun _=>hte,fun _=>k1⟩,fun _=>⟨f1,k2,by omega,by omega⟩⟩
  ·have hk : ∀ o : Outc Dy, o.k ≠ 0 → (o.k = 0 ↔ -4095 ≤ t.e) ∧ (o.k = 0 → o.v.m ≠ 0 ∧ o.v.neg = false ∧ topD o.v = 1 ∧ -5000 ≤ o.v.e) :=
    fun o ho=>⟨⟨fun a=>absurd a ho,fun a=>absurd a hte⟩,fun a=>absurd a ho⟩
   apply hk
   split
   ·decide
   ·rw [if_pos (sn.trans tn.symm)];have ho:(s.m*2^(s.e-t.e).toNat+t.m)%2=1:=by
     have h1:=tk.odd t0;have h2:(s.e-t.e).toNat=(s.e-t.e).toNat-1+1:=by omega
     rw [h2,Nat.pow_succ,←Nat.mul_assoc];omega
    have hl:64<(limbs (s.m*2^(s.e-t.e).toNat+t.m)).length:=by
     refine Decidable.byContradiction fun hc=>?_
     have hb2:=bl_of_len (s.m*2^(s.e-t.e).toNat+t.m) 64 (by omega);omega
    unfold fitD;rw [if_neg hn,tz_oddN ho,Nat.pow_zero,Nat.div_one,if_pos hl]
    decide
theorem rndS_dir {d:Dy}{p:Nat}{up:Bool}(p1:1≤p)(p2:p≤2000)(h0:d.m≠0)(h1:-1000000≤d.e)(h2:topD d≤1000000) :
 IsDir up p d.q (rndS p up d).q∧(rndS p up d).neg=d.neg∧(rndS p up d).m≠0∧bl (rndS p up d).m≤p:=by
 unfold topD at h2;obtain ⟨a,b,c⟩:=cutD_k (neg:=d.neg) (rest:=false) (up:=up) h0 p1 p2 h1 h2;obtain ⟨x,y,z⟩:=cutD_top (neg:=d.neg) (rest:=false) (up:=up) h0 p1 p2 h1 h2;exact ⟨dirD_dir p1 a,b,x,y⟩
theorem rndS_zero (p:Nat)(up:Bool):rndS p up dz=dz:=by
 unfold rndS dirD cutD;have h:cutM 0 false p (up != dz.neg)=0:=by unfold cutM cutN;simp [bl]
 show (fitD dz.neg (cutM 0 false p (up != dz.neg)) _).v=dz
 rw [h]
 rfl
theorem dir_le {up:Bool}{p:Nat}{x d b:Rat}(h:IsDir up p x d)(hb:Fits p b)(hx:x≤b):d≤b:=by
 cases up with
 | true=>exact IsUp.best h b hb hx
 | false=>exact Rat.le_trans (IsDown.le h) hx
theorem dir_ge {up:Bool}{p:Nat}{x d b:Rat}(h:IsDir up p x d)(hb:Fits p b)(hx:b≤x):b≤d:=by
 cases up with
 | true=>exact Rat.le_trans hx (IsUp.le h)
 | false=>exact IsDown.best h b hb hx
theorem nearS_k {s t:Dy}{p:Nat}{up:Bool}(p1:1≤p)(p2:p≤2000)(s0:s.m≠0)(sn:s.neg=false)(sb:bl s.m≤p)(s1:1≤s.q)(t0:t.m≠0)(tn:t.neg=false)(tk:t.Ok)(h2:s.q+t.q<2) :
 (-4095≤t.e→IsDir up p (s.q+t.q) (nearS p up s t).q∧(nearS p up s t).neg=false∧(nearS p up s t).m≠0∧bl (nearS p up s t).m≤p)∧(t.e < -4095→nearS p up s t=dz):=by
 obtain ⟨a,b⟩:=sum_k p2 s0 sn sb s1 t0 tn tk h2;constructor
 ·intro h;have hk:=a.2 h;obtain ⟨b1,b2,b3,b4⟩:=b hk;have hq:=sumD_q hk;obtain ⟨c1,c2,c3,c4⟩:=rndS_dir (up:=up) p1 p2 b1 (by omega) (by omega);rw [hq] at c1;exact ⟨c1,c2.trans b2,c3,c4⟩
 ·intro h;have hk:(sumD s t).k≠0:=fun e=>by have:=a.1 e;omega
  have hz:(sumD s t).v=dz:=by
   have hs:s.Ok∨True:=.inr trivial;unfold sumD at hk ⊢;rw [if_neg s0,if_neg t0] at hk ⊢
   split at hk<;>rename_i hc
   ·rw [if_pos hc];exact (sumC_ok _ _).2 hk
   ·rw [if_neg hc];exact (sumC_ok _ _).2 hk
  unfold nearS;rw [hz,rndS_zero]
theorem eT_half {r:Rat}(h0:0≤r)(h1:r≤1/2)(j:Nat):2*eT r (j+1)≤eT r j:=by
 have h2:=eT_succ r j;have h3:=eT_nonneg h0 (j+1);have h4:=eT_nonneg h0 j;have h5:(1:Rat)≤((j+1:Nat):Rat):=by exact_mod_cast Nat.le_add_left 1 j
 have h6:=Rat.mul_le_mul_of_nonneg_right h5 h3;have h7:=Rat.mul_le_mul_of_nonneg_right h1 h4;rw [h2] at h6
 grind
theorem eS_tail {r:Rat}(h0:0≤r)(h1:r≤1/2)(j n:Nat):eS r n≤eS r (j+1)+eT r j:=by
 have step:∀ m,eS r (j+1+m)+eT r (j+m)≤eS r (j+1)+eT r j:=by
  intro m
  induction m with
  | zero=>exact Rat.le_refl
  | succ m ih =>
    have h2:=eT_half h0 h1 (j+m);have e1:eS r (j+1+(m+1))=eS r (j+1+m)+eT r (j+1+m):=rfl;have e2:j+1+m=j+m+1:=by omega
    rw [e2] at e1 ih;have e3:j+(m+1)=j+m+1:=by omega
    rw [e1,e3]
    grind
 have h2:=step n;have h3:=eS_le h0 (m:=n) (n:=j+1+n) (by omega);have h4:=eT_nonneg h0 (j+n)
 grind
def sB (j:Nat):Nat:=if j≤1 then 65536 else 65790+j
theorem sB_one:(sB 1:Rat)*pw (-16)=1:=by decide +kernel
theorem pw_m1:pw (-1)=1/2:=by decide +kernel
theorem pw_m8:pw (-8)=1/256:=by decide +kernel
theorem sB_step {j:Nat}(h:1≤j):(sB j:Rat)*pw (-16)+pw (-8*(j:Int))≤(sB (j+1):Rat)*pw (-16):=by
 by_cases h1:j=1
 ·subst h1
  decide +kernel
 ·have e : (sB (j + 1) : Rat) = (sB j : Rat) + 1 := by
   have:sB (j+1)=sB j+1:=by
    unfold sB;rw [if_neg (by omega),if_neg (by omega)];omega
   rw [this,Rat.natCast_add]
   rfl
  have h2:=pw_mono (show -8*(j:Int)≤-16 by omega);rw [e]
  grind
theorem sB_le {j:Nat}(h:j≤500):(sB j:Rat)*pw (-16)≤17/16:=by
 have h1:sB j≤69632:=by unfold sB;split<;>omega
 have h2:=(mul_pw_le (-16)).2 (nat_cast_le.2 h1);have h3:((69632:Nat):Rat)*pw (-16)=17/16:=by decide +kernel
 rwa [h3] at h2
theorem sB_fits {j p:Nat}(h:j≤500)(hp:17≤p):Fits p ((sB j:Rat)*pw (-16)):=by
 have h1:sB j<2^17:=by unfold sB;split<;>omega
 exact (fits_nat (p:=p) (m:=sB j) (Nat.le_trans (bl_le _ _ h1) hp)).pw (-16)
structure NI (p:Nat) (up:Bool) (r:Rat) (j:Nat) (s t:Dy):Prop where
 s0:s.m≠0
 sn:s.neg=false
 sb:bl s.m≤p
 s1:1≤s.q
 s2:s.q≤(sB j:Rat)*pw (-16)
 t0:t.m≠0
 tn:t.neg=false
 tb:bl t.m≤p
 t2:t.q≤pw (-8*((j:Int)-1))
 t3:-(p:Int)-8≤topD t
 dir:if up then eT r (j-1)≤t.q∧eS r j≤s.q else t.q≤eT r (j-1)∧s.q≤eS r j
theorem one_q:one.q=1:=by decide +kernel
theorem NI.start {p:Nat}{up:Bool}{r:Rat}(p1:1≤p):NI p up r 1 one one:=by
 have b:bl one.m=1:=by decide
 have t:topD one=1:=by decide
 refine ⟨by decide,rfl,by omega,by rw [one_q];exact Rat.le_refl,by rw [one_q,sB_one];exact Rat.le_refl,by decide,rfl,by omega,?_,by omega,?_⟩
 ·rw [one_q]
  show (1:Rat)≤pw 0
  rw [pw_zero];exact Rat.le_refl
 ·rw [one_q, eS_one];cases up
  ·exact ⟨Rat.le_refl,Rat.le_refl⟩
  ·exact ⟨Rat.le_refl,Rat.le_refl⟩
theorem eT_next (r:Rat){j:Nat}(h:1≤j):eT r j=eT r (j-1)*r/(j:Rat):=by
 obtain ⟨i,rfl⟩:∃ i,j=i+1:=⟨j-1,by omega⟩
 rfl
theorem near_term {p j:Nat}{up:Bool}{r s t:Dy}(p1:1≤p)(p2:p≤2000)(hr:r.m≠0)(rn:r.neg=false)(hr1:-500≤r.e)(hr2:topD r≤-8)(j1:1≤j)(j2:j≤500)(h:NI p up r.q j s t) :
 (nearT p up r t j).m≠0∧(nearT p up r t j).neg=false∧bl (nearT p up r t j).m≤p∧(nearT p up r t j).q≤pw (-8*(j:Int))∧topD t+topD r-25≤topD (nearT p up r t j) ∧
   (if up then eT r.q j≤(nearT p up r t j).q else (nearT p up r t j).q≤eT r.q j):=by
 have tp:=q_gt h.t0 h.tn;have tt:=(q_top h.t0 h.tn).1;have rp:=q_gt hr rn;have rt:r.q<pw (-8):=by
  have:=(q_top hr rn).2;have:=pw_mono hr2
  grind
 have t4:topD t≤100:=by
  have a:=h.t2;have b:=pw_mono (show -8*((j:Int)-1)≤0 by omega);have c:pw (topD t-1)≤pw 0:=by grind
  have:=pw_inv c;omega
 have t3:=h.t3;obtain ⟨a1,a2,a3⟩:=nearT_step (up:=up) p1 p2 hr hr1 hr2 h.t0 h.tb (by omega) t4 j1 (by omega);obtain ⟨b1,b2,b3⟩:=nearT_full (up:=up) p1 p2 hr rn hr1 hr2 h.t0 h.tn h.tb (by omega) t4 j1 (by omega);have hj:(1:Rat)≤(j:Rat):=by exact_mod_cast j1
 have hji:(0:Rat)<(j:Rat)⁻¹:=Rat.inv_pos.2 (by grind);have hjm:(j:Rat)*(j:Rat)⁻¹=1:=Rat.mul_inv_cancel _ (by grind);have hji1:(j:Rat)⁻¹≤1:=by
  have:=Rat.mul_le_mul_of_nonneg_right hj (Rat.le_of_lt hji)
  grind
 have tr0:0<t.q*r.q:=Rat.mul_pos tp rp;have hle:t.q*r.q/(j:Rat)≤t.q*r.q:=by
  rw [Rat.div_def];have:=Rat.mul_le_mul_of_nonneg_left hji1 (Rat.le_of_lt tr0)
  grind
 refine ⟨a1,b1,a2,?_,b3,?_⟩
 ·refine dir_le b2 (fits_pw p1 _) (Rat.le_trans hle ?_);have e:-8*(j:Int)=-8*((j:Int)-1)+-8:=by omega
  rw [e,pw_add];have c1:=Rat.mul_le_mul_of_nonneg_right h.t2 (Rat.le_of_lt rp);have c2:=Rat.mul_le_mul_of_nonneg_left (Rat.le_of_lt rt) (pw_nonneg (-8*((j:Int)-1)));exact Rat.le_trans c1 c2
 ·have hd := h.dir;have hm:∀ {x y:Rat},x≤y→x*r.q/(j:Rat)≤y*r.q/(j:Rat):=fun hxy=>by
   rw [Rat.div_def,Rat.div_def];exact Rat.mul_le_mul_of_nonneg_right (Rat.mul_le_mul_of_nonneg_right hxy (Rat.le_of_lt rp)) (Rat.le_of_lt hji)
  rw [eT_next _ j1];cases up with
  | true =>
    rw [if_pos rfl] at hd
    show _≤_
    exact Rat.le_trans (hm hd.1) (IsUp.le b2)
  | false =>
    rw [if_neg (by decide)] at hd
    show _≤_
    exact Rat.le_trans (IsDown.le b2) (hm hd.1)
theorem NI.next {p j:Nat}{up:Bool}{r s t:Dy}(p1:17≤p)(p2:p≤2000)(hr:r.m≠0)(rn:r.neg=false)(hr1:-500≤r.e)(hr2:topD r≤-8)(j1:1≤j)(j2:j≤499)(h:NI p up r.q j s t) :
 (s.q+(nearT p up r t j).q<2)∧(-4095≤(nearT p up r t j).e→(nearS p up s (nearT p up r t j)).m≠0∧(nearS p up s (nearT p up r t j)).neg=false∧bl (nearS p up s (nearT p up r t j)).m≤p∧1≤(nearS p up s (nearT p up r t j)).q ∧
   (nearS p up s (nearT p up r t j)).q≤(sB (j+1):Rat)*pw (-16)∧(if up then eS r.q (j+1)≤(nearS p up s (nearT p up r t j)).q else (nearS p up s (nearT p up r t j)).q≤eS r.q (j+1))) ∧
   ((nearT p up r t j).e < -4095→nearS p up s (nearT p up r t j)=dz):=by
 obtain ⟨a1,a2,a3,a4,a5,a6⟩:=near_term (up:=up) (s:=s) (by omega) p2 hr rn hr1 hr2 j1 (by omega) h;have tk:(nearT p up r t j).Ok:=(quotZ_ok _ _ _ _).1;generalize nearT p up r t j=t' at *;have hs:=h.s2;have hb:=sB_step j1;have hb2:=sB_le (show j+1≤500 by omega);have hsum:s.q+t'.q≤(sB (j+1):Rat)*pw (-16):=by grind
 have hlt:s.q+t'.q<2:=by grind
 have tp:=q_gt a1 a2;obtain ⟨c1,c2⟩:=nearS_k (up:=up) (by omega) p2 h.s0 h.sn h.sb h.s1 a1 a2 tk hlt;refine ⟨hlt,fun he=>?_,c2⟩;obtain ⟨d1,d2,d3,d4⟩:=c1 he;refine ⟨d3,d2,d4,?_,dir_le d1 (sB_fits (by omega) p1) hsum,?_⟩
 ·have := h.s1;exact dir_ge d1 (fits_one (by omega)) (by grind)
 ·have hd := h.dir;have e:eS r.q (j+1)=eS r.q j+eT r.q j:=rfl;rw [e];cases up with
  | true =>
    have hd2:eT r.q (j-1)≤t.q∧eS r.q j≤s.q:=hd;have a6':eT r.q j≤t'.q:=a6
    show _≤_
    have:=IsUp.le d1
    grind
  | false =>
    have hd2:t.q≤eT r.q (j-1)∧s.q≤eS r.q j:=hd;have a6':t'.q≤eT r.q j:=a6
    show _≤_
    have:=IsDown.le d1
    grind
def NearLo (p:Nat) (r x:Dy):Prop:=(x=dz∧topD r < -60∨x.m≠0∧x.neg=false∧bl x.m≤p∧1≤x.q∧x.q<2)∧∃ n,1≤n∧x.q≤eS r.q n
def NearHi (p:Nat) (r x:Dy):Prop:=x.m≠0∧x.neg=false∧bl x.m≤p∧(topD r < -60∧x.q≤1/2∧-6000≤topD x∨1≤x.q∧x.q<2∧∀ n,eS r.q n≤x.q)
theorem near_end {p j:Nat}{up:Bool}{r s t:Dy}(p1:17≤p)(p2:p≤2000)(hr:r.m≠0)(rn:r.neg=false)(hr1:-500≤r.e)(hr2:topD r≤-8)(j1:1≤j)(j2:j≤498)(h:NI p up r.q j s t) :
 if up then NearHi p r (nearD p up (nearS p up s (nearT p up r t j),nearT p up r t j)) else NearLo p r (nearD p up (nearS p up s (nearT p up r t j),nearT p up r t j)):=by
 obtain ⟨a1,a2,a3,a4,a5,a6⟩:=near_term (up:=up) (s:=s) (by omega) p2 hr rn hr1 hr2 j1 (by omega) h;obtain ⟨b1,b2,b3⟩:=h.next p1 p2 hr rn hr1 hr2 j1 (by omega);have tk:(nearT p up r t j).Ok:=(quotZ_ok _ _ _ _).1;have t3:=h.t3;generalize nearT p up r t j=t' at *;have rp:=q_gt hr rn;have tp:=q_gt a1 a2;have rt:r.q≤1/2:=by
  have:=(q_top hr rn).2;have:=pw_mono (show topD r≤-1 by omega);have e:=pw_m1
  grind
 have a5':topD t+topD r-25≤(bl t'.m:Int)+t'.e:=a5
 by_cases he:-4095≤t'.e
 ·obtain ⟨c1, c2, c3, c4, c5, c6⟩ := b2 he;have hb2:=sB_le (show j+1≤500 by omega);cases up with
  | false =>
    show NearLo _ _ _
    refine ⟨.inr ⟨c1,c2,c3,c4,?_⟩,j+1,by omega,c6⟩
    show (nearS p false s t').q<2
    grind
  | true =>
    show NearHi p r (nearS p true (nearS p true s t') t')
    have a6':eT r.q j≤t'.q:=a6;have c6':eS r.q (j+1)≤(nearS p true s t').q:=c6;have t8:t'.q≤pw (-8):=Rat.le_trans a4 (pw_mono (by omega));have e8:=pw_m8;generalize nearS p true s t'=s' at *;have c5':=Rat.le_trans c5 hb2;have t8':t'.q≤1/256:=by rw [←e8];exact t8
    clear hb2 c5 t8 e8 b1 b2 b3 a4 a5' h a5;obtain ⟨d1,-⟩:=nearS_k (up:=true) (by omega) p2 c1 c2 c3 c4 a1 a2 tk (by grind);obtain ⟨f1,f2,f3,f4⟩:=d1 he;have hup:=IsUp.le f1;refine ⟨f3,f2,f4,.inr ⟨by grind,?_,fun n=>?_⟩⟩
    ·have hf : Fits p (3 / 2) := by
      have:=(fits_nat (p:=p) (m:=3) (Nat.le_trans (bl_le 3 2 (by decide)) (by omega))).pw (-1);have e:((3:Nat):Rat)*pw (-1)=3/2:=by decide +kernel
      rwa [e] at this
     have:=dir_le f1 hf (by grind)
     grind
    ·have := eS_tail (Rat.le_of_lt rp) rt j n
     grind
 ·have h0 := b3 (by omega);have hr60:topD r < -60:=by omega
  cases up with
  | false =>
    show NearLo _ _ _
    refine ⟨.inl ⟨h0,hr60⟩,1,by omega,?_⟩
    show (nearS p false s t').q≤_
    rw [h0,dz_q,eS_one]
    decide
  | true =>
    show NearHi p r (nearS p true (nearS p true s t') t')
    rw [h0];have e:nearS p true dz t'=rndS p true t':=by
     unfold nearS sumD;rw [if_pos (show dz.m=0 from rfl)]
     rfl
    rw [e];have tt:topD t'≤0:=by
     have c:=(q_top a1 a2).1;have d:=pw_mono (show -8*(j:Int)≤-8 by omega);have f:pw (topD t'-1)≤pw (-8):=by grind
     have:=pw_inv f;omega
    have hr3:topD r=(bl r.m:Int)+r.e:=rfl;have te:-5000≤t'.e:=by omega
    obtain ⟨c1,c2,c3,c4⟩:=rndS_dir (up:=true) (by omega) p2 a1 (by omega) (by omega);refine ⟨c3,c2.trans a2,c4,.inl ⟨hr60,?_,?_⟩⟩
    ·have f2 := fits_pw (p := p) (by omega) (-1);have e2:=pw_m1;rw [←e2];exact dir_le c1 f2 (Rat.le_trans a4 (pw_mono (by omega)))
    ·have u1 := dir_ge c1 (fits_pw (by omega) (topD t' - 1)) (q_top a1 a2).1;have:=top_ge c3 (c2.trans a2) u1;have e3:topD t'=(bl t'.m:Int)+t'.e:=rfl;omega
theorem near_go {p:Nat}{up:Bool}{r:Dy}(p1:17≤p)(p2:p≤2000)(hr:r.m≠0)(rn:r.neg=false)(hr1:-500≤r.e)(hr2:topD r≤-8):∀ (f j:Nat) (s t:Dy) (o:Dy × Dy),NI p up r.q j s t→1≤j→j+f≤498→nearG p up r f j s t=some o →
 if up then NearHi p r (nearD p up o) else NearLo p r (nearD p up o)
 | 0,j,s,t,o,_,_,_,h=>by simp [nearG] at h
 | f + 1, j, s, t, o, hI, j1, j2, h => by
   rw [nearG] at h
   split at h
   ·obtain rfl := Option.some.inj h;exact near_end p1 p2 hr rn hr1 hr2 j1 (by omega) hI
   ·rename_i hc
    obtain ⟨a1,a2,a3,a4,a5,a6⟩:=near_term (up:=up) (s:=s) (by omega) p2 hr rn hr1 hr2 j1 (by omega) hI;obtain ⟨b1,b2,b3⟩:=hI.next p1 p2 hr rn hr1 hr2 j1 (by omega);have he:-4095≤(nearT p up r t j).e:=by
     have:¬(bl (nearT p up r t j).m:Int)+(nearT p up r t j).e < -(p:Int)-8:=hc;omega
    obtain ⟨c1,c2,c3,c4,c5,c6⟩:=b2 he;refine near_go p1 p2 hr rn hr1 hr2 f (j+1) _ _ o ⟨c1,c2,c3,c4,c5,a1,a2,a3,?_,by omega,?_⟩ (by omega) (by omega) h
    ·have e : -8 * (((j + 1 : Nat) : Int) - 1) = -8 * (j : Int) := by omega
     rw [e];exact a4
    ·cases up with
     | true=>exact ⟨a6,c6⟩
     | false=>exact ⟨a6,c6⟩
end Go.Proofs.YtabjjdicffcolaaGreatDoor
namespace Go.Proofs.YtabjjdicffcolaaGreatDoor
open Go.Lib (hid)
open Go.RowKit
def nearO (p:Nat) (up:Bool) (d:Dy):Dy × Dy:=(nearG p up (bndR (absD d)) 400 1 one one).getD (one,one)
def bnE (d:Dy) (w:Nat):Dy × Dy:=bndsD w d (bndD w false d (nearO w false d)) (bndD w true d (nearO w true d))
def exX (d:Dy) (p w:Nat) (up:Bool):Dy:=rndS p up (bnE d w).1
def exY (d:Dy) (p w:Nat) (up:Bool):Dy:=rndS p up (bnE d w).2
def expL (d:Dy) (p:Nat) (up:Bool):Nat→Nat→Outc Dy
 | 0,_=>bad 2
 | f+1,w=>if 2000<w then bad 2 else if sameR (exX d p w up).raw (exY d p w up).raw=true then good (exX d p w up) else expL d p up f (w+w/2)
def expD (d:Dy) (p:Nat) (up:Bool):Outc Dy:=if mayX d.raw p≠0 then bad (mayX d.raw p) else if d.m=0 then good one else expL d p up 2000 (p+40)
theorem exX_ok (d:Dy)(p w:Nat)(up:Bool):(exX d p w up).Ok:=rndS_ok _ _ _
theorem expL_ok (d:Dy)(p:Nat)(up:Bool):∀ f w,(expL d p up f w).Ok
 | 0,_=>bad_ok _
 | f + 1, w => by
   rw [expL]
   split
   ·exact bad_ok _
   ·split
    ·exact good_ok (exX_ok _ _ _ _)
    ·exact expL_ok d p up f _
theorem expD_ok (d:Dy)(p:Nat)(up:Bool):(expD d p up).Ok:=by
 unfold expD
 split
 ·exact bad_ok _
 ·split
  ·exact good_ok d1_ok
  ·exact expL_ok _ _ _ _ _
def ExB (S:Nat) (z:Bool) (d:Dy) (v:Value) (w:World):Prop:=∃ b,v=.pointer (some ⟨b,0,none⟩)∧S≤b∧(z=false→Blk w b (.bool false) (.slice none 0 0) (.int .i64 0)) ∧
 (z=true→∃ A l c,Blk w b (.bool d.neg) (.slice A l c) (.int .i64 d.e)∧DyR w (.agg #[.bool d.neg,.slice A l c,.int .i64 d.e]) d.raw)
theorem ExB.kept {S:Nat}{z:Bool}{d:Dy}{v:Value}{w w':World}(h:ExB S z d v w)(k:Kept w w'):ExB S z d v w':=by
 obtain ⟨b,h1,h2,h4,h5⟩:=h;exact ⟨b,h1,h2,fun e=>(h4 e).kept k,fun e=>by obtain ⟨A,l,c,a1,a2⟩:=h5 e;exact ⟨A,l,c,a1.kept k,a2.kept k⟩⟩
theorem ExB.ne {S:Nat}{z:Bool}{d:Dy}{v:Value}{w:World}(h:ExB S z d v w):v≠.pointer (some ⟨w.heap.size,0,none⟩):=by
 obtain ⟨b,rfl,h2,h4,h5⟩:=h;intro e;have hb:b<w.heap.size:=by
  cases z with
  | false=>exact (h4 rfl).facts.1
  | true=>obtain ⟨A,l,c,a1,a2⟩:=h5 rfl;exact a1.facts.1
 cases e;omega
theorem ExB.new {S:Nat}(d:Dy){w:World}(h:S≤w.heap.size):ExB S false d (.pointer (some ⟨w.heap.size,0,none⟩)) (w.alloc (.cells #[.bool false,.slice none 0 0,.int .i64 0] 28)) :=
 ⟨_,rfl,h,fun _=>blk_new0 _,fun e=>by cases e⟩
theorem ExB.other {S b0:Nat}{z:Bool}{d:Dy}{v:Value}{w:World}(h:ExB S z d v w)(hb:Blk w b0 (.bool false) (.slice none 0 0) (.int .i64 0))(hv:v≠.pointer (some ⟨b0,0,none⟩))(x' y' z':Value) :
 ExB S z d v (dyW w b0 x' y' z'):=by
 obtain ⟨b,h1,h2,h4,h5⟩:=h;have hne:¬b=b0:=fun e=>hv (by rw [h1,e])
 refine ⟨b,h1,h2,fun e=>(h4 e).laid_other hne _ _ _,fun e=>?_⟩;obtain ⟨A,l,c,a1,a2⟩:=h5 e;exact ⟨A,l,c,a1.laid_other hne _ _ _,a2.dyW hb (noLimb_bool _) (noLimb_slice _ _ _) (noLimb_i64 _) _ _ _⟩
theorem ExB.laid {S b0:Nat}{d:Dy}{w:World}{A:Option Addr}{l c:Nat}(hb:Blk w b0 (.bool false) (.slice none 0 0) (.int .i64 0))(hS:S≤b0)(hd:DyR w (.agg #[.bool d.neg,.slice A l c,.int .i64 d.e]) d.raw) :
 ExB S true d (.pointer (some ⟨b0,0,none⟩)) (dyW w b0 (.bool d.neg) (.slice A l c) (.int .i64 d.e)) :=
 ⟨_,rfl,hS,fun e=>(by cases e),fun _=>⟨A,l,c,hb.laid _ _ _,hd.dyW hb (noLimb_bool _) (noLimb_slice _ _ _) (noLimb_i64 _) _ _ _⟩⟩
def ExG (S:Nat) (x y:Dy) (L:Nat→Bool) (u:Nat→Value) (w:World):Prop :=
 (L 10=true→ExB S (L 12) x (u 10) w)∧(L 11=true→ExB S (L 13) y (u 11) w)∧(L 10=true→L 11=true→u 10≠u 11)∧(L 10=false→L 12=false)∧(L 11=false→L 13=false)
theorem ExG.keep {S:Nat}{x y:Dy}{L:Nat→Bool}{u:Nat→Value}{w w':World}{i:Nat}{v:Value}(hE:(i==10||i==11||i==12||i==13)=false)(k:Kept w w')(h:ExG S x y L u w):ExG S x y (upd L i true) (upd u i v) w':=by
 simp only [Bool.or_eq_false_iff,beq_eq_false_iff_ne] at hE;obtain ⟨⟨⟨h10,h11⟩,h12⟩,h13⟩:=hE;obtain ⟨a,b,c,d,e⟩:=h;have u1:∀ {α:Type} (f:Nat→α) (x:α) (j:Nat),¬i=j→upd f i x j=f j:=fun f x j hj=>by unfold upd;rw [if_neg (fun e=>hj e.symm)]
 refine ⟨?_,?_,?_,?_,?_⟩<;>simp only [u1 _ _ 10 h10,u1 _ _ 11 h11,u1 _ _ 12 h12,u1 _ _ 13 h13]
 ·exact fun q=>(a q).kept k
 ·exact fun q=>(b q).kept k
 ·exact c
 ·exact d
 ·exact e
theorem ExG.put10 {S:Nat}{x y:Dy}{L:Nat→Bool}{u:Nat→Value}{w:World}(hS:S≤w.heap.size)(h:ExG S x y L u w)(h0:L 10=false) :
 ExG S x y (upd L 10 true) (upd u 10 (.pointer (some ⟨w.heap.size,0,none⟩))) (w.alloc (.cells #[.bool false,.slice none 0 0,.int .i64 0] 28)):=by
 obtain ⟨a,b,c,d,e⟩:=h;have h12:=d h0;unfold ExG;simp only [upd,reduceIte,Nat.reduceEqDiff,h12];exact ⟨fun _=>ExB.new x hS,fun q=>(b q).kept (kept_alloc _ _),fun _ q=>fun e=>(b q).ne e.symm,fun q=>trivial,e⟩
theorem ExG.put11 {S:Nat}{x y:Dy}{L:Nat→Bool}{u:Nat→Value}{w:World}(hS:S≤w.heap.size)(h:ExG S x y L u w)(h0:L 11=false) :
 ExG S x y (upd L 11 true) (upd u 11 (.pointer (some ⟨w.heap.size,0,none⟩))) (w.alloc (.cells #[.bool false,.slice none 0 0,.int .i64 0] 28)):=by
 obtain ⟨a,b,c,d,e⟩:=h;have h13:=e h0;unfold ExG;simp only [upd,reduceIte,Nat.reduceEqDiff,h13];exact ⟨fun q=>(a q).kept (kept_alloc _ _),fun _=>ExB.new y hS,fun q _=>(a q).ne,d,fun q=>trivial⟩
theorem ExG.put12 {S b0:Nat}{x y:Dy}{L:Nat→Bool}{u:Nat→Value}{w:World}{A:Option Addr}{l c:Nat}{v:Value}(h:ExG S x y L u w)(h0:L 10=true)(e0:u 10=.pointer (some ⟨b0,0,none⟩))(hS:S≤b0)
 (hb:Blk w b0 (.bool false) (.slice none 0 0) (.int .i64 0)) (hd:DyR w (.agg #[.bool x.neg,.slice A l c,.int .i64 x.e]) x.raw) :
 ExG S x y (upd L 12 true) (upd u 12 v) (dyW w b0 (.bool x.neg) (.slice A l c) (.int .i64 x.e)):=by
 obtain ⟨a,b,c,d,e⟩:=h;unfold ExG;simp only [upd,reduceIte,Nat.reduceEqDiff,h0];refine ⟨fun _=>by rw [e0];exact ExB.laid hb hS hd,fun q=>(b q).other hb (fun ee=>c h0 q (e0.trans ee.symm)) _ _ _,fun _ q=>c h0 q,fun q=>by (cases q),e⟩
theorem ExG.put13 {S b0:Nat}{x y:Dy}{L:Nat→Bool}{u:Nat→Value}{w:World}{A:Option Addr}{l c:Nat}{v:Value}(h:ExG S x y L u w)(h0:L 11=true)(e0:u 11=.pointer (some ⟨b0,0,none⟩))(hS:S≤b0)
 (hb:Blk w b0 (.bool false) (.slice none 0 0) (.int .i64 0)) (hd:DyR w (.agg #[.bool y.neg,.slice A l c,.int .i64 y.e]) y.raw) :
 ExG S x y (upd L 13 true) (upd u 13 v) (dyW w b0 (.bool y.neg) (.slice A l c) (.int .i64 y.e)):=by
 obtain ⟨a,b,c,d,e⟩:=h;unfold ExG;simp only [upd,reduceIte,Nat.reduceEqDiff,h0];refine ⟨fun q=>(a q).other hb (fun ee=>c q h0 (ee.trans e0.symm)) _ _ _,fun _=>by rw [e0];exact ExB.laid hb hS hd,fun q _=>c q h0,d,fun q=>by (cases q)⟩
theorem dyR_dz (w:World):DyR w (.agg #[.bool false,.slice none 0 0,.int .i64 0]) (bad 2:Outc Dy).raw.v:=by
 have h:(bad 2:Outc Dy).raw.v=rz:=dz_raw;rw [h];exact dyR_zero w
theorem xexpL_c {w:World}{v:Value}{d:Dy}{p:Nat}{up:Bool}(hv:DyR w v d.raw)(ok:d.Ok)(p1:1≤p)(p2:p≤300)(hT:Tab w)(h0:mayX d.raw p=0)(hz:d.m≠0)
 (hB:∀ wk:Nat,1≤wk→wk≤2000→∀ w1,Kept w w1→Calls Tryz.prog 184 #[v,.int .i64 (wk:Int)] w1 (RetDD (bnE d wk).1.raw (bnE d wk).2.raw w1))
 (hO:∀ wk,(bnE d wk).1.Ok∧(bnE d wk).2.Ok) :
 Calls Tryz.prog 144 #[v,.int .i64 (p:Int),.bool up] w (RetE (expL d p up 2000 (p+40)).raw w):=by
 have C:=hid (fun w1 (k:Kept w w1)=>xmay_c (p:=(p:Int)) (hv.kept k) (by have:=dy_len ok;omega) (hT.kept k));rw [h0] at C;have CB:=hid hB;have C1:=hid (fun (wk:Nat) w1 v (k:Kept w w1) (h:DyR w1 v (bnE d wk).1.raw)=>show Calls Tryz.prog 185 #[.agg #[.int .i64 (p:Int),.bool up],v] w1 (RetD (exX d p wk up).raw w1) from xround_c h (hO wk).1 p1 (by omega) (hT.kept k));have C2:=hid (fun (wk:Nat) w1 v (k:Kept w w1) (h:DyR w1 v (bnE d wk).2.raw)=>show Calls Tryz.prog 185 #[.agg #[.int .i64 (p:Int),.bool up],v] w1 (RetD (exY d p wk up).raw w1) from xround_c h (hO wk).2 p1 (by omega) (hT.kept k))
 have CS:=hid (fun (wk:Nat) w1 v u (h:DyR w1 v (exX d p wk up).raw) (h2:DyR w1 u (exY d p wk up).raw)=>show Calls Tryz.prog 35 #[v,u] w1 (RetK (.bool (sameR (exX d p wk up).raw (exY d p wk up).raw)) w1) from
  dsame_c h h2 (by have:=dy_len (exX_ok d p wk up);omega))
 obtain ⟨A,l,c,rfl,hl,-,-,-⟩:=hv.shape;have hl0:((l:Int)==0)=false:=by
  have:=length_limbs_pos d.m hz;rw [beq_eq_false_iff_ne,hl]
  show ((limbs d.m).length:Int)≠0
  omega
 clear hv hl hT ok hz h0 hB hO;obtain ⟨fu,hf0⟩:∃ f,f=2000:=⟨_,rfl⟩;rw [←hf0];obtain ⟨o,ho⟩:∃ o,o=expL d p up fu (p+40):=⟨_,rfl⟩;rw [←ho];have HO:=hid ho;have HF:=hid hf0;clear ho hf0;generalize hn1:d.raw.neg=n1 at *;generalize he1:d.raw.e=e1 at *;clear hn1 he1;obtain ⟨W,hW,kW,BA,BR⟩:=boxes1r w (.bool n1) (.slice A l c) (.int .i64 e1);have HW:=hid hW;have K:=hid kW;have HA:=hid BA;have HB:=hid BR;obtain ⟨-,a0,a1,a2,-⟩:=BA.facts;clear hW kW BA BR
 go_enter Tryz.func144,Tryz.ntmps144
 go_upto_region 1 with fail
 rw [←HW.out]
 go_step3
 go_wp2_with fail;refine (C.out _ K.out).mono ?_;rintro ee w1 ⟨rfl,q⟩;simp only [];replace K:=hid (K.out.trans q);replace HA:=hid (HA.out.kept q);replace HB:=hid (HB.out.kept q);clear q a0 a1 a2 HW C;obtain ⟨-,a0,a1,a2,-⟩:=HA.out.facts;go_wp2_with fail
 go_step3
 go_wp2_with fail;clear a0 a1 a2 hl0
 go_loopw [9] (fun j wr=>∃ f wk:Nat,j=.int .i64 (wk:Int)∧2≤wk∧2000<wk+f∧expL d p up f wk=o∧wk≤3000∧Kept w wr∧Blk wr w.heap.size (.bool n1) (.slice A l c) (.int .i64 e1) ∧
  Blk wr (w.heap.size+1) (.bool false) (.slice none 0 0) (.int .i64 0)) (fun j _=>(3001-intOf j).toNat)
 case atStart=>exact ⟨fu,p+40,by simp,by omega,by have:=HF.out;omega,HO.out.symm,by omega,K.out,HA.out,HB.out⟩
 case round =>
  clear HO K HA HB;obtain ⟨f,wk,rfl,hw1,hw2,hE,hw3,hK,hA,hB⟩:=hrel;have K:=hid hK;have HA:=hid hA;have HB:=hid hB;have HE:=hid hE;clear hK hA hB hE;obtain ⟨-,a0,a1,a2,-⟩:=HA.out.facts;obtain ⟨-,x0,x1,x2,y0,y1,y2⟩:=HB.out.facts;cases f with
  | zero =>
    have hwk:2000<wk:=by omega
    have ho:o=bad 2:=HE.out.symm;subst ho;clear HE;go_wp2_with fail;exact ret_dy2 (HB.out.laid _ _ _) rfl rfl rfl ⟨dyW_kept K.out (by omega),_,rfl,dyR_dz _⟩
  | succ f =>
    have hE:=HE.out;rw [expL] at hE
    by_cases hwk:2000<wk
    ·rw [if_pos hwk] at hE;subst hE;clear HE;go_wp2_with fail;exact ret_dy2 (HB.out.laid _ _ _) rfl rfl rfl ⟨dyW_kept K.out (by omega),_,rfl,dyR_dz _⟩
    ·rw [if_neg hwk] at hE;replace HE:=hid hE;have hwk':wk≤2000:=by omega
     clear hE hwk;have CBw:=hid (CB.out wk (by omega) hwk');go_wp2_with fail;refine (CBw.out _ K.out).mono ?_;rintro ee w2 ⟨q,va,vb,rfl,h1,h2⟩;obtain ⟨A1,j1,c1,rfl,h1⟩:=dyR_split h1;obtain ⟨A2,j2,c2,rfl,h2⟩:=dyR_split h2;simp only [];obtain ⟨W2,hW2,kW2,BL,BH⟩:=boxes2 w2 (.bool (bnE d wk).1.neg) (.slice A1 j1 c1) (.int .i64 (bnE d wk).1.e) (.bool (bnE d wk).2.neg) (.slice A2 j2 c2) (.int .i64 (bnE d wk).2.e);have HW2:=hid hW2;have kk:=q.trans kW2;have lR:w.heap.size+1<w2.heap.size:=Nat.lt_of_lt_of_le HB.out.facts.1 q.size;have lW:w2.heap.size≤W2.heap.size:=kW2.size;replace K:=hid (K.out.trans kk)
     replace HA:=hid (HA.out.kept kk);replace HB:=hid (HB.out.kept kk);have HL:=hid BL;have HH:=hid BH;have ZL:=hid (h1.kept kW2);have ZH:=hid (h2.kept kW2);clear hW2 kW2 BL BH q h1 h2 kk CBw a0 a1 a2 x0 x1 x2 y0 y1 y2;replace C1:=hid (C1.out wk);replace C2:=hid (C2.out wk);replace CS:=hid (CS.out wk);generalize bnE d wk=lh at *;obtain ⟨lo,hi⟩:=lh;generalize hxe:exX d p wk up=x at *;generalize hye:exY d p wk up=y at *;clear hxe hye
     go_upto_region 10 with fail
     rw [←HW2.out];clear HW2;generalize w2.heap.size=b10 at *;have NN:∀ b:Nat,b∉([]:List Nat):=fun b=>by simp
     refine region_linY (m:=14) (E:=fun i=>i==10||i==11||i==12||i==13) (G:=fun L u w'=>ExG W2.heap.size x y L u w') (J:=fun L w=>KB W2 [] w∧(fun L w'=>True) L w) (l:=[
      (vE (.int .i64 (p:Int))),
      (vE (.bool up)),
      (vE (.agg #[.int .i64 (p:Int),.bool up])),
      (vE (.agg #[.bool lo.neg,.slice A1 j1 c1,.int .i64 lo.e])),
      (fun v wv=>DyR wv v x.raw),
      (vE (.int .i64 (p:Int))),
      (vE (.bool up)),
      (vE (.agg #[.int .i64 (p:Int),.bool up])),
      (vE (.agg #[.bool hi.neg,.slice A2 j2 c2,.int .i64 hi.e])),
      (fun v wv=>DyR wv v y.raw),
      (fun v _=>∃ b,v=.pointer (some ⟨b,0,none⟩)),
      (fun v _=>∃ b,v=.pointer (some ⟨b,0,none⟩)),
      (fun v _=>True),
      (fun v _=>True)])
      (by kernel_rfl) (fun i hE L u v w w' k h=>by exact ExG.keep hE k h) (by exact ⟨fun e=>(by cases e),fun e=>(by cases e),fun e=>(by cases e),fun _=>rfl,fun _=>rfl⟩) rfl (by kernel_rfl) (by kernel_rfl) (by kernel_rfl) ⟨mE,mE,mE,mE,mD,mE,mE,mE,mE,mD,fun v w w' k h=>by first | exact h | exact h.kept k | exact ⟨h.1,h.2.kept k⟩,fun v w w' k h=>by first | exact h | exact h.kept k | exact ⟨h.1,h.2.kept k⟩,fun v w w' k h=>by first | exact h | exact h.kept k | exact ⟨h.1,h.2.kept k⟩,fun v w w' k h=>by first | exact h | exact h.kept k | exact ⟨h.1,h.2.kept k⟩,trivial⟩ ⟨(KB.refl _ _).drew,(by trivial)⟩ (⟨
        (.inl ⟨rfl,fun LF aF wF F=>by
      have FK:KB W2 [] wF:=F.frame.1;have fj:=F.frame.2;refine ⟨fun wq kq=>⟨FK.step kq,by trivial⟩,?_⟩;have s1:aF.tmps.getD 1 undef=.int .i64 (p:Int):=F.o 1
      exact sv rfl⟩),
       (.inl ⟨rfl,fun LF aF wF F=>by
      have FK:KB W2 [] wF:=F.frame.1;have fj:=F.frame.2;refine ⟨fun wq kq=>⟨FK.step kq,by trivial⟩,?_⟩;have s2:aF.tmps.getD 2 undef=.bool up:=F.o 2
      exact sv rfl⟩),
       (.inl ⟨rfl,fun LF aF wF F=>by
      have FK:KB W2 [] wF:=F.frame.1;have fj:=F.frame.2;refine ⟨fun wq kq=>⟨FK.step kq,by trivial⟩,?_⟩;have s42:=F.v 0 42;have s43:=F.v 1 43;simp only [Array.getD_eq_getD_getElem?] at s42;simp only [Array.getD_eq_getD_getElem?] at s43
      exact sv rfl⟩),
       (.inl ⟨rfl,fun LF aF wF F=>by
      have FK:KB W2 [] wF:=F.frame.1;have fj:=F.frame.2;refine ⟨fun wq kq=>⟨FK.step kq,by trivial⟩,?_⟩;have s10:aF.tmps.getD 10 undef=(.pointer (some ⟨b10,0,none⟩)):=F.o 10;have c0:=cell_atX HL.out FK (NN _) 0 _ rfl;have c1:=cell_atX HL.out FK (NN _) 1 _ rfl;have c2:=cell_atX HL.out FK (NN _) 2 _ rfl
      exact sv rfl⟩),
       (.inl ⟨rfl,fun LF aF wF F=>by
      have FK:KB W2 [] wF:=F.frame.1;have fj:=F.frame.2;refine ⟨fun wq kq=>⟨FK.step kq,by trivial⟩,?_⟩;have s44:=F.v 2 44;have s45:=F.v 3 45
      exact step_good (by simp [Region.wanted]) (by go_simp) (C1.out _ _ (K.out.trans FK.nil) (ZL.out.kept FK.nil)) (fun _ _ h=>RetD.good h) (fun _ _ h=>h)⟩),
       (.inl ⟨rfl,fun LF aF wF F=>by
      have FK:KB W2 [] wF:=F.frame.1;have fj:=F.frame.2;refine ⟨fun wq kq=>⟨FK.step kq,by trivial⟩,?_⟩;have s1:aF.tmps.getD 1 undef=.int .i64 (p:Int):=F.o 1
      exact sv rfl⟩),
       (.inl ⟨rfl,fun LF aF wF F=>by
      have FK:KB W2 [] wF:=F.frame.1;have fj:=F.frame.2;refine ⟨fun wq kq=>⟨FK.step kq,by trivial⟩,?_⟩;have s2:aF.tmps.getD 2 undef=.bool up:=F.o 2
      exact sv rfl⟩),
       (.inl ⟨rfl,fun LF aF wF F=>by
      have FK:KB W2 [] wF:=F.frame.1;have fj:=F.frame.2;refine ⟨fun wq kq=>⟨FK.step kq,by trivial⟩,?_⟩;have s47:=F.v 5 47;have s48:=F.v 6 48;simp only [Array.getD_eq_getD_getElem?] at s47;simp only [Array.getD_eq_getD_getElem?] at s48
      exact sv rfl⟩),
       (.inl ⟨rfl,fun LF aF wF F=>by
      have FK:KB W2 [] wF:=F.frame.1;have fj:=F.frame.2;refine ⟨fun wq kq=>⟨FK.step kq,by trivial⟩,?_⟩;have s11:aF.tmps.getD 11 undef=(.pointer (some ⟨b10+1,0,none⟩)):=F.o 11;have c0:=cell_atX HH.out FK (NN _) 0 _ rfl;have c1:=cell_atX HH.out FK (NN _) 1 _ rfl;have c2:=cell_atX HH.out FK (NN _) 2 _ rfl
      exact sv rfl⟩),
       (.inl ⟨rfl,fun LF aF wF F=>by
      have FK:KB W2 [] wF:=F.frame.1;have fj:=F.frame.2;refine ⟨fun wq kq=>⟨FK.step kq,by trivial⟩,?_⟩;have s49:=F.v 7 49;have s50:=F.v 8 50
      exact step_good (by simp [Region.wanted]) (by go_simp) (C2.out _ _ (K.out.trans FK.nil) (ZH.out.kept FK.nil)) (fun _ _ h=>RetD.good h) (fun _ _ h=>h)⟩),
       (.inr fun LF uF aF wF F FV=>by
      have FK:KB W2 [] wF:=F.frame.1;have fj:=F.frame.2
      exact stepGU_set (by simp [Region.wanted]) (by go_simp) ⟨(FK.nil.trans (kept_alloc _ _)).kb [],trivial⟩ (stab_of _ ⟨.inr vS,.inr vS,.inr vS,.inr vS,.inr (fun u h=>by first | exact h.kept (kept_alloc _ _) | exact h),.inr vS,.inr vS,.inr vS,.inr vS,.inr (fun u h=>by first | exact h.kept (kept_alloc _ _) | exact h),.inl rfl,.inr (fun u h=>by first | exact h.kept (kept_alloc _ _) | exact h),.inr (fun u h=>h),.inr (fun u h=>h),trivial⟩) ⟨_,rfl⟩ (FV.g.put10 FK.size F.yet)),
       (.inr fun LF uF aF wF F FV=>by
      have FK:KB W2 [] wF:=F.frame.1;have fj:=F.frame.2
      exact stepGU_set (by simp [Region.wanted]) (by go_simp) ⟨(FK.nil.trans (kept_alloc _ _)).kb [],trivial⟩ (stab_of _ ⟨.inr vS,.inr vS,.inr vS,.inr vS,.inr (fun u h=>by first | exact h.kept (kept_alloc _ _) | exact h),.inr vS,.inr vS,.inr vS,.inr vS,.inr (fun u h=>by first | exact h.kept (kept_alloc _ _) | exact h),.inr (fun u h=>by first | exact h.kept (kept_alloc _ _) | exact h),.inl rfl,.inr (fun u h=>h),.inr (fun u h=>h),trivial⟩) ⟨_,rfl⟩ (FV.g.put11 FK.size F.yet)),
       (.inr fun LF uF aF wF F FV=>by
      have FK:KB W2 [] wF:=F.frame.1;have fj:=F.frame.2;have s12:=F.p 10 12;have s46:=F.p 4 46
      obtain ⟨b,hb,hS,B0,-⟩:=FV.g.1 (F.wait 10 (by kernel_rfl));replace B0:=B0 F.yet;have e12:=(FV.eq 10 12 (by kernel_rfl) rfl).trans hb;clear s12;obtain ⟨A3,j3,c3,e46,z1⟩:=dyR_split s46;obtain ⟨-,y0,y1,y2,g0,g1,g2⟩:=B0.facts;exact stepGU_store (w':=dyW wF b (.bool x.neg) (.slice A3 j3 c3) (.int .i64 x.e)) (by simp [Region.wanted]) (by go_simp;rfl) ⟨(dyW_kept FK.nil hS).kb [],trivial⟩ (stab_of _ ⟨.inr vS,.inr vS,.inr vS,.inr vS,.inr (fun u h=>by first | exact h.dyW B0 (noLimb_bool _) (noLimb_slice _ _ _) (noLimb_i64 _) _ _ _ | exact h),.inr vS,.inr vS,.inr vS,.inr vS,.inr (fun u h=>by first | exact h.dyW B0 (noLimb_bool _) (noLimb_slice _ _ _) (noLimb_i64 _) _ _ _ | exact h),.inr (fun u h=>by first | exact h.dyW B0 (noLimb_bool _) (noLimb_slice _ _ _) (noLimb_i64 _) _ _ _ | exact h),.inr (fun u h=>by first | exact h.dyW B0 (noLimb_bool _) (noLimb_slice _ _ _) (noLimb_i64 _) _ _ _ | exact h),.inl rfl,.inr (fun u h=>h),trivial⟩) trivial (FV.g.put12 (F.wait 10 (by kernel_rfl)) hb hS B0 z1)),
       (.inr fun LF uF aF wF F FV=>by
      have FK:KB W2 [] wF:=F.frame.1;have fj:=F.frame.2;have s13:=F.p 11 13;have s51:=F.p 9 51
      obtain ⟨b,hb,hS,B0,-⟩:=FV.g.2.1 (F.wait 11 (by kernel_rfl));replace B0:=B0 F.yet;have e13:=(FV.eq 11 13 (by kernel_rfl) rfl).trans hb;clear s13;obtain ⟨A3,j3,c3,e51,z1⟩:=dyR_split s51;obtain ⟨-,y0,y1,y2,g0,g1,g2⟩:=B0.facts;exact stepGU_store (w':=dyW wF b (.bool y.neg) (.slice A3 j3 c3) (.int .i64 y.e)) (by simp [Region.wanted]) (by go_simp;rfl) ⟨(dyW_kept FK.nil hS).kb [],trivial⟩ (stab_of _ ⟨.inr vS,.inr vS,.inr vS,.inr vS,.inr (fun u h=>by first | exact h.dyW B0 (noLimb_bool _) (noLimb_slice _ _ _) (noLimb_i64 _) _ _ _ | exact h),.inr vS,.inr vS,.inr vS,.inr vS,.inr (fun u h=>by first | exact h.dyW B0 (noLimb_bool _) (noLimb_slice _ _ _) (noLimb_i64 _) _ _ _ | exact h),.inr (fun u h=>by first | exact h.dyW B0 (noLimb_bool _) (noLimb_slice _ _ _) (noLimb_i64 _) _ _ _ | exact h),.inr (fun u h=>by first | exact h.dyW B0 (noLimb_bool _) (noLimb_slice _ _ _) (noLimb_i64 _) _ _ _ | exact h),.inr (fun u h=>h),.inl rfl,trivial⟩) trivial (FV.g.put13 (F.wait 11 (by kernel_rfl)) hb hS B0 z1)),
       trivial⟩) ?_
     intro u w5 L1 hL j1 hu hg;obtain ⟨hgx,hgy,hgn,-,-⟩:=hg;replace hgx:=hgx (hL 10 (by decide));replace hgy:=hgy (hL 11 (by decide));rw [hL 12 (by decide)] at hgx;rw [hL 13 (by decide)] at hgy;obtain ⟨q5,j1⟩:=j1;have p46:=hp hu 4;have p51:=hp hu 9;have p12:=hp hu 10;have p13:=hp hu 11;simp only [puts,slotOf,if_true,Act.put,z1,z2,z3,z4,z5,z6,z7,hv hu 0,hv hu 1,hv hu 2,hv hu 3,hv hu 5,hv hu 6,hv hu 7,hv hu 8];clear hu;generalize u 4=v46 at *;generalize u 9=v51 at *;generalize u 10=v12 at *;generalize u 11=v13 at *;obtain ⟨b12,rfl,hb12,-,hx⟩:=hgx;obtain ⟨b13,rfl,hb13,-,hy⟩:=hgy;obtain ⟨A3,j3,c3,BX,Z3⟩:=hx rfl
     obtain ⟨A4,j4,c4,BY,Z4⟩:=hy rfl;have lX:w.heap.size+1<b12:=by omega
     replace K:=hid (K.out.trans q5.nil);replace HA:=hid (HA.out.kept q5.nil);replace HB:=hid (HB.out.kept q5.nil);have HX:=hid BX;have HY:=hid BY;replace Z3:=hid Z3;replace Z4:=hid Z4;clear hx hy BX BY q5 j1 hL hgn p46 p51 p12 p13 HL HH ZL ZH C1 C2;obtain ⟨-,a0,a1,a2,-⟩:=HX.out.facts;obtain ⟨-,x0,x1,x2,-⟩:=HY.out.facts;go_wp2_with fail;refine (CS.out _ _ _ Z3.out Z4.out).mono ?_;rintro ee w6 ⟨rfl,q⟩;simp only [];replace K:=hid (K.out.trans q);replace HA:=hid (HA.out.kept q);replace HB:=hid (HB.out.kept q);replace HX:=hid (HX.out.kept q);replace Z3:=hid (Z3.out.kept q);clear q a0 a1 a2 x0 x1 x2 HY Z4 CS
     cases hsm:sameR x.raw y.raw with
     | true =>
       rw [hsm,if_pos rfl] at HE;have ho:=HE.out;subst ho;clear HE;obtain ⟨-,a0,a1,a2,-⟩:=HX.out.facts;obtain ⟨-,x0,x1,x2,y0,y1,y2⟩:=HB.out.facts;go_wp2_with fail;rw [Exit.noGoto_ret];exact ret_dy2 (HB.out.laid _ _ _) rfl rfl rfl ⟨dyW_kept K.out (by omega),_,rfl,Z3.out.dyW HB.out (noLimb_bool _) (noLimb_slice _ _ _) (noLimb_i64 _) _ _ _⟩
     | false =>
       rw [hsm,if_neg (by decide)] at HE;go_wp2_with fail;exact ⟨⟨f,wk+wk/2,congrArg (Value.int .i64) (by omega),by omega,by omega,HE.out,by omega,K.out,HA.out,HB.out⟩,by simp [intOf];omega⟩
theorem far_q:far.q=64:=by
 have h:pw 6=((2^6:Nat):Rat):=pw_nat 6
 show (1:Rat)*pw 6=64
 rw [h,Rat.one_mul]
 rfl
theorem top_of_q {m:Nat}{e:Int}(h0:m≠0)(h:(m:Rat)*pw e≤64):(bl m:Int)+e≤7:=by
 by_cases hc:(bl m:Int)+e≤7
 ·exact hc
 ·exfalso
  have hp:=bl_pos m h0;have h2:pw ((bl m-1:Nat):Int)≤(m:Rat):=by rw [pw_nat];exact Rat.natCast_le_natCast.2 (two_bl_le m h0)
  have h3:pw ((bl m-1:Nat):Int)*pw e≤(m:Rat)*pw e:=Rat.mul_le_mul_of_nonneg_right h2 (pw_nonneg e);rw [←pw_add] at h3;have h4:pw 7≤pw (((bl m-1:Nat):Int)+e):=pw_mono (by omega);have h5:pw 7=128:=(pw_nat 7).trans (by rfl)
  grind
theorem mayX_facts {d:Dy}{p:Int}(h:mayX d.raw p=0):-400≤d.e∧(d.m≠0→topD (absD d)≤7):=by
 unfold mayX at h
 split at h
 ·split at h
  ·rename_i h1 h2
   split at h
   ·exact absurd h (by decide)
   ·rename_i h3
    refine ⟨by have:d.raw.e=d.e:=rfl;omega,fun h0=>?_⟩;simp only [Bool.and_eq_true,decide_eq_true_eq,Dy.raw_dy] at h2;have a:=cmpQ_le.1 h2.1;have b:=cmpQ_ge.1 h2.2;rw [negD_q] at b;rw [far_q] at a b;refine top_of_q h0 ?_
    show (d.m:Rat)*pw d.e≤64
    unfold Dy.q sq at a b;cases hn:d.neg<;>simp only [hn] at a b<;>grind
  ·exact absurd h (by decide)
 ·exact absurd h (by decide)
theorem near_of {d:Dy}(ok:d.Ok)(hz:d.m≠0)(h:-400≤d.e∧(d.m≠0→topD (absD d)≤7)){wk:Nat}(h1:1≤wk)(h2:wk≤2000)(up:Bool):nearG wk up (bndR (absD d)) 400 1 one one=some (nearO wk up d):=by
 obtain ⟨a,b,c⟩:=bndR_facts (d:=absD d) hz (bl_of_len d.m 64 ok.len) h.1 (h.2 hz);obtain ⟨o,ho⟩:=nearG_ends (up:=up) h1 h2 a b c;unfold nearO;rw [ho]
 rfl
theorem nearO_ok (p:Nat)(up:Bool)(d:Dy):(nearO p up d).1.Ok∧(nearO p up d).2.Ok:=by
 unfold nearO;cases h:nearG p up (bndR (absD d)) 400 1 one one with
 | none=>exact ⟨d1_ok,d1_ok⟩
 | some o=>exact nearG_ok _ _ _ _ h d1_ok d1_ok
theorem bnE_ok (d:Dy)(w:Nat):(bnE d w).1.Ok∧(bnE d w).2.Ok:=by
 have h:∀ up,(bndD w up d (nearO w up d)).Ok:=fun up=>sqrN_ok _ _ _ _ (nearD_ok (nearO_ok _ _ _))
 unfold bnE bndsD
 split
 ·exact ⟨(quotZ_ok _ _ _ _).1,(quotZ_ok _ _ _ _).1⟩
 ·exact ⟨h _,h _⟩
theorem xexpG_c {w:World}{v:Value}{d:Dy}{p:Nat}{up:Bool}(hv:DyR w v d.raw)(ok:d.Ok)(p1:1≤p)(p2:p≤300)(hT:Tab w) :
 Calls Tryz.prog 144 #[v,.int .i64 (p:Int),.bool up] w (RetE (expD d p up).raw w):=by
 unfold expD
 by_cases h0:mayX d.raw p=0
 ·rw [if_neg (by simpa using h0)]
  by_cases hz:d.m=0
  ·rw [if_pos hz];exact xexp0_c hv ok hT h0 hz
  ·rw [if_neg hz];have hm:=mayX_facts h0;exact xexpL_c hv ok p1 p2 hT h0 hz (fun wk a b w1 k=>xbounds_c (hv.kept k) ok a b (hT.kept k) (near_of ok hz hm a b false) (near_of ok hz hm a b true) (by decide)) (bnE_ok d)
 ·rw [if_pos h0];have h:=xexpE_c (up:=up) hv (by have:=dy_len ok;omega) hT h0;have e:(bad (mayX d.raw p):Outc Dy).raw=⟨rz,mayX d.raw p⟩:=by show Outc.mk dz.raw _=_;rw [dz_raw];rfl
  rw [e];exact h
end Go.Proofs.YtabjjdicffcolaaGreatDoor
