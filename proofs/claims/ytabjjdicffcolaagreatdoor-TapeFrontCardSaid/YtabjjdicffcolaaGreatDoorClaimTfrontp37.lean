/- Contracts of package expo: Exp, whatever its number. -/
import Derived.Test.YtabjjdicffcolaaGreatDoorClaimTfrontp28
import Derived.Test.YtabjjdicffcolaaGreatDoorClaimTfrontp36
set_option maxRecDepth 100000
set_option maxHeartbeats 16000000
namespace Go.Proofs.YtabjjdicffcolaaGreatDoor
theorem fitD_top {neg:Bool}{n:Nat}{e:Int}(h0:n≠0)(hb:bl n-tz n≤4096)(h1:-1048576≤e)(h2:bl n+e≤1048576) :
 (fitD neg n e).v.m≠0∧topD (fitD neg n e).v=bl n+e∧bl (fitD neg n e).v.m=bl n-tz n:=by
 have ht:tz n<bl n:=tz_lt n (bl n) h0 (lt_two_bl n)
 have hd:bl (n/2^tz n)=bl n-tz n:=bl_div _ _
 have hl:(limbs (n/2^tz n)).length≤64:=limbs_len (k:=64) (by omega)
 unfold fitD
 rw [if_neg h0,if_neg (by omega),if_neg (by omega),if_neg (by omega)]
 refine ⟨?_,?_,hd⟩
 ·show n / 2 ^ tz n ≠ 0
  intro h
  rw [h,bl_zero] at hd
  omega
 ·show ((bl (n / 2 ^ tz n) : Nat) : Int) + (e + tz n) = bl n + e
  omega
theorem cutD_top {neg:Bool}{m:Nat}{e:Int}{rest:Bool}{p:Nat}{up:Bool}(hm:m≠0)(p1:1≤p)(p2:p≤2000)(h1:-1000000≤e)(h2:bl m+e≤1000000) :
 (cutD neg m e rest p up).v.m≠0∧bl (cutD neg m e rest p up).v.m≤p∧topD (cutD neg m e rest p up).v≤bl m+e+1:=by
 unfold cutD
 have hp:=bl_pos m hm
 have hb:bl (m/2^(bl m-p))=bl m-(bl m-p):=bl_div _ _
 have h2':cutM m rest p (up != neg)≤m/2^(bl m-p)+1∧m/2^(bl m-p)≤cutM m rest p (up != neg):=by
  unfold cutM cutN
  simp only
  split<;>omega
 have h3:=lt_two_bl (m/2^(bl m-p))
 have h5:2^bl (m/2^(bl m-p))≤2^p:=Nat.pow_le_pow_right (by decide) (by omega)
 have hz:cutM m rest p (up != neg)≠0:=by
  intro h
  rw [h] at h2'
  have h0:m/2^(bl m-p)=0:=Nat.le_zero.1 h2'.2
  rw [h0,bl_zero] at hb
  omega
 have h6:bl (cutM m rest p (up != neg))≤bl (m/2^(bl m-p))+1:=bl_le _ _ (by
  have:=Nat.two_pow_succ (bl (m/2^(bl m-p)))
  have:=Nat.two_pow_pos (bl (m/2^(bl m-p)))
  generalize m/2^(bl m-p)=z at *
  omega)
 have h7:bl (cutM m rest p (up != neg))-tz (cutM m rest p (up != neg))≤p:=by
  by_cases hl:bl (cutM m rest p (up != neg))≤p
  ·omega
  ·have h8 := two_bl_le _ hz
   have h9:2^p≤2^(bl (cutM m rest p (up != neg))-1):=Nat.pow_le_pow_right (by decide) (by omega)
   have h10:cutM m rest p (up != neg)=2^p:=by
    generalize m/2^(bl m-p)=z at *
    omega
   have h11:tz (cutM m rest p (up != neg))=p:=tz_unique _ p 1 rfl (by rw [h10,Nat.one_mul])
   omega
 obtain ⟨a,b,c⟩:=fitD_top (neg:=neg) (e:=e+((bl m-p:Nat):Int)) hz (by omega) (by omega) (by omega)
 exact ⟨a,by omega,by omega⟩
theorem topJ {j:Nat}(j1:1≤j)(j2:j≤1000000):(ofN j).m≠0∧1≤topD (ofN j)∧topD (ofN j)≤20∧bl (ofN j).m≤20:=by
 have hb:bl j≤20:=bl_le _ _ (by omega)
 have hp:=bl_pos j (by omega)
 obtain ⟨a,b,c⟩:=fitD_top (neg:=false) (n:=j) (e:=0) (by omega) (by omega) (by decide) (by omega)
 exact ⟨a,by unfold ofN;omega,by unfold ofN;omega,by unfold ofN;omega⟩
theorem nearT_step {p:Nat}{up:Bool}{r t:Dy}{j:Nat}(p1:1≤p)(p2:p≤2000)(hr:r.m≠0)(hr1:-500≤r.e)(hr2:topD r≤-8)(ht:t.m≠0)(ht1:bl t.m≤p)(ht2:-3000≤topD t)(ht3:topD t≤100)
 (j1:1≤j) (j2:j≤1000000):(nearT p up r t j).m≠0∧bl (nearT p up r t j).m≤p∧topD (nearT p up r t j)≤topD t-6:=by
 obtain ⟨b1,b2,b3,b4⟩:=topJ j1 j2
 have hbt:=bl_pos _ ht
 have hbr:=bl_pos _ hr
 unfold topD at hr2 ht2 ht3
 have hmz:t.m*r.m≠0:=Nat.mul_ne_zero ht hr
 have hmb:=mul_lt_bl (Nat.le_refl (bl t.m)) (Nat.le_refl (bl r.m))
 have hmp:=bl_pos _ hmz
 obtain ⟨c1,c2,c3⟩:=fitD_top (neg:=t.neg != r.neg) (n:=t.m*r.m) (e:=t.e+r.e) hmz (by omega) (by omega) (by omega)
 unfold nearT quotZ
 rw [if_neg b1]
 obtain ⟨a,ha⟩:∃ a,a=(mulD t r).v:=⟨_,rfl⟩
 have c1:a.m≠0:=by rw [ha];exact c1
 have c2:topD a=bl (t.m*r.m)+(t.e+r.e):=by rw [ha];exact c2
 have c3:bl a.m≤bl (t.m*r.m):=by rw [ha];show bl (fitD _ _ _).v.m≤_;omega
 rw [←ha]
 generalize ofN j=b at *
 have hba:=bl_pos _ c1
 have hbb:=bl_pos _ b1
 unfold topD at c2 b2 b3
 unfold quotD
 have hK:quotK a b p=p+1+bl b.m-bl a.m:=rfl
 have hq:=quot_bl a.m b.m p c1 b1 (quotK a b p) (by omega)
 have hk:bl (2^quotK a b p)≤quotK a b p+1:=bl_le _ _ (Nat.pow_lt_pow_right (by decide) (by omega))
 have hm2:=mul_lt_bl (Nat.le_refl (bl a.m)) hk
 have hd:=bl_quot (x:=a.m*2^quotK a b p) b1
 have hz:a.m*2^quotK a b p/b.m≠0:=by intro h;rw [h,bl_zero] at hq;omega
 obtain ⟨x,y,z⟩:=cutD_top (neg:=a.neg != b.neg) (rest:=decide (¬a.m*2^quotK a b p%b.m=0)) (up:=up) (e:=a.e-b.e-quotK a b p) hz p1 p2 (by omega) (by omega)
 exact ⟨x,y,by unfold topD at *;omega⟩
theorem nearG_go {p:Nat}{up:Bool}{r:Dy}(p1:1≤p)(p2:p≤2000)(hr:r.m≠0)(hr1:-500≤r.e)(hr2:topD r≤-8):∀ (f j:Nat) (s t:Dy),t.m≠0→bl t.m≤p→-(p:Int)-8≤topD t→topD t≤100 →
 topD t < -(p:Int)-8+6*f→1≤j→j+f≤1000000→∃ o,nearG p up r f j s t=some o
 | 0,j,s,t,_,_,h1,_,h2,_,_=>by omega
 | f + 1, j, s, t, ht, ht1, h1, h3, h2, j1, j2 => by
   obtain ⟨a,b,c⟩:=nearT_step (up:=up) p1 p2 hr hr1 hr2 ht ht1 (by omega) h3 j1 (by omega)
   rw [nearG]
   split
   ·exact ⟨_,rfl⟩
   ·exact nearG_go p1 p2 hr hr1 hr2 f (j+1) _ _ a b (by omega) (by omega) (by omega) (by omega) (by omega)
theorem nearG_ends {p : Nat} {up : Bool} {r : Dy} (p1 : 1 ≤ p) (p2 : p ≤ 2000) (hr : r.m ≠ 0) (hr1 : -500 ≤ r.e) (hr2 : topD r ≤ -8) : ∃ o, nearG p up r 400 1 one one = some o :=
 nearG_go p1 p2 hr hr1 hr2 400 1 one one (by decide) (by have : bl one.m = 1 := by decide
                                                         omega) (by have : topD one = 1 := by decide
                                                                    omega) (by decide) (by have : topD one = 1 := by decide
                                                                                           omega) (by decide) (by decide)
theorem bndR_facts {d:Dy}(h0:d.m≠0)(hl:bl d.m≤4096)(h1:-400≤d.e)(h2:topD d≤7):(bndR d).m≠0∧-500≤(bndR d).e∧topD (bndR d)≤-8:=by
 have hp:=bl_pos _ h0
 have h2':=h2
 unfold topD at h2'
 have hK:(bndK d:Int)=max (topD d+8) 0:=by unfold bndK;omega
 obtain ⟨a,b,c⟩:=fitD_top (neg:=d.neg) (n:=d.m) (e:=d.e+-(bndK d:Int)) h0 (by omega) (by omega) (by omega)
 unfold bndR shiftD
 rw [if_neg h0,if_neg (by omega)]
 have ht:tz d.m<bl d.m:=tz_lt d.m (bl d.m) h0 (lt_two_bl d.m)
 refine ⟨a,?_,?_⟩
 ·have b' := b
  unfold topD at b'
  omega
 ·rw [b]
  unfold topD at hK
  omega
end Go.Proofs.YtabjjdicffcolaaGreatDoor
namespace Go.Proofs.YtabjjdicffcolaaGreatDoor
def sumTo (f:Nat→Rat):Nat→Rat
 | 0=>0
 | n+1=>sumTo f n+f n
theorem sumTo_congr {f g:Nat→Rat}:∀ n,(∀ i,i<n→f i=g i)→sumTo f n=sumTo g n
 | 0,_=>rfl
 | n + 1, h => by
   rw [sumTo,sumTo,sumTo_congr n (fun i hi=>h i (by omega)),h n (by omega)]
theorem sumTo_mul (a:Rat)(f:Nat→Rat):∀ n,sumTo (fun i=>a*f i) n=a*sumTo f n
 | 0=>by simp [sumTo]
 | n + 1 => by
   rw [sumTo,sumTo,sumTo_mul a f n]
   grind
theorem sumTo_add (f g:Nat→Rat):∀ n,sumTo (fun i=>f i+g i) n=sumTo f n+sumTo g n
 | 0=>by simp only [sumTo];grind
 | n + 1 => by
   rw [sumTo,sumTo,sumTo,sumTo_add f g n]
   grind
theorem sumTo_shift (f:Nat→Rat):∀ n,sumTo f (n+1)=f 0+sumTo (fun i=>f (i+1)) n
 | 0=>by simp only [sumTo];grind
 | n + 1 => by
   rw [sumTo,sumTo_shift f n,sumTo]
   grind
theorem sumTo_nonneg {f:Nat→Rat}:∀ n,(∀ i,i<n→0≤f i)→0≤sumTo f n
 | 0,_=>Rat.le_refl
 | n + 1, h => by
   have h1:=sumTo_nonneg n (fun i hi=>h i (by omega))
   have h2:=h n (by omega)
   rw [sumTo]
   grind
theorem sumTo_le {f g:Nat→Rat}:∀ n,(∀ i,i<n→f i≤g i)→sumTo f n≤sumTo g n
 | 0,_=>Rat.le_refl
 | n + 1, h => by
   have h1:=sumTo_le n (fun i hi=>h i (by omega))
   have h2:=h n (by omega)
   rw [sumTo,sumTo]
   grind
def eT (x:Rat):Nat→Rat
 | 0=>1
 | n+1=>eT x n*x/((n+1:Nat):Rat)
def eS (x:Rat) (n:Nat):Rat:=sumTo (eT x) n
theorem succ_pos (n:Nat):(0:Rat)<((n+1:Nat):Rat):=by exact_mod_cast Nat.succ_pos n
theorem eT_succ (x:Rat)(n:Nat):((n+1:Nat):Rat)*eT x (n+1)=x*eT x n:=by
 have h:=succ_pos n
 rw [eT]
 generalize ((n+1:Nat):Rat)=k at *
 rw [Rat.div_def]
 have hk:k*k⁻¹=1:=Rat.mul_inv_cancel k (by grind)
 grind
theorem eT_nonneg {x:Rat}(h:0≤x):∀ n,0≤eT x n
 | 0=>show (0:Rat)≤1 by decide
 | n + 1 => by
   rw [eT,Rat.div_def]
   exact Rat.mul_nonneg (Rat.mul_nonneg (eT_nonneg h n) h) (Rat.le_of_lt (Rat.inv_pos.2 (succ_pos n)))
def conv (x y:Rat) (k:Nat):Rat:=sumTo (fun i=>eT x i*eT y (k-i)) (k+1)
theorem conv_succ (x y:Rat)(k:Nat):((k+1:Nat):Rat)*conv x y (k+1)=(x+y)*conv x y k:=by
 have A:sumTo (fun i=>(i:Rat)*(eT x i*eT y (k+1-i))) (k+1+1)=x*conv x y k:=by
  rw [sumTo_shift]
  have e:sumTo (fun i=>((i+1:Nat):Rat)*(eT x (i+1)*eT y (k+1-(i+1)))) (k+1)=sumTo (fun i=>x*(eT x i*eT y (k-i))) (k+1):=sumTo_congr _ (fun i hi=>by
   have h:=eT_succ x i
   have e:k+1-(i+1)=k-i:=by omega
   rw [e]
   grind)
  rw [e,sumTo_mul]
  unfold conv
  have z:((0:Nat):Rat)=0:=rfl
  rw [z]
  grind
 have B:sumTo (fun i=>((k+1-i:Nat):Rat)*(eT x i*eT y (k+1-i))) (k+1+1)=y*conv x y k:=by
  rw [sumTo]
  have e:sumTo (fun i=>((k+1-i:Nat):Rat)*(eT x i*eT y (k+1-i))) (k+1)=sumTo (fun i=>y*(eT x i*eT y (k-i))) (k+1):=sumTo_congr _ (fun i hi=>by
   have h:=eT_succ y (k-i)
   have e:k+1-i=k-i+1:=by omega
   rw [e]
   grind)
  rw [e,sumTo_mul]
  unfold conv
  have z:((k+1-(k+1):Nat):Rat)=0:=by rw [Nat.sub_self];rfl
  rw [z]
  grind
 have C:sumTo (fun i=>((k+1:Nat):Rat)*(eT x i*eT y (k+1-i))) (k+1+1)=sumTo (fun i=>(i:Rat)*(eT x i*eT y (k+1-i))+((k+1-i:Nat):Rat)*(eT x i*eT y (k+1-i))) (k+1+1) :=
  sumTo_congr _ (fun i hi=>by
   have e:((k+1:Nat):Rat)=(i:Rat)+((k+1-i:Nat):Rat):=by
    rw [←Rat.natCast_add]
    congr 1
    omega
   rw [e]
   grind)
 rw [sumTo_add,A,B,sumTo_mul] at C
 unfold conv at *
 grind
theorem conv_eq (x y:Rat):∀ k,conv x y k=eT (x+y) k
 | 0=>by simp only [conv,sumTo,Nat.sub_self,eT];grind
 | k + 1 => by
   have h:=conv_succ x y k
   have h2:=eT_succ (x+y) k
   rw [conv_eq x y k] at h
   rw [←h2] at h
   have hp:=succ_pos k
   generalize ((k+1:Nat):Rat)=q at *
   have hk:q*q⁻¹=1:=Rat.mul_inv_cancel q (by grind)
   grind
theorem eS_le {x:Rat}(h:0≤x){m:Nat}:∀ {n:Nat},m≤n→eS x m≤eS x n
 | 0, hm => by
   have e:m=0:=by omega
   rw [e]
   exact Rat.le_refl
 | n + 1, hm => by
   by_cases e:m=n+1
   ·rw [e];exact Rat.le_refl
   ·have h1 := eS_le h (m := m) (n := n) (by omega)
    have h2:=eT_nonneg h n
    have h3:eS x (n+1)=eS x n+eT x n:=rfl
    grind
theorem eS_one (x:Rat):eS x 1=1:=by
 show (0:Rat)+1=1
 grind
theorem eS_pos {x:Rat}(h:0≤x){n:Nat}(hn:1≤n):1≤eS x n:=by
 have:=eS_le h hn
 rwa [eS_one] at this
theorem eS_nonneg {x:Rat}(h:0≤x)(n:Nat):0≤eS x n:=sumTo_nonneg _ (fun i _=>eT_nonneg h i)
theorem eT_mono {x y:Rat}(h:0≤x)(hy:x≤y):∀ n,eT x n≤eT y n
 | 0=>Rat.le_refl
 | n + 1 => by
   have h1:=eT_mono h hy n
   have h2:eT x n*x≤eT y n*x:=Rat.mul_le_mul_of_nonneg_right h1 h
   have h3:eT y n*x≤eT y n*y:=Rat.mul_le_mul_of_nonneg_left hy (eT_nonneg (Rat.le_trans h hy) n)
   rw [eT,eT,Rat.div_def,Rat.div_def]
   exact Rat.mul_le_mul_of_nonneg_right (Rat.le_trans h2 h3) (Rat.le_of_lt (Rat.inv_pos.2 (succ_pos n)))
theorem eS_mono {x y:Rat}(h:0≤x)(hy:x≤y)(n:Nat):eS x n≤eS y n:=sumTo_le n (fun i _=>eT_mono h hy i)
theorem sumTo_conv (x y:Rat):∀ n,sumTo (conv x y) n=sumTo (fun i=>eT x i*eS y (n-i)) n
 | 0=>rfl
 | n + 1 => by
   have e:sumTo (fun i=>eT x i*eS y (n+1-i)) (n+1)=sumTo (fun i=>eT x i*eS y (n-i)+eT x i*eT y (n-i)) (n+1):=sumTo_congr _ (fun i hi=>by
    have e:n+1-i=n-i+1:=by omega
    have e2:eS y (n-i+1)=eS y (n-i)+eT y (n-i):=rfl
    rw [e,e2]
    grind)
   rw [e,sumTo_add,sumTo,sumTo_conv x y n]
   have h:sumTo (fun i=>eT x i*eS y (n-i)) (n+1)=sumTo (fun i=>eT x i*eS y (n-i)) n:=by
    rw [sumTo,Nat.sub_self]
    have z:eS y 0=0:=rfl
    rw [z]
    grind
   rw [h]
   rfl
theorem eS_add {x y:Rat}(hx:0≤x)(hy:0≤y)(n:Nat):eS (x+y) n≤eS x n*eS y n:=by
 have h1:eS (x+y) n=sumTo (conv x y) n:=sumTo_congr n (fun i _=>(conv_eq x y i).symm)
 rw [h1,sumTo_conv]
 have h2:sumTo (fun i=>eT x i*eS y (n-i)) n≤sumTo (fun i=>eS y n*eT x i) n:=sumTo_le n (fun i _=>by
  have h3:=Rat.mul_le_mul_of_nonneg_left (eS_le hy (m:=n-i) (n:=n) (by omega)) (eT_nonneg hx i)
  grind)
 rw [sumTo_mul] at h2
 have h4:sumTo (eT x) n=eS x n:=rfl
 rw [h4] at h2
 grind
end Go.Proofs.YtabjjdicffcolaaGreatDoor
namespace Go.Proofs.YtabjjdicffcolaaGreatDoor
theorem fitD_k {neg:Bool}{n:Nat}{e:Int}(h0:n≠0)(hb:bl n-tz n≤4096)(h1:-1048576≤e)(h2:bl n+e≤1048576) :
 (fitD neg n e).k=0∧(fitD neg n e).v.neg=neg:=by
 have ht:tz n<bl n:=tz_lt n (bl n) h0 (lt_two_bl n)
 have hl:(limbs (n/2^tz n)).length≤64:=limbs_len (k:=64) (by rw [bl_div];omega)
 unfold fitD
 rw [if_neg h0,if_neg (by omega),if_neg (by omega),if_neg (by omega)]
 exact ⟨rfl,rfl⟩
theorem cutD_k {neg:Bool}{m:Nat}{e:Int}{rest:Bool}{p:Nat}{up:Bool}(hm:m≠0)(p1:1≤p)(p2:p≤2000)(h1:-1000000≤e)(h2:bl m+e≤1000000) :
 (cutD neg m e rest p up).k=0∧(cutD neg m e rest p up).v.neg=neg∧bl m+e≤topD (cutD neg m e rest p up).v:=by
 unfold cutD
 have hp:=bl_pos m hm
 have hb:bl (m/2^(bl m-p))=bl m-(bl m-p):=bl_div _ _
 have h2':cutM m rest p (up != neg)≤m/2^(bl m-p)+1∧m/2^(bl m-p)≤cutM m rest p (up != neg):=by
  unfold cutM cutN
  simp only
  split<;>omega
 have h3:=lt_two_bl (m/2^(bl m-p))
 have h4:=bl_mono h2'.2
 have hz:cutM m rest p (up != neg)≠0:=by
  intro h
  rw [h,bl_zero] at h4
  omega
 have h6:bl (cutM m rest p (up != neg))≤bl (m/2^(bl m-p))+1:=bl_le _ _ (by
  have:=Nat.two_pow_succ (bl (m/2^(bl m-p)))
  have:=Nat.two_pow_pos (bl (m/2^(bl m-p)))
  generalize m/2^(bl m-p)=z at *
  omega)
 obtain ⟨a,b⟩:=fitD_k (neg:=neg) (e:=e+((bl m-p:Nat):Int)) hz (by omega) (by omega) (by omega)
 obtain ⟨c,d,-⟩:=fitD_top (neg:=neg) (e:=e+((bl m-p:Nat):Int)) hz (by omega) (by omega) (by omega)
 exact ⟨a,b,by omega⟩
theorem bl_quot_ge {x y:Nat}(h:y≠0):bl x≤bl (x/y)+bl y:=by
 by_cases hx:x=0
 ·rw [hx,bl_zero];omega
 ·refine bl_le _ _ ?_
  have h1:=lt_two_bl (x/y)
  have h2:=lt_two_bl y
  have h3:=Nat.lt_mul_div_succ x (Nat.pos_of_ne_zero h)
  have h4:y*(x/y+1)≤2^bl y*2^bl (x/y):=Nat.mul_le_mul (Nat.le_of_lt h2) h1
  rw [←Nat.pow_add] at h4
  rw [Nat.add_comm]
  omega
theorem mul_bl_ge {x y:Nat}(hx:x≠0)(hy:y≠0):bl x+bl y≤bl (x*y)+1:=by
 have h1:=two_bl_le x hx
 have h2:=two_bl_le y hy
 have h3:=Nat.mul_le_mul h1 h2
 rw [←Nat.pow_add] at h3
 have h4:=Nat.lt_of_le_of_lt h3 (lt_two_bl (x*y))
 have h5:=(Nat.pow_lt_pow_iff_right (by decide:1<2)).1 h4
 have:=bl_pos x hx
 have:=bl_pos y hy
 omega
theorem nearT_full {p:Nat}{up:Bool}{r t:Dy}{j:Nat}(p1:1≤p)(p2:p≤2000)(hr:r.m≠0)(rn:r.neg=false)(hr1:-500≤r.e)(hr2:topD r≤-8)(ht:t.m≠0)(tn:t.neg=false)(ht1:bl t.m≤p)(ht2:-3000≤topD t)(ht3:topD t≤100)
 (j1:1≤j) (j2:j≤1000000):(nearT p up r t j).neg=false∧IsDir up p (t.q*r.q/(j:Rat)) (nearT p up r t j).q∧topD t+topD r-25≤topD (nearT p up r t j):=by
 obtain ⟨b1,b2,b3,b4⟩:=topJ j1 j2
 have hjq:(ofN j).q=(j:Rat):=by
  have hb:bl j≤20:=bl_le _ _ (by omega)
  have h:=fitD_q (fitD_k (neg:=false) (n:=j) (e:=0) (by omega) (by omega) (by decide) (by omega)).1
  show (fitD false j 0).v.q=_
  rw [h,pw_zero,Rat.mul_one]
  rfl
 have hbt:=bl_pos _ ht
 have hbr:=bl_pos _ hr
 unfold topD at hr2 ht2 ht3
 have hmz:t.m*r.m≠0:=Nat.mul_ne_zero ht hr
 have hmb:=mul_lt_bl (Nat.le_refl (bl t.m)) (Nat.le_refl (bl r.m))
 have hmp:=bl_pos _ hmz
 have hmg:=mul_bl_ge ht hr
 obtain ⟨c1,c2,c3⟩:=fitD_top (neg:=t.neg != r.neg) (n:=t.m*r.m) (e:=t.e+r.e) hmz (by omega) (by omega) (by omega)
 obtain ⟨c4,c5⟩:=fitD_k (neg:=t.neg != r.neg) (n:=t.m*r.m) (e:=t.e+r.e) hmz (by omega) (by omega) (by omega)
 have hmq:(mulD t r).v.q=t.q*r.q:=mulD_q c4
 unfold nearT quotZ
 rw [if_neg b1,←hjq,←hmq]
 obtain ⟨a,ha⟩:∃ a,a=(mulD t r).v:=⟨_,rfl⟩
 have c1:a.m≠0:=by rw [ha];exact c1
 have c2:topD a=bl (t.m*r.m)+(t.e+r.e):=by rw [ha];exact c2
 have c3:bl a.m≤bl (t.m*r.m):=by rw [ha];show bl (fitD _ _ _).v.m≤_;omega
 have c5:a.neg=false:=by rw [ha];refine Eq.trans c5 ?_;rw [tn,rn];rfl
 have b5:(ofN j).neg=false:=by
  have hb:bl j≤20:=bl_le _ _ (by omega)
  exact (fitD_k (neg:=false) (n:=j) (e:=0) (by omega) (by omega) (by decide) (by omega)).2
 rw [←ha]
 clear hmq ha hjq
 generalize ofN j=b at *
 have hba:=bl_pos _ c1
 have hbb:=bl_pos _ b1
 unfold topD at c2 b2 b3
 have hK:quotK a b p=p+1+bl b.m-bl a.m:=rfl
 have hq:=quot_bl a.m b.m p c1 b1 (quotK a b p) (by omega)
 have hk:bl (2^quotK a b p)≤quotK a b p+1:=bl_le _ _ (Nat.pow_lt_pow_right (by decide) (by omega))
 have hm2:=mul_lt_bl (Nat.le_refl (bl a.m)) hk
 have hk1:quotK a b p+1≤bl (2^quotK a b p):=by
  have h:=lt_two_bl (2^quotK a b p)
  have h2:=(Nat.pow_lt_pow_iff_right (by decide:1<2)).1 h
  omega
 have hm3:=mul_bl_ge c1 (Nat.ne_of_gt (Nat.two_pow_pos (quotK a b p)))
 have hd:=bl_quot (x:=a.m*2^quotK a b p) b1
 have hd2:=bl_quot_ge (x:=a.m*2^quotK a b p) b1
 have hz:a.m*2^quotK a b p/b.m≠0:=by intro h;rw [h,bl_zero] at hq;omega
 obtain ⟨x,y,z⟩:=cutD_k (neg:=a.neg != b.neg) (rest:=decide (¬a.m*2^quotK a b p%b.m=0)) (up:=up) (e:=a.e-b.e-quotK a b p) hz p1 p2 (by omega) (by omega)
 refine ⟨?_,quotD_dir p1 b1 x,?_⟩
 ·refine Eq.trans y ?_
  rw [c5,b5]
  rfl
 ·have z' : (bl (a.m * 2 ^ quotK a b p / b.m) : Int) + (a.e - b.e - quotK a b p) ≤ topD (quotD a b p up).v := z
  unfold topD at z' ⊢
  omega
end Go.Proofs.YtabjjdicffcolaaGreatDoor
namespace Go.Proofs.YtabjjdicffcolaaGreatDoor
theorem pw_inv {a b:Int}(h:pw a≤pw b):a≤b:=by
 rcases Int.lt_or_le b a with h1 | h1
 ·exfalso
  have h2:=pw_mono (show b+1≤a by omega)
  have h3:=pw_pos b
  rw [pw_add,pw_one] at h2
  grind
 ·exact h1
theorem pw_lt_inv {a b:Int}(h:pw a<pw b):a<b:=by
 rcases Int.lt_or_le a b with h1 | h1
 ·exact h1
 ·exfalso
  have h2:=pw_mono h1
  grind
theorem q_of {d:Dy}(hn:d.neg=false):d.q=(d.m:Rat)*pw d.e:=by
 unfold Dy.q sq
 rw [hn]
 rfl
theorem q_gt {d:Dy}(h:d.m≠0)(hn:d.neg=false):0<d.q:=by
 rw [q_of hn]
 exact q_pos h d.e
theorem q_top {d:Dy}(h:d.m≠0)(hn:d.neg=false):pw (topD d-1)≤d.q∧d.q<pw (topD d):=by
 rw [q_of hn]
 exact mag_bl h d.e
theorem fits_one {p:Nat}(hp:1≤p):Fits p 1:=⟨false,1,0,hp,by simp [sq,pw_zero]⟩
theorem fits_pw {p:Nat}(hp:1≤p)(e:Int):Fits p (pw e):=by
 have h:=(fits_one hp).pw e
 rwa [Rat.one_mul] at h
theorem top_ge {x:Dy}{c:Int}(h:x.m≠0)(hn:x.neg=false)(hq:pw c≤x.q):c+1≤topD x:=by
 have h1:=(q_top h hn).2
 have h2:pw c<pw (topD x):=by grind
 have:=pw_lt_inv h2
 omega
theorem top_le {x:Dy}{c:Int}(h:x.m≠0)(hn:x.neg=false)(hq:x.q≤pw c):topD x≤c+1:=by
 have h1:=(q_top h hn).1
 have h2:pw (topD x-1)≤pw c:=by grind
 have:=pw_inv h2
 omega
theorem top_one {x:Dy}(h:x.m≠0)(hn:x.neg=false)(h1:1≤x.q)(h2:x.q<2):topD x=1:=by
 have a:=top_ge (c:=0) h hn (by rw [pw_zero];exact h1)
 have b:=(q_top h hn).1
 have c:pw (topD x-1)<pw 1:=by rw [pw_one];grind
 have:=pw_lt_inv c
 omega
theorem sum_k {s t:Dy}{p:Nat}(p2:p≤2000)(s0:s.m≠0)(sn:s.neg=false)(sb:bl s.m≤p)(s1:1≤s.q)(t0:t.m≠0)(tn:t.neg=false)(tk:t.Ok)(h2:s.q+t.q<2) :
 ((sumD s t).k=0↔-4095≤t.e)∧((sumD s t).k=0→(sumD s t).v.m≠0∧(sumD s t).v.neg=false∧topD (sumD s t).v=1∧-5000≤(sumD s t).v.e):=by
 have t1:=q_gt t0 tn
 have hs1:=(q_top s0 sn).1
 have hs2:=(q_top s0 sn).2
 have hs3:topD s=1:=by
  have a:pw (topD s-1)<pw 1:=by rw [pw_one];grind
  have b:pw 0<pw (topD s):=by rw [pw_zero];grind
  have:=pw_lt_inv a
  have:=pw_lt_inv b
  omega
 have hs4:(bl s.m:Int)+s.e=1:=hs3
 have sp:=bl_pos _ s0
 have key:∀ (n:Nat) (e:Int),n≠0→(n:Rat)*pw e=s.q+t.q→(bl n:Int)+e=1:=by
  intro n e hn he
  obtain ⟨a,b⟩:=mag_bl hn e
  rw [he] at a b
  have c:pw (bl n+e-1)<pw 1:=by rw [pw_one];grind
  have d:pw 0<pw (bl n+e):=by rw [pw_zero];grind
  have:=pw_lt_inv c
  have:=pw_lt_inv d
  omega
 unfold sumD
 rw [if_neg s0,if_neg t0]
 by_cases h:s.e<t.e
 ·rw [if_pos h]
  have hn:t.m*2^(t.e-s.e).toNat+s.m≠0:=by omega
  have he:((t.m*2^(t.e-s.e).toNat+s.m:Nat):Rat)*pw s.e=s.q+t.q:=by
   rw [q_of sn,q_of tn,Rat.natCast_add,Rat.add_mul,←mag_nat t.m (Int.le_of_lt h)]
   grind
  have hb:=key _ _ hn he
  have hg:¬(¬t.e=s.e∧4097-(bl t.m:Int)<t.e-s.e):=by
   have hbt:bl t.m+(t.e-s.e).toNat≤bl (t.m*2^(t.e-s.e).toNat+s.m):=by
    rw [←bl_mul_pow _ _ t0]
    exact bl_mono (Nat.le_add_right _ _)
   omega
  have hz:=tz_lt _ _ hn (lt_two_bl (t.m*2^(t.e-s.e).toNat+s.m))
  unfold sumC
  rw [if_neg hg,if_pos (tn.trans sn.symm),tn]
  obtain ⟨k1,k2⟩:=fitD_k (neg:=false) (e:=s.e) hn (by omega) (by omega) (by omega)
  obtain ⟨f1,f2,f3⟩:=fitD_top (neg:=false) (e:=s.e) hn (by omega) (by omega) (by omega)
  have f2':=f2
  unfold topD at f2'
  exact ⟨⟨fun _=>by omega,fun _=>k1⟩,fun _=>⟨f1,k2,by omega,by omega⟩⟩
 ·rw [if_neg h]
  have hn:s.m*2^(s.e-t.e).toNat+t.m≠0:=by omega
  have he:((s.m*2^(s.e-t.e).toNat+t.m:Nat):Rat)*pw t.e=s.q+t.q:=by
   rw [q_of sn,q_of tn,Rat.natCast_add,Rat.add_mul,←mag_nat s.m (by omega:t.e≤s.e)]
  have hb:=key _ _ hn he
  have hz:=tz_lt _ _ hn (lt_two_bl (s.m*2^(s.e-t.e).toNat+t.m))
  unfold sumC
  by_cases hte:-4095≤t.e
  ·rw [if_neg (by omega), if_pos (sn.trans tn.symm), sn]
   obtain ⟨k1,k2⟩:=fitD_k (neg:=false) (e:=t.e) hn (by omega) (by omega) (by omega)
   obtain ⟨f1,f2,f3⟩:=fitD_top (neg:=false) (e:=t.e) hn (by omega) (by omega) (by omega)
   have f2':=f2
   unfold topD at f2'
   exact ⟨⟨fun _=>hte,fun _=>k1⟩,fun _=>⟨f1,k2,by omega,by omega⟩⟩
  ·have hk : ∀ o : Outc Dy, o.k ≠ 0 → (o.k = 0 ↔ -4095 ≤ t.e) ∧ (o.k = 0 → o.v.m ≠ 0 ∧ o.v.neg = false ∧ topD o.v = 1 ∧ -5000 ≤ o.v.e) :=
    fun o ho=>⟨⟨fun a=>absurd a ho,fun a=>absurd a hte⟩,fun a=>absurd a ho⟩
   apply hk
   split
   ·decide
   ·rw [if_pos (sn.trans tn.symm)]
    have ho:(s.m*2^(s.e-t.e).toNat+t.m)%2=1:=by
     have h1:=tk.odd t0
     have h2:(s.e-t.e).toNat=(s.e-t.e).toNat-1+1:=by omega
     rw [h2,Nat.pow_succ,←Nat.mul_assoc]
     omega
    have hl:64<(limbs (s.m*2^(s.e-t.e).toNat+t.m)).length:=by
     refine Decidable.byContradiction fun hc=>?_
     have hb2:=bl_of_len (s.m*2^(s.e-t.e).toNat+t.m) 64 (by omega)
     omega
    unfold fitD
    rw [if_neg hn,tz_oddN ho,Nat.pow_zero,Nat.div_one,if_pos hl]
    decide
theorem rndS_dir {d:Dy}{p:Nat}{up:Bool}(p1:1≤p)(p2:p≤2000)(h0:d.m≠0)(h1:-1000000≤d.e)(h2:topD d≤1000000) :
 IsDir up p d.q (rndS p up d).q∧(rndS p up d).neg=d.neg∧(rndS p up d).m≠0∧bl (rndS p up d).m≤p:=by
 unfold topD at h2
 obtain ⟨a,b,c⟩:=cutD_k (neg:=d.neg) (rest:=false) (up:=up) h0 p1 p2 h1 h2
 obtain ⟨x,y,z⟩:=cutD_top (neg:=d.neg) (rest:=false) (up:=up) h0 p1 p2 h1 h2
 exact ⟨dirD_dir p1 a,b,x,y⟩
theorem rndS_zero (p:Nat)(up:Bool):rndS p up dz=dz:=by
 unfold rndS dirD cutD
 have h:cutM 0 false p (up != dz.neg)=0:=by unfold cutM cutN;simp [bl]
 show (fitD dz.neg (cutM 0 false p (up != dz.neg)) _).v=dz
 rw [h]
 rfl
theorem dir_le {up:Bool}{p:Nat}{x d b:Rat}(h:IsDir up p x d)(hb:Fits p b)(hx:x≤b):d≤b:=by
 cases up with
 | true=>exact IsUp.best h b hb hx
 | false=>exact Rat.le_trans (IsDown.le h) hx
theorem dir_ge {up:Bool}{p:Nat}{x d b:Rat}(h:IsDir up p x d)(hb:Fits p b)(hx:b≤x):b≤d:=by
 cases up with
 | true=>exact Rat.le_trans hx (IsUp.le h)
 | false=>exact IsDown.best h b hb hx
theorem nearS_k {s t:Dy}{p:Nat}{up:Bool}(p1:1≤p)(p2:p≤2000)(s0:s.m≠0)(sn:s.neg=false)(sb:bl s.m≤p)(s1:1≤s.q)(t0:t.m≠0)(tn:t.neg=false)(tk:t.Ok)(h2:s.q+t.q<2) :
 (-4095≤t.e→IsDir up p (s.q+t.q) (nearS p up s t).q∧(nearS p up s t).neg=false∧(nearS p up s t).m≠0∧bl (nearS p up s t).m≤p)∧(t.e < -4095→nearS p up s t=dz):=by
 obtain ⟨a,b⟩:=sum_k p2 s0 sn sb s1 t0 tn tk h2
 constructor
 ·intro h
  have hk:=a.2 h
  obtain ⟨b1,b2,b3,b4⟩:=b hk
  have hq:=sumD_q hk
  obtain ⟨c1,c2,c3,c4⟩:=rndS_dir (up:=up) p1 p2 b1 (by omega) (by omega)
  rw [hq] at c1
  exact ⟨c1,c2.trans b2,c3,c4⟩
 ·intro h
  have hk:(sumD s t).k≠0:=fun e=>by have:=a.1 e;omega
  have hz:(sumD s t).v=dz:=by
   have hs:s.Ok∨True:=.inr trivial
   unfold sumD at hk ⊢
   rw [if_neg s0,if_neg t0] at hk ⊢
   split at hk<;>rename_i hc
   ·rw [if_pos hc]
    exact (sumC_ok _ _).2 hk
   ·rw [if_neg hc]
    exact (sumC_ok _ _).2 hk
  unfold nearS
  rw [hz,rndS_zero]
theorem eT_half {r:Rat}(h0:0≤r)(h1:r≤1/2)(j:Nat):2*eT r (j+1)≤eT r j:=by
 have h2:=eT_succ r j
 have h3:=eT_nonneg h0 (j+1)
 have h4:=eT_nonneg h0 j
 have h5:(1:Rat)≤((j+1:Nat):Rat):=by exact_mod_cast Nat.le_add_left 1 j
 have h6:=Rat.mul_le_mul_of_nonneg_right h5 h3
 have h7:=Rat.mul_le_mul_of_nonneg_right h1 h4
 rw [h2] at h6
 grind
theorem eS_tail {r:Rat}(h0:0≤r)(h1:r≤1/2)(j n:Nat):eS r n≤eS r (j+1)+eT r j:=by
 have step:∀ m,eS r (j+1+m)+eT r (j+m)≤eS r (j+1)+eT r j:=by
  intro m
  induction m with
  | zero=>exact Rat.le_refl
  | succ m ih =>
    have h2:=eT_half h0 h1 (j+m)
    have e1:eS r (j+1+(m+1))=eS r (j+1+m)+eT r (j+1+m):=rfl
    have e2:j+1+m=j+m+1:=by omega
    rw [e2] at e1 ih
    have e3:j+(m+1)=j+m+1:=by omega
    rw [e1,e3]
    grind
 have h2:=step n
 have h3:=eS_le h0 (m:=n) (n:=j+1+n) (by omega)
 have h4:=eT_nonneg h0 (j+n)
 grind
def sB (j:Nat):Nat:=if j≤1 then 65536 else 65790+j
theorem sB_one:(sB 1:Rat)*pw (-16)=1:=by decide +kernel
theorem pw_m1:pw (-1)=1/2:=by decide +kernel
theorem pw_m8:pw (-8)=1/256:=by decide +kernel
theorem sB_step {j:Nat}(h:1≤j):(sB j:Rat)*pw (-16)+pw (-8*(j:Int))≤(sB (j+1):Rat)*pw (-16):=by
 by_cases h1:j=1
 ·subst h1
  decide +kernel
 ·have e : (sB (j + 1) : Rat) = (sB j : Rat) + 1 := by
   have:sB (j+1)=sB j+1:=by
    unfold sB
    rw [if_neg (by omega),if_neg (by omega)]
    omega
   rw [this,Rat.natCast_add]
   rfl
  have h2:=pw_mono (show -8*(j:Int)≤-16 by omega)
  rw [e]
  grind
theorem sB_le {j:Nat}(h:j≤500):(sB j:Rat)*pw (-16)≤17/16:=by
 have h1:sB j≤69632:=by unfold sB;split<;>omega
 have h2:=(mul_pw_le (-16)).2 (nat_cast_le.2 h1)
 have h3:((69632:Nat):Rat)*pw (-16)=17/16:=by decide +kernel
 rwa [h3] at h2
theorem sB_fits {j p:Nat}(h:j≤500)(hp:17≤p):Fits p ((sB j:Rat)*pw (-16)):=by
 have h1:sB j<2^17:=by unfold sB;split<;>omega
 exact (fits_nat (p:=p) (m:=sB j) (Nat.le_trans (bl_le _ _ h1) hp)).pw (-16)
structure NI (p:Nat) (up:Bool) (r:Rat) (j:Nat) (s t:Dy):Prop where
 s0:s.m≠0
 sn:s.neg=false
 sb:bl s.m≤p
 s1:1≤s.q
 s2:s.q≤(sB j:Rat)*pw (-16)
 t0:t.m≠0
 tn:t.neg=false
 tb:bl t.m≤p
 t2:t.q≤pw (-8*((j:Int)-1))
 t3:-(p:Int)-8≤topD t
 dir:if up then eT r (j-1)≤t.q∧eS r j≤s.q else t.q≤eT r (j-1)∧s.q≤eS r j
theorem one_q:one.q=1:=by decide +kernel
theorem NI.start {p:Nat}{up:Bool}{r:Rat}(p1:1≤p):NI p up r 1 one one:=by
 have b:bl one.m=1:=by decide
 have t:topD one=1:=by decide
 refine ⟨by decide,rfl,by omega,by rw [one_q];exact Rat.le_refl,by rw [one_q,sB_one];exact Rat.le_refl,by decide,rfl,by omega,?_,by omega,?_⟩
 ·rw [one_q]
  show (1:Rat)≤pw 0
  rw [pw_zero]
  exact Rat.le_refl
 ·rw [one_q, eS_one]
  cases up
  ·exact ⟨Rat.le_refl,Rat.le_refl⟩
  ·exact ⟨Rat.le_refl,Rat.le_refl⟩
theorem eT_next (r:Rat){j:Nat}(h:1≤j):eT r j=eT r (j-1)*r/(j:Rat):=by
 obtain ⟨i,rfl⟩:∃ i,j=i+1:=⟨j-1,by omega⟩
 rfl
theorem near_term {p j:Nat}{up:Bool}{r s t:Dy}(p1:1≤p)(p2:p≤2000)(hr:r.m≠0)(rn:r.neg=false)(hr1:-500≤r.e)(hr2:topD r≤-8)(j1:1≤j)(j2:j≤500)(h:NI p up r.q j s t) :
 (nearT p up r t j).m≠0∧(nearT p up r t j).neg=false∧bl (nearT p up r t j).m≤p∧(nearT p up r t j).q≤pw (-8*(j:Int))∧topD t+topD r-25≤topD (nearT p up r t j) ∧
   (if up then eT r.q j≤(nearT p up r t j).q else (nearT p up r t j).q≤eT r.q j):=by
 have tp:=q_gt h.t0 h.tn
 have tt:=(q_top h.t0 h.tn).1
 have rp:=q_gt hr rn
 have rt:r.q<pw (-8):=by
  have:=(q_top hr rn).2
  have:=pw_mono hr2
  grind
 have t4:topD t≤100:=by
  have a:=h.t2
  have b:=pw_mono (show -8*((j:Int)-1)≤0 by omega)
  have c:pw (topD t-1)≤pw 0:=by grind
  have:=pw_inv c
  omega
 have t3:=h.t3
 obtain ⟨a1,a2,a3⟩:=nearT_step (up:=up) p1 p2 hr hr1 hr2 h.t0 h.tb (by omega) t4 j1 (by omega)
 obtain ⟨b1,b2,b3⟩:=nearT_full (up:=up) p1 p2 hr rn hr1 hr2 h.t0 h.tn h.tb (by omega) t4 j1 (by omega)
 have hj:(1:Rat)≤(j:Rat):=by exact_mod_cast j1
 have hji:(0:Rat)<(j:Rat)⁻¹:=Rat.inv_pos.2 (by grind)
 have hjm:(j:Rat)*(j:Rat)⁻¹=1:=Rat.mul_inv_cancel _ (by grind)
 have hji1:(j:Rat)⁻¹≤1:=by
  have:=Rat.mul_le_mul_of_nonneg_right hj (Rat.le_of_lt hji)
  grind
 have tr0:0<t.q*r.q:=Rat.mul_pos tp rp
 have hle:t.q*r.q/(j:Rat)≤t.q*r.q:=by
  rw [Rat.div_def]
  have:=Rat.mul_le_mul_of_nonneg_left hji1 (Rat.le_of_lt tr0)
  grind
 refine ⟨a1,b1,a2,?_,b3,?_⟩
 ·refine dir_le b2 (fits_pw p1 _) (Rat.le_trans hle ?_)
  have e:-8*(j:Int)=-8*((j:Int)-1)+-8:=by omega
  rw [e,pw_add]
  have c1:=Rat.mul_le_mul_of_nonneg_right h.t2 (Rat.le_of_lt rp)
  have c2:=Rat.mul_le_mul_of_nonneg_left (Rat.le_of_lt rt) (pw_nonneg (-8*((j:Int)-1)))
  exact Rat.le_trans c1 c2
 ·have hd := h.dir
  have hm:∀ {x y:Rat},x≤y→x*r.q/(j:Rat)≤y*r.q/(j:Rat):=fun hxy=>by
   rw [Rat.div_def,Rat.div_def]
   exact Rat.mul_le_mul_of_nonneg_right (Rat.mul_le_mul_of_nonneg_right hxy (Rat.le_of_lt rp)) (Rat.le_of_lt hji)
  rw [eT_next _ j1]
  cases up with
  | true =>
    rw [if_pos rfl] at hd
    show _≤_
    exact Rat.le_trans (hm hd.1) (IsUp.le b2)
  | false =>
    rw [if_neg (by decide)] at hd
    show _≤_
    exact Rat.le_trans (IsDown.le b2) (hm hd.1)
theorem NI.next {p j:Nat}{up:Bool}{r s t:Dy}(p1:17≤p)(p2:p≤2000)(hr:r.m≠0)(rn:r.neg=false)(hr1:-500≤r.e)(hr2:topD r≤-8)(j1:1≤j)(j2:j≤499)(h:NI p up r.q j s t) :
 (s.q+(nearT p up r t j).q<2)∧(-4095≤(nearT p up r t j).e→(nearS p up s (nearT p up r t j)).m≠0∧(nearS p up s (nearT p up r t j)).neg=false∧bl (nearS p up s (nearT p up r t j)).m≤p∧1≤(nearS p up s (nearT p up r t j)).q ∧
   (nearS p up s (nearT p up r t j)).q≤(sB (j+1):Rat)*pw (-16)∧(if up then eS r.q (j+1)≤(nearS p up s (nearT p up r t j)).q else (nearS p up s (nearT p up r t j)).q≤eS r.q (j+1))) ∧
   ((nearT p up r t j).e < -4095→nearS p up s (nearT p up r t j)=dz):=by
 obtain ⟨a1,a2,a3,a4,a5,a6⟩:=near_term (up:=up) (s:=s) (by omega) p2 hr rn hr1 hr2 j1 (by omega) h
 have tk:(nearT p up r t j).Ok:=(quotZ_ok _ _ _ _).1
 generalize nearT p up r t j=t' at *
 have hs:=h.s2
 have hb:=sB_step j1
 have hb2:=sB_le (show j+1≤500 by omega)
 have hsum:s.q+t'.q≤(sB (j+1):Rat)*pw (-16):=by grind
 have hlt:s.q+t'.q<2:=by grind
 have tp:=q_gt a1 a2
 obtain ⟨c1,c2⟩:=nearS_k (up:=up) (by omega) p2 h.s0 h.sn h.sb h.s1 a1 a2 tk hlt
 refine ⟨hlt,fun he=>?_,c2⟩
 obtain ⟨d1,d2,d3,d4⟩:=c1 he
 refine ⟨d3,d2,d4,?_,dir_le d1 (sB_fits (by omega) p1) hsum,?_⟩
 ·have := h.s1
  exact dir_ge d1 (fits_one (by omega)) (by grind)
 ·have hd := h.dir
  have e:eS r.q (j+1)=eS r.q j+eT r.q j:=rfl
  rw [e]
  cases up with
  | true =>
    have hd2:eT r.q (j-1)≤t.q∧eS r.q j≤s.q:=hd
    have a6':eT r.q j≤t'.q:=a6
    show _≤_
    have:=IsUp.le d1
    grind
  | false =>
    have hd2:t.q≤eT r.q (j-1)∧s.q≤eS r.q j:=hd
    have a6':t'.q≤eT r.q j:=a6
    show _≤_
    have:=IsDown.le d1
    grind
def NearLo (p:Nat) (r x:Dy):Prop:=(x=dz∧topD r < -60∨x.m≠0∧x.neg=false∧bl x.m≤p∧1≤x.q∧x.q<2)∧∃ n,1≤n∧x.q≤eS r.q n
def NearHi (p:Nat) (r x:Dy):Prop:=x.m≠0∧x.neg=false∧bl x.m≤p∧(topD r < -60∧x.q≤1/2∧-6000≤topD x∨1≤x.q∧x.q<2∧∀ n,eS r.q n≤x.q)
theorem near_end {p j:Nat}{up:Bool}{r s t:Dy}(p1:17≤p)(p2:p≤2000)(hr:r.m≠0)(rn:r.neg=false)(hr1:-500≤r.e)(hr2:topD r≤-8)(j1:1≤j)(j2:j≤498)(h:NI p up r.q j s t) :
 if up then NearHi p r (nearD p up (nearS p up s (nearT p up r t j),nearT p up r t j)) else NearLo p r (nearD p up (nearS p up s (nearT p up r t j),nearT p up r t j)):=by
 obtain ⟨a1,a2,a3,a4,a5,a6⟩:=near_term (up:=up) (s:=s) (by omega) p2 hr rn hr1 hr2 j1 (by omega) h
 obtain ⟨b1,b2,b3⟩:=h.next p1 p2 hr rn hr1 hr2 j1 (by omega)
 have tk:(nearT p up r t j).Ok:=(quotZ_ok _ _ _ _).1
 have t3:=h.t3
 generalize nearT p up r t j=t' at *
 have rp:=q_gt hr rn
 have tp:=q_gt a1 a2
 have rt:r.q≤1/2:=by
  have:=(q_top hr rn).2
  have:=pw_mono (show topD r≤-1 by omega)
  have e:=pw_m1
  grind
 have a5':topD t+topD r-25≤(bl t'.m:Int)+t'.e:=a5
 by_cases he:-4095≤t'.e
 ·obtain ⟨c1, c2, c3, c4, c5, c6⟩ := b2 he
  have hb2:=sB_le (show j+1≤500 by omega)
  cases up with
  | false =>
    show NearLo _ _ _
    refine ⟨.inr ⟨c1,c2,c3,c4,?_⟩,j+1,by omega,c6⟩
    show (nearS p false s t').q<2
    grind
  | true =>
    show NearHi p r (nearS p true (nearS p true s t') t')
    have a6':eT r.q j≤t'.q:=a6
    have c6':eS r.q (j+1)≤(nearS p true s t').q:=c6
    have t8:t'.q≤pw (-8):=Rat.le_trans a4 (pw_mono (by omega))
    have e8:=pw_m8
    generalize nearS p true s t'=s' at *
    have c5':=Rat.le_trans c5 hb2
    have t8':t'.q≤1/256:=by rw [←e8];exact t8
    clear hb2 c5 t8 e8 b1 b2 b3 a4 a5' h a5
    obtain ⟨d1,-⟩:=nearS_k (up:=true) (by omega) p2 c1 c2 c3 c4 a1 a2 tk (by grind)
    obtain ⟨f1,f2,f3,f4⟩:=d1 he
    have hup:=IsUp.le f1
    refine ⟨f3,f2,f4,.inr ⟨by grind,?_,fun n=>?_⟩⟩
    ·have hf : Fits p (3 / 2) := by
      have:=(fits_nat (p:=p) (m:=3) (Nat.le_trans (bl_le 3 2 (by decide)) (by omega))).pw (-1)
      have e:((3:Nat):Rat)*pw (-1)=3/2:=by decide +kernel
      rwa [e] at this
     have:=dir_le f1 hf (by grind)
     grind
    ·have := eS_tail (Rat.le_of_lt rp) rt j n
     grind
 ·have h0 := b3 (by omega)
  have hr60:topD r < -60:=by omega
  cases up with
  | false =>
    show NearLo _ _ _
    refine ⟨.inl ⟨h0,hr60⟩,1,by omega,?_⟩
    show (nearS p false s t').q≤_
    rw [h0,dz_q,eS_one]
    decide
  | true =>
    show NearHi p r (nearS p true (nearS p true s t') t')
    rw [h0]
    have e:nearS p true dz t'=rndS p true t':=by
     unfold nearS sumD
     rw [if_pos (show dz.m=0 from rfl)]
     rfl
    rw [e]
    have tt:topD t'≤0:=by
     have c:=(q_top a1 a2).1
     have d:=pw_mono (show -8*(j:Int)≤-8 by omega)
     have f:pw (topD t'-1)≤pw (-8):=by grind
     have:=pw_inv f
     omega
    have hr3:topD r=(bl r.m:Int)+r.e:=rfl
    have te:-5000≤t'.e:=by omega
    obtain ⟨c1,c2,c3,c4⟩:=rndS_dir (up:=true) (by omega) p2 a1 (by omega) (by omega)
    refine ⟨c3,c2.trans a2,c4,.inl ⟨hr60,?_,?_⟩⟩
    ·have f2 := fits_pw (p := p) (by omega) (-1)
     have e2:=pw_m1
     rw [←e2]
     exact dir_le c1 f2 (Rat.le_trans a4 (pw_mono (by omega)))
    ·have u1 := dir_ge c1 (fits_pw (by omega) (topD t' - 1)) (q_top a1 a2).1
     have:=top_ge c3 (c2.trans a2) u1
     have e3:topD t'=(bl t'.m:Int)+t'.e:=rfl
     omega
theorem near_go {p:Nat}{up:Bool}{r:Dy}(p1:17≤p)(p2:p≤2000)(hr:r.m≠0)(rn:r.neg=false)(hr1:-500≤r.e)(hr2:topD r≤-8):∀ (f j:Nat) (s t:Dy) (o:Dy × Dy),NI p up r.q j s t→1≤j→j+f≤498→nearG p up r f j s t=some o →
 if up then NearHi p r (nearD p up o) else NearLo p r (nearD p up o)
 | 0,j,s,t,o,_,_,_,h=>by simp [nearG] at h
 | f + 1, j, s, t, o, hI, j1, j2, h => by
   rw [nearG] at h
   split at h
   ·obtain rfl := Option.some.inj h
    exact near_end p1 p2 hr rn hr1 hr2 j1 (by omega) hI
   ·rename_i hc
    obtain ⟨a1,a2,a3,a4,a5,a6⟩:=near_term (up:=up) (s:=s) (by omega) p2 hr rn hr1 hr2 j1 (by omega) hI
    obtain ⟨b1,b2,b3⟩:=hI.next p1 p2 hr rn hr1 hr2 j1 (by omega)
    have he:-4095≤(nearT p up r t j).e:=by
     have:¬(bl (nearT p up r t j).m:Int)+(nearT p up r t j).e < -(p:Int)-8:=hc
     omega
    obtain ⟨c1,c2,c3,c4,c5,c6⟩:=b2 he
    refine near_go p1 p2 hr rn hr1 hr2 f (j+1) _ _ o ⟨c1,c2,c3,c4,c5,a1,a2,a3,?_,by omega,?_⟩ (by omega) (by omega) h
    ·have e : -8 * (((j + 1 : Nat) : Int) - 1) = -8 * (j : Int) := by omega
     rw [e]
     exact a4
    ·cases up with
     | true=>exact ⟨a6,c6⟩
     | false=>exact ⟨a6,c6⟩
end Go.Proofs.YtabjjdicffcolaaGreatDoor
namespace Go.Proofs.YtabjjdicffcolaaGreatDoor
open Go.RowKit
def nearO (p:Nat) (up:Bool) (d:Dy):Dy × Dy:=(nearG p up (bndR (absD d)) 400 1 one one).getD (one,one)
def bnE (d:Dy) (w:Nat):Dy × Dy:=bndsD w d (bndD w false d (nearO w false d)) (bndD w true d (nearO w true d))
def exX (d:Dy) (p w:Nat) (up:Bool):Dy:=rndS p up (bnE d w).1
def exY (d:Dy) (p w:Nat) (up:Bool):Dy:=rndS p up (bnE d w).2
def expL (d:Dy) (p:Nat) (up:Bool):Nat→Nat→Outc Dy
 | 0,_=>bad 2
 | f+1,w=>if 2000<w then bad 2 else if sameR (exX d p w up).raw (exY d p w up).raw=true then good (exX d p w up) else expL d p up f (w+w/2)
def expD (d:Dy) (p:Nat) (up:Bool):Outc Dy:=if mayX d.raw p≠0 then bad (mayX d.raw p) else if d.m=0 then good one else expL d p up 2000 (p+40)
theorem exX_ok (d:Dy)(p w:Nat)(up:Bool):(exX d p w up).Ok:=rndS_ok _ _ _
theorem expL_ok (d:Dy)(p:Nat)(up:Bool):∀ f w,(expL d p up f w).Ok
 | 0,_=>bad_ok _
 | f + 1, w => by
   rw [expL]
   split
   ·exact bad_ok _
   ·split
    ·exact good_ok (exX_ok _ _ _ _)
    ·exact expL_ok d p up f _
theorem expD_ok (d:Dy)(p:Nat)(up:Bool):(expD d p up).Ok:=by
 unfold expD
 split
 ·exact bad_ok _
 ·split
  ·exact good_ok d1_ok
  ·exact expL_ok _ _ _ _ _
def ExB (S:Nat) (z:Bool) (d:Dy) (v:Value) (w:World):Prop:=∃ b,v=.pointer (some ⟨b,0,none⟩)∧S≤b∧(z=false→Blk w b (.bool false) (.slice none 0 0) (.int .i64 0)) ∧
 (z=true→∃ A l c,Blk w b (.bool d.neg) (.slice A l c) (.int .i64 d.e)∧DyR w (.agg #[.bool d.neg,.slice A l c,.int .i64 d.e]) d.raw)
theorem ExB.kept {S:Nat}{z:Bool}{d:Dy}{v:Value}{w w':World}(h:ExB S z d v w)(k:Kept w w'):ExB S z d v w':=by
 obtain ⟨b,h1,h2,h4,h5⟩:=h
 exact ⟨b,h1,h2,fun e=>(h4 e).kept k,fun e=>by obtain ⟨A,l,c,a1,a2⟩:=h5 e;exact ⟨A,l,c,a1.kept k,a2.kept k⟩⟩
theorem ExB.ne {S:Nat}{z:Bool}{d:Dy}{v:Value}{w:World}(h:ExB S z d v w):v≠.pointer (some ⟨w.heap.size,0,none⟩):=by
 obtain ⟨b,rfl,h2,h4,h5⟩:=h
 intro e
 have hb:b<w.heap.size:=by
  cases z with
  | false=>exact (h4 rfl).facts.1
  | true=>obtain ⟨A,l,c,a1,a2⟩:=h5 rfl;exact a1.facts.1
 cases e
 omega
theorem ExB.new {S:Nat}(d:Dy){w:World}(h:S≤w.heap.size):ExB S false d (.pointer (some ⟨w.heap.size,0,none⟩)) (w.alloc (.cells #[.bool false,.slice none 0 0,.int .i64 0] 28)) :=
 ⟨_,rfl,h,fun _=>blk_new0 _,fun e=>by cases e⟩
theorem ExB.other {S b0:Nat}{z:Bool}{d:Dy}{v:Value}{w:World}(h:ExB S z d v w)(hb:Blk w b0 (.bool false) (.slice none 0 0) (.int .i64 0))(hv:v≠.pointer (some ⟨b0,0,none⟩))(x' y' z':Value) :
 ExB S z d v (dyW w b0 x' y' z'):=by
 obtain ⟨b,h1,h2,h4,h5⟩:=h
 have hne:¬b=b0:=fun e=>hv (by rw [h1,e])
 refine ⟨b,h1,h2,fun e=>(h4 e).laid_other hne _ _ _,fun e=>?_⟩
 obtain ⟨A,l,c,a1,a2⟩:=h5 e
 exact ⟨A,l,c,a1.laid_other hne _ _ _,a2.dyW hb (noLimb_bool _) (noLimb_slice _ _ _) (noLimb_i64 _) _ _ _⟩
theorem ExB.laid {S b0:Nat}{d:Dy}{w:World}{A:Option Addr}{l c:Nat}(hb:Blk w b0 (.bool false) (.slice none 0 0) (.int .i64 0))(hS:S≤b0)(hd:DyR w (.agg #[.bool d.neg,.slice A l c,.int .i64 d.e]) d.raw) :
 ExB S true d (.pointer (some ⟨b0,0,none⟩)) (dyW w b0 (.bool d.neg) (.slice A l c) (.int .i64 d.e)) :=
 ⟨_,rfl,hS,fun e=>(by cases e),fun _=>⟨A,l,c,hb.laid _ _ _,hd.dyW hb (noLimb_bool _) (noLimb_slice _ _ _) (noLimb_i64 _) _ _ _⟩⟩
def ExG (S:Nat) (x y:Dy) (L:Nat→Bool) (u:Nat→Value) (w:World):Prop :=
 (L 10=true→ExB S (L 12) x (u 10) w)∧(L 11=true→ExB S (L 13) y (u 11) w)∧(L 10=true→L 11=true→u 10≠u 11)∧(L 10=false→L 12=false)∧(L 11=false→L 13=false)
theorem ExG.keep {S:Nat}{x y:Dy}{L:Nat→Bool}{u:Nat→Value}{w w':World}{i:Nat}{v:Value}(hE:(i==10||i==11||i==12||i==13)=false)(k:Kept w w')(h:ExG S x y L u w):ExG S x y (upd L i true) (upd u i v) w':=by
 simp only [Bool.or_eq_false_iff,beq_eq_false_iff_ne] at hE
 obtain ⟨⟨⟨h10,h11⟩,h12⟩,h13⟩:=hE
 obtain ⟨a,b,c,d,e⟩:=h
 have u1:∀ {α:Type} (f:Nat→α) (x:α) (j:Nat),¬i=j→upd f i x j=f j:=fun f x j hj=>by unfold upd;rw [if_neg (fun e=>hj e.symm)]
 refine ⟨?_,?_,?_,?_,?_⟩<;>simp only [u1 _ _ 10 h10,u1 _ _ 11 h11,u1 _ _ 12 h12,u1 _ _ 13 h13]
 ·exact fun q=>(a q).kept k
 ·exact fun q=>(b q).kept k
 ·exact c
 ·exact d
 ·exact e
theorem ExG.put10 {S:Nat}{x y:Dy}{L:Nat→Bool}{u:Nat→Value}{w:World}(hS:S≤w.heap.size)(h:ExG S x y L u w)(h0:L 10=false) :
 ExG S x y (upd L 10 true) (upd u 10 (.pointer (some ⟨w.heap.size,0,none⟩))) (w.alloc (.cells #[.bool false,.slice none 0 0,.int .i64 0] 28)):=by
 obtain ⟨a,b,c,d,e⟩:=h
 have h12:=d h0
 unfold ExG
 simp only [upd,reduceIte,Nat.reduceEqDiff,h12]
 exact ⟨fun _=>ExB.new x hS,fun q=>(b q).kept (kept_alloc _ _),fun _ q=>fun e=>(b q).ne e.symm,fun q=>trivial,e⟩
theorem ExG.put11 {S:Nat}{x y:Dy}{L:Nat→Bool}{u:Nat→Value}{w:World}(hS:S≤w.heap.size)(h:ExG S x y L u w)(h0:L 11=false) :
 ExG S x y (upd L 11 true) (upd u 11 (.pointer (some ⟨w.heap.size,0,none⟩))) (w.alloc (.cells #[.bool false,.slice none 0 0,.int .i64 0] 28)):=by
 obtain ⟨a,b,c,d,e⟩:=h
 have h13:=e h0
 unfold ExG
 simp only [upd,reduceIte,Nat.reduceEqDiff,h13]
 exact ⟨fun q=>(a q).kept (kept_alloc _ _),fun _=>ExB.new y hS,fun q _=>(a q).ne,d,fun q=>trivial⟩
theorem ExG.put12 {S b0:Nat}{x y:Dy}{L:Nat→Bool}{u:Nat→Value}{w:World}{A:Option Addr}{l c:Nat}{v:Value}(h:ExG S x y L u w)(h0:L 10=true)(e0:u 10=.pointer (some ⟨b0,0,none⟩))(hS:S≤b0)
 (hb:Blk w b0 (.bool false) (.slice none 0 0) (.int .i64 0)) (hd:DyR w (.agg #[.bool x.neg,.slice A l c,.int .i64 x.e]) x.raw) :
 ExG S x y (upd L 12 true) (upd u 12 v) (dyW w b0 (.bool x.neg) (.slice A l c) (.int .i64 x.e)):=by
 obtain ⟨a,b,c,d,e⟩:=h
 unfold ExG
 simp only [upd,reduceIte,Nat.reduceEqDiff,h0]
 refine ⟨fun _=>by rw [e0];exact ExB.laid hb hS hd,fun q=>(b q).other hb (fun ee=>c h0 q (e0.trans ee.symm)) _ _ _,fun _ q=>c h0 q,fun q=>by (cases q),e⟩
theorem ExG.put13 {S b0:Nat}{x y:Dy}{L:Nat→Bool}{u:Nat→Value}{w:World}{A:Option Addr}{l c:Nat}{v:Value}(h:ExG S x y L u w)(h0:L 11=true)(e0:u 11=.pointer (some ⟨b0,0,none⟩))(hS:S≤b0)
 (hb:Blk w b0 (.bool false) (.slice none 0 0) (.int .i64 0)) (hd:DyR w (.agg #[.bool y.neg,.slice A l c,.int .i64 y.e]) y.raw) :
 ExG S x y (upd L 13 true) (upd u 13 v) (dyW w b0 (.bool y.neg) (.slice A l c) (.int .i64 y.e)):=by
 obtain ⟨a,b,c,d,e⟩:=h
 unfold ExG
 simp only [upd,reduceIte,Nat.reduceEqDiff,h0]
 refine ⟨fun q=>(a q).other hb (fun ee=>c q h0 (ee.trans e0.symm)) _ _ _,fun _=>by rw [e0];exact ExB.laid hb hS hd,fun q _=>c q h0,d,fun q=>by (cases q)⟩
end Go.Proofs.YtabjjdicffcolaaGreatDoor
