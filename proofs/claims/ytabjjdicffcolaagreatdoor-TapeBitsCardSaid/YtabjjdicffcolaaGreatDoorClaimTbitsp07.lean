/- Plain mathematics, no program: laws of reckoning with intervals (order, inclusion, exactness). -/
import Derived.Test.YtabjjdicffcolaaGreatDoorClaimTbitsp02
set_option maxRecDepth 100000
set_option maxHeartbeats 16000000
namespace Go.Proofs.YtabjjdicffcolaaGreatDoor
def isqF (n:Nat):Nat→Nat→Nat
 | 0,x=>x
 | f+1,x=>if x≤(x+n/x)/2 then x else isqF n f ((x+n/x)/2)
def isq (n:Nat):Nat:=if n=0 then 0 else isqF n (2^((bl n+1)/2)) (2^((bl n+1)/2))
theorem sq_lt_sq {a b:Nat}(h:a*a<b*b):a<b:=by
 by_cases hab:a<b
 ·exact hab
 ·have := Nat.mul_le_mul (show b ≤ a by omega) (show b ≤ a by omega);omega
theorem step_above (n x:Nat)(hx:0<x):n<((x+n/x)/2+1)*((x+n/x)/2+1):=by
 have a:=Nat.lt_mul_div_succ n hx;generalize n/x=q at *;generalize hy:(x+q)/2=y at *;have b:x+q+1≤2*(y+1):=by omega
 -- n < x (q + 1), and 4 x (q + 1) ≤ (x + q + 1)^2
 have c:4*(x*(q+1))≤(x+(q+1))*(x+(q+1)):=by
  rcases Nat.le_total x (q+1) with h | h
  ·obtain ⟨d, hd⟩ : ∃ d, q + 1 = x + d := ⟨q + 1 - x, by omega⟩;rw [hd];have e:(x+(x+d))*(x+(x+d))=4*(x*(x+d))+d*d:=by grind
   omega
  ·obtain ⟨d, hd⟩ : ∃ d, x = (q + 1) + d := ⟨x - (q + 1), by omega⟩;rw [hd];have e:(q+1+d+(q+1))*(q+1+d+(q+1))=4*((q+1+d)*(q+1))+d*d:=by grind
   omega
 have d:(x+(q+1))*(x+(q+1))≤(2*(y+1))*(2*(y+1)):=Nat.mul_le_mul (by omega) (by omega);have e:(2*(y+1))*(2*(y+1))=4*((y+1)*(y+1)):=by grind
 omega
theorem step_done (n x:Nat)(hx:0<x)(h:x≤(x+n/x)/2):x*x≤n:=by
 have:x≤n/x:=by omega
 rwa [Nat.le_div_iff_mul_le hx] at this
theorem step_pos (n x:Nat)(hx:0<x)(hn:0<n):0<(x+n/x)/2:=by
 have:=step_above n x hx
 by_cases h:(x+n/x)/2=0
 ·rw [h] at this;omega
 ·exact Nat.pos_of_ne_zero h
theorem isqF_spec (n:Nat)(hn:0<n):∀ f x,0<x→x≤f→n<(x+1)*(x+1)→isqF n f x*isqF n f x≤n∧n<(isqF n f x+1)*(isqF n f x+1)
 | 0,x,hx,hf,_=>by omega
 | f + 1, x, hx, hf, h => by
   unfold isqF
   by_cases hd:x≤(x+n/x)/2
   ·rw [if_pos hd];exact ⟨step_done n x hx hd,h⟩
   ·rw [if_neg hd];exact isqF_spec n hn f _ (step_pos n x hx hn) (by omega) (step_above n x hx)
theorem isq_start (n:Nat):n<(2^((bl n+1)/2)+1)*(2^((bl n+1)/2)+1):=by
 have a:=lt_two_bl n;have b:2^bl n≤2^((bl n+1)/2+(bl n+1)/2):=Nat.pow_le_pow_right (by decide) (by omega);rw [Nat.pow_add] at b;have c:=Nat.mul_le_mul (Nat.le_succ (2^((bl n+1)/2))) (Nat.le_succ (2^((bl n+1)/2)));exact Nat.lt_of_lt_of_le a (Nat.le_trans b c)
theorem isq_spec (n:Nat):isq n*isq n≤n∧n<(isq n+1)*(isq n+1):=by
 unfold isq
 by_cases h:n=0
 ·subst h;simp
 ·rw [if_neg h];exact isqF_spec n (by omega) _ _ (Nat.pow_pos (by decide)) (Nat.le_refl _) (isq_start n)
end Go.Proofs.YtabjjdicffcolaaGreatDoor
namespace Go.Proofs.YtabjjdicffcolaaGreatDoor
def negD (d:Dy):Dy:=if d.m=0 then d else ⟨!d.neg,d.m,d.e⟩
theorem negD_q (d:Dy):(negD d).q=-d.q:=by
 unfold negD Dy.q
 by_cases h:d.m=0
 ·rw [if_pos h,h,sq_zero,Rat.zero_mul];rfl
 ·rw [if_neg h];simp only [sq_neg,Rat.neg_mul]
theorem negD_ok {d:Dy}(h:d.Ok):(negD d).Ok:=by
 unfold negD
 by_cases h0:d.m=0
 ·rw [if_pos h0];exact h
 ·rw [if_neg h0];exact ⟨h.len,fun hz=>absurd hz h0,h.odd,h.lo,h.hi⟩
def sumC (a b:Dy):Outc Dy :=
 if ¬a.e=b.e∧4097-(bl a.m:Int)<a.e-b.e then bad 2
 else if a.neg=b.neg then fitD a.neg (a.m*2^(a.e-b.e).toNat+b.m) b.e
 else if b.m≤a.m*2^(a.e-b.e).toNat then fitD a.neg (a.m*2^(a.e-b.e).toNat-b.m) b.e
 else fitD b.neg (b.m-a.m*2^(a.e-b.e).toNat) b.e
def sumD (x y:Dy):Outc Dy :=
 if x.m=0 then good y else if y.m=0 then good x else if x.e<y.e then sumC y x else sumC x y
theorem sumC_q {a b:Dy}(h:b.e≤a.e)(hk:(sumC a b).k=0):(sumC a b).v.q=a.q+b.q:=by
 have e1:sq a.neg (a.m*2^(a.e-b.e).toNat)*pw b.e=a.q:=by
  unfold Dy.q;have:=mag_nat a.m h;unfold sq;cases a.neg
  ·simp only [Bool.false_eq_true,if_false];exact this.symm
  ·simp only [if_true,Rat.neg_mul];rw [this]
 unfold sumC at *
 by_cases h1:¬a.e=b.e∧4097-(bl a.m:Int)<a.e-b.e
 ·rw [if_pos h1] at hk;exact absurd hk (by decide)
 ·rw [if_neg h1] at hk ⊢;generalize a.m*2^(a.e-b.e).toNat=X at *
  by_cases h2:a.neg=b.neg
  ·rw [if_pos h2] at hk ⊢;rw [fitD_q hk,←e1];unfold Dy.q;rw [h2];unfold sq;cases b.neg
   ·simp only [Bool.false_eq_true,if_false,Rat.natCast_add,Rat.add_mul]
   ·simp only [if_true,Rat.natCast_add,Rat.neg_mul,Rat.add_mul];grind
  ·rw [if_neg h2] at hk ⊢;have e2:b.neg=!a.neg:=by cases ha:a.neg<;>cases hb:b.neg<;>simp_all
   by_cases h3:b.m≤X
   ·rw [if_pos h3] at hk ⊢;rw [fitD_q hk,←e1];unfold Dy.q;rw [e2,sq_neg];obtain ⟨c,rfl⟩:∃ c,X=b.m+c:=⟨X-b.m,by omega⟩;rw [Nat.add_sub_cancel_left];unfold sq;cases a.neg
    ·simp only [Bool.false_eq_true,if_false,Rat.natCast_add,Rat.add_mul,Rat.neg_mul];grind
    ·simp only [if_true,Rat.natCast_add,Rat.neg_mul,Rat.add_mul];grind
   ·rw [if_neg h3] at hk ⊢;rw [fitD_q hk,←e1];unfold Dy.q;rw [e2,sq_neg];obtain ⟨c,hc⟩:∃ c,b.m=X+c:=⟨b.m-X,by omega⟩;rw [hc,Nat.add_sub_cancel_left];unfold sq;cases a.neg
    ·simp only [Bool.false_eq_true,if_false,Rat.natCast_add,Rat.neg_mul];grind
    ·simp only [if_true,Rat.natCast_add,Rat.neg_mul];grind
theorem zero_q {d:Dy}(h:d.m=0):d.q=0:=by unfold Dy.q;rw [h,sq_zero,Rat.zero_mul]
theorem sumD_q {x y:Dy}(hk:(sumD x y).k=0):(sumD x y).v.q=x.q+y.q:=by
 unfold sumD at *
 by_cases h0:x.m=0
 ·rw [if_pos h0,zero_q h0,Rat.zero_add];rfl
 ·rw [if_neg h0] at hk ⊢
  by_cases h1:y.m=0
  ·rw [if_pos h1,zero_q h1,Rat.add_zero];rfl
  ·rw [if_neg h1] at hk ⊢
   by_cases h2:x.e<y.e
   ·rw [if_pos h2] at hk ⊢;rw [sumC_q (by omega) hk,Rat.add_comm]
   ·rw [if_neg h2] at hk ⊢;exact sumC_q (by omega) hk
def Outc.Ok (o:Outc Dy):Prop:=o.v.Ok∧(o.k≠0→o.v=dz)
theorem good_ok {d:Dy}(h:d.Ok):(good d).Ok:=⟨h,fun h=>absurd rfl h⟩
theorem bad_ok (k:Int):(bad k).Ok:=⟨dz_ok,fun _=>rfl⟩
theorem sumC_ok (a b:Dy):(sumC a b).Ok:=by
 unfold sumC
 split
 ·exact bad_ok _
 ·split
  ·exact fitD_ok _ _ _
  ·split<;>exact fitD_ok _ _ _
theorem sumD_ok {x y:Dy}(hx:x.Ok)(hy:y.Ok):(sumD x y).Ok:=by
 unfold sumD
 split
 ·exact good_ok hy
 ·split
  ·exact good_ok hx
  ·split<;>exact sumC_ok _ _
def mulD (x y:Dy):Outc Dy:=fitD (x.neg != y.neg) (x.m*y.m) (x.e+y.e)
theorem mulD_q {x y:Dy}(hk:(mulD x y).k=0):(mulD x y).v.q=x.q*y.q:=by
 unfold mulD at *;rw [fitD_q hk,sq_mul,pw_add];unfold Dy.q
 grind
theorem mulD_ok (x y:Dy):(mulD x y).Ok:=fitD_ok _ _ _
def shiftD (d:Dy) (n:Int):Outc Dy :=
 if d.m=0 then good d else if 2097152<n∨n < -2097152 then bad 3 else fitD d.neg d.m (d.e+n)
theorem shiftD_q {d:Dy}{n:Int}(hk:(shiftD d n).k=0):(shiftD d n).v.q=d.q*pw n:=by
 unfold shiftD at *
 by_cases h:d.m=0
 ·rw [if_pos h];simp only [good];rw [zero_q h,Rat.zero_mul]
 ·rw [if_neg h] at hk ⊢
  by_cases h1:2097152<n∨n < -2097152
  ·rw [if_pos h1] at hk;exact absurd hk (by decide)
  ·rw [if_neg h1] at hk ⊢;rw [fitD_q hk,pw_add,←Rat.mul_assoc];rfl
theorem shiftD_ok {d:Dy}(h:d.Ok)(n:Int):(shiftD d n).Ok:=by
 unfold shiftD
 split
 ·exact good_ok h
 ·split
  ·exact bad_ok _
  ·exact fitD_ok _ _ _
def dirD (d:Dy) (p:Nat) (up:Bool):Outc Dy:=cutD d.neg d.m d.e false p up
theorem dirD_ok (d:Dy)(p:Nat)(up:Bool):(dirD d p up).Ok:=fitD_ok _ _ _
theorem dirD_dir {d:Dy}{p:Nat}{up:Bool}(hp:1≤p)(hk:(dirD d p up).k=0):IsDir up p d.q (dirD d p up).v.q:=by
 have h:=cutD_dir (neg:=d.neg) (m:=d.m) (e:=d.e) (rest:=false) (p:=p) (up:=up) (M:=d.m) (by simp [Mag]) (by simp) hp hk;have e:(if d.neg then -(d.m:Rat) else d.m)*pw d.e=d.q:=rfl;rw [e] at h;exact h
def quotK (a b:Dy) (p:Nat):Nat:=p+1+bl b.m-bl a.m
def quotD (a b:Dy) (p:Nat) (up:Bool):Outc Dy :=
 cutD (a.neg != b.neg) (a.m*2^quotK a b p/b.m) (a.e-b.e-quotK a b p) (decide (¬a.m*2^quotK a b p%b.m=0)) p up
theorem nat_div_rat (n m:Nat)(h:m≠0):Mag (n/m) (decide (¬n%m=0)) ((n:Rat)/m):=by
 have hm:0<(m:Rat):=nat_pos h;have h1:=Nat.div_add_mod n m;have h2:=Nat.mod_lt n (Nat.pos_of_ne_zero h);rw [Nat.mul_comm] at h1
 by_cases hr:n%m=0
 ·have : decide (¬ n % m = 0) = false := by simp [hr]
  rw [this];simp only [Mag,Bool.false_eq_true,if_false];rw [hr,Nat.add_zero] at h1;have h3:(n:Rat)=((n/m:Nat):Rat)*m:=by rw [←Rat.natCast_mul,h1]
  rw [h3];generalize ((n/m:Nat):Rat)=A;rw [Rat.mul_div_cancel (by grind)]
 ·have : decide (¬ n % m = 0) = true := by simp [hr]
  rw [this];simp only [Mag,if_true];rw [Rat.lt_div_iff hm,Rat.div_lt_iff hm,←Rat.natCast_mul];have e:((n/m:Nat):Rat)+1=((n/m+1:Nat):Rat):=by rw [Rat.natCast_add];rfl
  rw [e,←Rat.natCast_mul,nat_cast_lt,nat_cast_lt,Nat.add_mul,Nat.one_mul];omega
theorem quot_bl (a b p:Nat)(ha:a≠0)(hb:b≠0)(k:Nat)(hk:p+1+bl b≤bl a+k):p<bl (a*2^k/b):=by
 apply lt_bl
 rw [Nat.le_div_iff_mul_le (Nat.pos_of_ne_zero hb)];have h1:=two_bl_le a ha;have h2:=lt_two_bl b;have h3:2^p*b≤2^p*2^bl b:=Nat.mul_le_mul_left _ (by omega);have h4:2^(bl a-1)*2^k≤a*2^k:=Nat.mul_le_mul_right _ h1;rw [←Nat.pow_add] at h3 h4;refine Nat.le_trans h3 (Nat.le_trans (Nat.pow_le_pow_right (by decide) ?_) h4);have:=bl_pos a ha;omega
theorem sq_div (s t:Bool)(x:Rat)(m n:Nat)(hx:(m:Rat)=x*n):(if (s != t) then -x else x)*sq t n=sq s m:=by
 cases s<;>cases t<;>simp [sq,hx]<;>grind
theorem quotD_dir {a b:Dy}{p:Nat}{up:Bool}(hp:1≤p)(hb:b.m≠0)(hk:(quotD a b p up).k=0):IsDir up p (a.q/b.q) (quotD a b p up).v.q:=by
 unfold quotD at *;have hm:=nat_div_rat (a.m*2^quotK a b p) b.m hb;have h:=cutD_dir hm ?_ hp hk
 ·have e : (if (a.neg != b.neg) then -(((a.m * 2 ^ quotK a b p : Nat) : Rat) / b.m) else ((a.m * 2 ^ quotK a b p : Nat) : Rat) / b.m) * pw (a.e - b.e - quotK a b p) = a.q / b.q := by
   have hbq:b.q≠0:=by
    have:=q_pos hb b.e;unfold Dy.q sq;cases b.neg<;>simp<;>grind
   have hb0:=nat_pos hb;rw [Rat.div_def a.q];have key:(if (a.neg != b.neg) then -(((a.m*2^quotK a b p:Nat):Rat)/b.m) else ((a.m*2^quotK a b p:Nat):Rat)/b.m)*pw (a.e-b.e-quotK a b p)*b.q=a.q:=by
    unfold Dy.q;have h1:=sq_div a.neg b.neg (((a.m*2^quotK a b p:Nat):Rat)/b.m) (a.m*2^quotK a b p) b.m (by rw [Rat.div_mul_cancel (by grind)]);have h2:pw (a.e-b.e-quotK a b p)*pw b.e*pw (quotK a b p)=pw a.e:=by
     rw [←pw_add,←pw_add];congr 1;omega
    have h3:sq a.neg (a.m*2^quotK a b p)=sq a.neg a.m*pw (quotK a b p):=by
     rw [pw_nat];unfold sq;cases a.neg<;>simp [Rat.natCast_mul,Rat.neg_mul]
    rw [h3] at h1;generalize (if (a.neg != b.neg) then -(((a.m*2^quotK a b p:Nat):Rat)/b.m) else ((a.m*2^quotK a b p:Nat):Rat)/b.m)=A at *;generalize sq a.neg a.m=B at *;generalize sq b.neg b.m=C at *;have h4:=pw_pos (quotK a b p);have h5:=pw_ne (quotK a b p);generalize pw (a.e-b.e-quotK a b p)=D at *;generalize pw (quotK a b p)=E at *;generalize pw b.e=F at *;generalize pw a.e=G at *;have h6:A*D*(C*F)=B*(D*F*E):=by
     have:A*D*(C*F)=(A*C)*(D*F):=by grind
     rw [this,h1];grind
    rw [h6,h2]
   rw [←key,Rat.mul_assoc,Rat.mul_inv_cancel _ hbq,Rat.mul_one]
  rw [e] at h;exact h
 ·intro hr;have ha:a.m≠0:=by
   intro ha;rw [ha,Nat.zero_mul,Nat.zero_mod] at hr
   simp at hr
  exact quot_bl a.m b.m p ha hb (quotK a b p) (by unfold quotK;omega)
theorem quotD_ok (a b:Dy)(p:Nat)(up:Bool):(quotD a b p up).Ok:=fitD_ok _ _ _
end Go.Proofs.YtabjjdicffcolaaGreatDoor
namespace Go.Proofs.YtabjjdicffcolaaGreatDoor
def rootK0 (d:Dy) (p:Nat):Nat:=2*p+2-bl d.m
def rootK (d:Dy) (p:Nat):Nat:=if (d.e-rootK0 d p)%2=0 then rootK0 d p else rootK0 d p+1
def rootD (d:Dy) (p:Nat) (up:Bool):Outc Dy :=
 cutD false (isq (d.m*2^rootK d p)) ((d.e-rootK d p)/2) (decide (¬isq (d.m*2^rootK d p)*isq (d.m*2^rootK d p)=d.m*2^rootK d p)) p up
theorem rootD_ok (d:Dy)(p:Nat)(up:Bool):(rootD d p up).Ok:=fitD_ok _ _ _
theorem rootK_even (d:Dy)(p:Nat):(d.e-rootK d p)%2=0:=by
 unfold rootK
 by_cases h:(d.e-rootK0 d p)%2=0
 ·rw [if_pos h];exact h
 ·rw [if_neg h];omega
theorem rootK_le (d:Dy)(p:Nat):rootK0 d p≤rootK d p:=by
 unfold rootK;split<;>omega
structure IsRootDown (p:Nat) (x d:Rat):Prop where
 fits:Fits p d
 nonneg:0≤d
 le:d*d≤x
 best:∀ y,Fits p y→0≤y→y*y≤x→y≤d
structure IsRootUp (p:Nat) (x d:Rat):Prop where
 fits:Fits p d
 nonneg:0≤d
 le:x≤d*d
 best:∀ y,Fits p y→0≤y→x≤y*y→d≤y
def IsRootDir (up:Bool) (p:Nat) (x d:Rat):Prop:=if up then IsRootUp p x d else IsRootDown p x d
theorem sq_le {a b:Rat}(ha:0≤a)(h:a≤b):a*a≤b*b:=by
 have h1:=Rat.mul_le_mul_of_nonneg_left h ha;have h2:=Rat.mul_le_mul_of_nonneg_right h (by grind:0≤b)
 grind
theorem sq_lt {a b:Rat}(hb:0≤b)(h:a*a<b*b):a<b:=by
 by_cases hc:a<b
 ·exact hc
 ·have := sq_le hb (by grind : b ≤ a)
  grind
theorem lt_sq {a b:Rat}(ha:0≤a)(h:a<b):a*a<b*b:=by
 have h1:=sq_le ha (by grind:a≤b)
 by_cases hc:a*a<b*b
 ·exact hc
 ·exfalso
  have h2:a*a=b*b:=by grind
  have h3:=(Rat.mul_lt_mul_right (by grind:0<b)).2 h;have h4:=Rat.mul_le_mul_of_nonneg_left (by grind:a≤b) ha
  grind
theorem between (x y:Rat):∃ M,x<M∧M<x+1∧(y<x+1→y≤M):=by
 by_cases h:x<y∧y<x+1
 ·exact ⟨y,h.1,h.2,fun _=>Rat.le_refl⟩
 ·refine ⟨x + 1 / 2, by grind, by grind, fun hy => ?_⟩;have:¬x<y:=fun hx=>h ⟨hx,hy⟩
  grind
theorem between' (x y:Rat):∃ M,x<M∧M<x+1∧(x<y→M≤y):=by
 by_cases h:x<y∧y<x+1
 ·exact ⟨y,h.1,h.2,fun _=>Rat.le_refl⟩
 ·refine ⟨x + 1 / 2, by grind, by grind, fun hx => ?_⟩;have:¬y<x+1:=fun hy=>h ⟨hx,hy⟩
  grind
theorem nat_cast_nonneg (n:Nat):(0:Rat)≤n:=nat_cast_le.2 (Nat.zero_le n)
theorem root_mag_down {m x:Nat}{p:Nat}(h1:x*x≤m)(h2:m<(x+1)*(x+1))(h0:¬x*x=m→p<bl x)(hp:1≤p) :
 IsRootDown p m ((cutM x (decide (¬x*x=m)) p false:Rat)*pw ((bl x-p:Nat):Int)):=by
 have q1:((x:Rat))*x≤m:=by rw [←Rat.natCast_mul];exact nat_cast_le.2 h1
 have q2:(m:Rat)<(x+1)*(x+1):=by
  have:=nat_cast_lt.2 h2;rw [Rat.natCast_mul,Rat.natCast_add] at this;exact this
 have hx0:=nat_cast_nonneg x;have hnn:(0:Rat)≤(cutM x (decide (¬x*x=m)) p false:Rat)*pw ((bl x-p:Nat):Int):=Rat.mul_nonneg (nat_cast_nonneg _) (pw_nonneg _)
 by_cases he:x*x=m
 ·have hd : decide (¬ x * x = m) = false := by simp [he]
  rw [hd] at hnn ⊢;have k:=cutM_down (m:=x) (rest:=false) (p:=p) (M:=x) (by simp [Mag]) (by simp) hp;have q3:(m:Rat)=x*x:=by rw [←Rat.natCast_mul,he]
  rw [q3];exact ⟨k.fits,hnn,sq_le hnn k.le,fun y hy hy0 hyx=>k.best y hy (by
   by_cases hc:y≤x
   ·exact hc
   ·have:=lt_sq hx0 (by grind:(x:Rat)<y);grind)⟩
 ·have hd : decide (¬ x * x = m) = true := by simp [he]
  rw [hd] at hnn ⊢;have k:=fun M (a:(x:Rat)<M) (b:M<x+1)=>cutM_down (m:=x) (rest:=true) (p:=p) (M:=M) (by simp only [Mag,if_true];exact ⟨a,b⟩) (fun _=>h0 he) hp
  generalize (cutM x true p false:Rat)*pw ((bl x-p:Nat):Int)=d at *;have k1:=k (x+1/2) (by grind) (by grind);have hdx:d≤x:=by
   by_cases hc:d≤x
   ·exact hc
   ·exfalso
    have k2:=k (if d<x+1/2 then (x+d)/2 else x+1/4) (by split<;>grind) (by split<;>grind);have:=k2.le
    split at this<;>grind
  refine ⟨k1.fits,hnn,Rat.le_trans (sq_le hnn hdx) q1,fun y hy hy0 hyx=>?_⟩;obtain ⟨M,a,b,c⟩:=between x y;exact (k M a b).best y hy (c (sq_lt (by grind) (by grind)))
theorem root_mag_up {m x:Nat}{p:Nat}(h1:x*x≤m)(h2:m<(x+1)*(x+1))(h0:¬x*x=m→p<bl x)(hp:1≤p) :
 IsRootUp p m ((cutM x (decide (¬x*x=m)) p true:Rat)*pw ((bl x-p:Nat):Int)):=by
 have q1:((x:Rat))*x≤m:=by rw [←Rat.natCast_mul];exact nat_cast_le.2 h1
 have q2:(m:Rat)<(x+1)*(x+1):=by
  have:=nat_cast_lt.2 h2;rw [Rat.natCast_mul,Rat.natCast_add] at this;exact this
 have hx0:=nat_cast_nonneg x;have hnn:(0:Rat)≤(cutM x (decide (¬x*x=m)) p true:Rat)*pw ((bl x-p:Nat):Int):=Rat.mul_nonneg (nat_cast_nonneg _) (pw_nonneg _)
 by_cases he:x*x=m
 ·have hd : decide (¬ x * x = m) = false := by simp [he]
  rw [hd] at hnn ⊢;have k:=cutM_up (m:=x) (rest:=false) (p:=p) (M:=x) (by simp [Mag]) (by simp) hp;have q3:(m:Rat)=x*x:=by rw [←Rat.natCast_mul,he]
  rw [q3];exact ⟨k.fits,hnn,sq_le hx0 k.le,fun y hy hy0 hyx=>k.best y hy (by
   by_cases hc:(x:Rat)≤y
   ·exact hc
   ·have:=lt_sq hy0 (by grind:y<(x:Rat));grind)⟩
 ·have hd : decide (¬ x * x = m) = true := by simp [he]
  rw [hd] at hnn ⊢;have k:=fun M (a:(x:Rat)<M) (b:M<x+1)=>cutM_up (m:=x) (rest:=true) (p:=p) (M:=M) (by simp only [Mag,if_true];exact ⟨a,b⟩) (fun _=>h0 he) hp
  have q4:(x:Rat)*x<m:=by rw [←Rat.natCast_mul];exact nat_cast_lt.2 (by omega)
  generalize (cutM x true p true:Rat)*pw ((bl x-p:Nat):Int)=d at *;have k1:=k (x+1/2) (by grind) (by grind);have hdx:(x:Rat)+1≤d:=by
   by_cases hc:(x:Rat)+1≤d
   ·exact hc
   ·exfalso
    have k2:=k (if x+1/2<d then (x+1+d)/2 else x+3/4) (by split<;>grind) (by split<;>grind);have:=k2.le
    split at this<;>grind
  refine ⟨k1.fits,hnn,?_,fun y hy hy0 hyx=>?_⟩
  ·have := sq_le (by grind : (0 : Rat) ≤ x + 1) hdx
   grind
  ·obtain ⟨M, a, b, c⟩ := between' x y;exact (k M a b).best y hy (c (sq_lt hy0 (by grind)))
theorem root_bl (a p:Nat)(ha:a≠0)(k:Nat)(hk:2*p+2≤bl a+k):p<bl (isq (a*2^k)):=by
 apply lt_bl
 have h1:=two_bl_le a ha;have h4:2^(bl a-1)*2^k≤a*2^k:=Nat.mul_le_mul_right _ h1;rw [←Nat.pow_add] at h4;have h5:2^(2*p)≤a*2^k:=Nat.le_trans (Nat.pow_le_pow_right (by decide) (by have:=bl_pos a ha;omega)) h4;have h6:2^(2*p)=2^p*2^p:=by rw [←Nat.pow_add];congr 1;omega
 have h7:=(isq_spec (a*2^k)).2;have h8:=sq_lt_sq (a:=2^p) (b:=isq (a*2^k)+1) (by omega);omega
theorem rootD_dir {d:Dy}{p:Nat}{up:Bool}(hp:1≤p)(hn:d.neg=false)(hk:(rootD d p up).k=0):IsRootDir up p d.q (rootD d p up).v.q:=by
 unfold rootD cutD at *;rw [fitD_q hk];have hev:=rootK_even d p;have hle:=rootK_le d p;have hk0:2*p+2≤bl d.m+rootK0 d p:=by unfold rootK0;omega
 clear hk;generalize rootK d p=k at *;obtain ⟨s1,s2⟩:=isq_spec (d.m*2^k);have h0:¬isq (d.m*2^k)*isq (d.m*2^k)=d.m*2^k→p<bl (isq (d.m*2^k)):=by
  intro hne;have ha:d.m≠0:=by
   intro ha;rw [ha,Nat.zero_mul] at hne;exact hne rfl
  exact root_bl d.m p ha k (by omega)
 generalize isq (d.m*2^k)=x at *;have hq:d.q=((d.m*2^k:Nat):Rat)*(pw ((d.e-k)/2)*pw ((d.e-k)/2)):=by
  unfold Dy.q;rw [hn,←pw_add];have:(d.e-k)/2+(d.e-k)/2=d.e-k:=by omega
  rw [this,Rat.natCast_mul,←pw_nat,Rat.mul_assoc,←pw_add];simp only [sq,Bool.false_eq_true,if_false]
  congr 2;omega
 have hup:(up != false)=up:=by cases up<;>rfl
 rw [hq,hup];generalize (d.e-k)/2=h at *;have hh:=pw_pos h;have hh2:=Rat.mul_pos hh hh;have hc:=pw_neg h;have e0:sq false (cutM x (decide (¬x*x=d.m*2^k)) p up)*pw (h+((bl x-p:Nat):Int))=((cutM x (decide (¬x*x=d.m*2^k)) p up:Rat)*pw ((bl x-p:Nat):Int))*pw h:=by
  simp only [sq,Bool.false_eq_true,if_false];rw [pw_add,Rat.mul_comm (pw h),Rat.mul_assoc]
 rw [e0];have ypos:∀ y:Rat,0≤y→0≤y*pw (-h):=fun y hy=>Rat.mul_nonneg hy (pw_nonneg _)
 have yy:∀ y:Rat,(y*pw (-h))*(y*pw (-h))*(pw h*pw h)=y*y:=by
  intro y;have:(y*pw (-h))*(y*pw (-h))*(pw h*pw h)=(y*y)*((pw h*pw (-h))*(pw h*pw (-h))):=by grind
  rw [this,hc];grind
 unfold IsRootDir;cases up
 ·simp only [Bool.false_eq_true, if_false];have k1:=root_mag_down s1 s2 h0 hp;generalize (cutM x (decide (¬x*x=d.m*2^k)) p false:Rat)*pw ((bl x-p:Nat):Int)=r at *;refine ⟨k1.fits.pw h,Rat.mul_nonneg k1.nonneg (pw_nonneg h),?_,fun y hy hy0 hyx=>?_⟩
  ·have := Rat.mul_le_mul_of_nonneg_right k1.le (Rat.le_of_lt hh2)
   grind
  ·have := k1.best (y * pw (-h)) (hy.pw (-h)) (ypos y hy0) (by
    apply Rat.le_of_mul_le_mul_right _ hh2
    rw [yy];exact hyx)
   rw [←mul_pw_le h,pw_cancel] at this;exact this
 ·simp only [if_true];have k1:=root_mag_up s1 s2 h0 hp;generalize (cutM x (decide (¬x*x=d.m*2^k)) p true:Rat)*pw ((bl x-p:Nat):Int)=r at *;refine ⟨k1.fits.pw h,Rat.mul_nonneg k1.nonneg (pw_nonneg h),?_,fun y hy hy0 hyx=>?_⟩
  ·have := Rat.mul_le_mul_of_nonneg_right k1.le (Rat.le_of_lt hh2)
   grind
  ·have := k1.best (y * pw (-h)) (hy.pw (-h)) (ypos y hy0) (by
    apply Rat.le_of_mul_le_mul_right _ hh2
    rw [yy];exact hyx)
   rw [←mul_pw_le h,pw_cancel] at this;exact this
end Go.Proofs.YtabjjdicffcolaaGreatDoor
namespace Go.Proofs.YtabjjdicffcolaaGreatDoor
def sizeD (a b:Dy):Int :=
 if (bl a.m:Int)+a.e<bl b.m+b.e then -1 else if (bl b.m:Int)+b.e<bl a.m+a.e then 1
 else cmpN (a.m*2^(a.e-min a.e b.e).toNat) (b.m*2^(b.e-min a.e b.e).toNat)
theorem mag_bl {m:Nat}(h:m≠0)(e:Int):pw (bl m+e-1)≤(m:Rat)*pw e∧(m:Rat)*pw e<pw (bl m+e):=by
 have h1:=two_bl_le m h;have h2:=lt_two_bl m;have h3:=bl_pos m h;constructor
 ·have e1 : pw (bl m + e - 1) = ((2 ^ (bl m - 1) : Nat) : Rat) * pw e := by
   rw [←pw_nat,←pw_add];congr 1;omega
  rw [e1,mul_pw_le,nat_cast_le];exact h1
 ·have e1 : pw (bl m + e) = ((2 ^ bl m : Nat) : Rat) * pw e := by
   rw [←pw_nat,←pw_add]
  rw [e1,mul_pw_lt,nat_cast_lt];exact h2
theorem cmpQ_of_lt {x y:Rat}(h:x<y):cmpQ x y=-1:=by unfold cmpQ;rw [if_pos h]
theorem cmpQ_of_gt {x y:Rat}(h:y<x):cmpQ x y=1:=by unfold cmpQ;rw [if_neg (by grind),if_neg (by grind)]
theorem sizeD_q {a b:Dy}(ha:a.m≠0)(hb:b.m≠0):sizeD a b=cmpQ ((a.m:Rat)*pw a.e) ((b.m:Rat)*pw b.e):=by
 obtain ⟨a1,a2⟩:=mag_bl ha a.e;obtain ⟨b1,b2⟩:=mag_bl hb b.e;unfold sizeD
 by_cases h1:(bl a.m:Int)+a.e<bl b.m+b.e
 ·rw [if_pos h1, cmpQ_of_lt];have:=pw_mono (show (bl a.m:Int)+a.e≤bl b.m+b.e-1 by omega)
  grind
 ·rw [if_neg h1]
  by_cases h2:(bl b.m:Int)+b.e<bl a.m+a.e
  ·rw [if_pos h2, cmpQ_of_gt];have:=pw_mono (show (bl b.m:Int)+b.e≤bl a.m+a.e-1 by omega)
   grind
  ·rw [if_neg h2];exact (cmpQ_mag a.m b.m (Int.min_le_left _ _) (Int.min_le_right _ _)).symm
def sg (d:Dy):Int:=if d.m=0 then 0 else if d.neg then -1 else 1
theorem sg_pos {d:Dy}(h:sg d=1):0<d.q∧d.q=(d.m:Rat)*pw d.e∧d.m≠0:=by
 unfold sg at h
 by_cases h0:d.m=0
 ·rw [if_pos h0] at h;exact absurd h (by decide)
 ·rw [if_neg h0] at h;unfold Dy.q sq;cases hn:d.neg
  ·simp only [Bool.false_eq_true,if_false];exact ⟨q_pos h0 _,trivial,h0⟩
  ·rw [hn] at h;exact absurd h (by decide)
theorem sg_neg {d:Dy}(h:sg d=-1):d.q<0∧d.q=-((d.m:Rat)*pw d.e)∧d.m≠0:=by
 unfold sg at h
 by_cases h0:d.m=0
 ·rw [if_pos h0] at h;exact absurd h (by decide)
 ·rw [if_neg h0] at h;unfold Dy.q sq;cases hn:d.neg
  ·rw [hn] at h;exact absurd h (by decide)
  ·simp only [if_true, Rat.neg_mul];have:=q_pos h0 d.e;exact ⟨by grind,trivial,h0⟩
theorem sg_zero {d:Dy}(h:sg d=0):d.q=0:=by
 unfold sg at h
 by_cases h0:d.m=0
 ·exact zero_q h0
 ·rw [if_neg h0] at h;split at h<;>exact absurd h (by decide)
theorem sg_cases (d:Dy):sg d=-1∨sg d=0∨sg d=1:=by
 unfold sg;split
 ·exact .inr (.inl rfl)
 ·split
  ·exact .inl rfl
  ·exact .inr (.inr rfl)
theorem sg_q (d:Dy):sg d=cmpQ d.q 0:=by
 rcases sg_cases d with h | h | h
 ·rw [h,cmpQ_of_lt (sg_neg h).1]
 ·rw [h,sg_zero h,cmpQ_self]
 ·rw [h,cmpQ_of_gt (sg_pos h).1]
theorem cmp_lt {a b:Dy}(h:sg a<sg b):cmpQ a.q b.q=-1:=by
 apply cmpQ_of_lt
 rw [sg_q,sg_q] at h;have h1:=@cmpQ_lt a.q 0;have h2:=@cmpQ_gt b.q 0;have h3:=@cmpQ_le a.q 0;have h4:=@cmpQ_ge b.q 0
 rcases sg_cases a with ha | ha | ha<;>rcases sg_cases b with hb | hb | hb<;>rw [sg_q] at ha hb<;>rw [ha,hb] at h<;>first | (exact absurd h (by decide)) | skip
 all_goals (rw [ha] at h1 h3;rw [hb] at h2 h4;simp at h1 h2 h3 h4;grind)
theorem cmp_gt {a b:Dy}(h:sg b<sg a):cmpQ a.q b.q=1:=by
 have h1:=cmp_lt h;have h2:=cmpQ_neg b.q a.q;have h3:=@cmpQ_lt b.q a.q;rw [h1] at h3;exact cmpQ_of_gt (h3.1 (by decide))
theorem cmp_same {a b:Dy}(h:sg a=sg b):cmpQ a.q b.q=if sg a=0 then 0 else sg a*sizeD a b:=by
 rcases sg_cases a with ha | ha | ha
 ·rw [ha, if_neg (by decide)];obtain ⟨_,a1,a2⟩:=sg_neg ha;obtain ⟨_,b1,b2⟩:=sg_neg (h▸ha);rw [a1,b1,cmpQ_neg,sizeD_q a2 b2];omega
 ·rw [ha,if_pos rfl,sg_zero ha,sg_zero (h▸ha),cmpQ_self]
 ·rw [ha, if_neg (by decide)];obtain ⟨_,a1,a2⟩:=sg_pos ha;obtain ⟨_,b1,b2⟩:=sg_pos (h▸ha);rw [a1,b1,sizeD_q a2 b2];omega
structure Iv where
 lo:Dy
 hi:Dy
def iz:Iv:=⟨dz,dz⟩
structure RawI where
 lo:Raw
 hi:Raw
def Iv.raw (a:Iv):RawI:=⟨a.lo.raw,a.hi.raw⟩
structure Iv.Ok (a:Iv):Prop where
 lo:a.lo.Ok
 hi:a.hi.Ok
 le:a.lo.q≤a.hi.q
def mayI (a:RawI):Bool:=mayD a.lo&&mayD a.hi&&decide (cmpQ a.lo.dy.q a.hi.dy.q≤0)
theorem mayI_raw {a:Iv}(h:a.Ok):mayI a.raw=true:=by
 unfold mayI Iv.raw;simp only [h.lo.may,h.hi.may,Dy.raw_dy,Bool.true_and,decide_eq_true_eq];exact cmpQ_le.2 h.le
def Outc.bind {α β:Type} (o:Outc α) (z:β) (f:α→Outc β):Outc β:=if o.k=0 then f o.v else ⟨z,o.k⟩
theorem Outc.bind_ok {α β:Type}{o:Outc α}{z:β}{f:α→Outc β}(h:(o.bind z f).k=0):o.k=0∧o.bind z f=f o.v:=by
 unfold Outc.bind at *
 by_cases hk:o.k=0
 ·rw [if_pos hk] at h ⊢;exact ⟨hk,rfl⟩
 ·rw [if_neg hk] at h;exact absurd h hk
theorem Outc.bind_of {α β:Type}{o:Outc α}(z:β)(f:α→Outc β)(h:o.k=0):o.bind z f=f o.v:=by unfold Outc.bind;rw [if_pos h]
def ends (lo hi:Outc Dy):Outc Iv:=lo.bind iz fun l=>hi.bind iz fun h=>⟨⟨l,h⟩,0⟩
theorem ends_ok {lo hi:Outc Dy}(h:(ends lo hi).k=0):lo.k=0∧hi.k=0∧(ends lo hi).v=⟨lo.v,hi.v⟩:=by
 unfold ends at *;obtain ⟨h1,h2⟩:=Outc.bind_ok h;rw [h2] at h ⊢;obtain ⟨h3,h4⟩:=Outc.bind_ok h;rw [h4];exact ⟨h1,h3,rfl⟩
def rndD (o:Outc Dy) (p:Nat) (up:Bool):Outc Dy:=o.bind dz fun d=>dirD d p up
def addI (a b:Iv) (p:Nat):Outc Iv:=ends (rndD (sumD a.lo b.lo) p false) (rndD (sumD a.hi b.hi) p true)
def subI (a b:Iv) (p:Nat):Outc Iv:=ends (rndD (sumD a.lo (negD b.hi)) p false) (rndD (sumD a.hi (negD b.lo)) p true)
def negI (a:Iv) (p:Nat):Outc Iv:=ends (dirD (negD a.hi) p false) (dirD (negD a.lo) p true)
def leastD (d:Dy):List Dy→Dy
 | []=>d
 | x::l=>leastD (if cmpQ x.q d.q<0 then x else d) l
def greatestD (d:Dy):List Dy→Dy
 | []=>d
 | x::l=>greatestD (if 0<cmpQ x.q d.q then x else d) l
def four (a b c d:Outc Dy) (f:Dy→Dy→Dy→Dy→Outc Iv):Outc Iv :=
 a.bind iz fun x=>b.bind iz fun y=>c.bind iz fun z=>d.bind iz fun u=>f x y z u
def mulI (a b:Iv) (p:Nat):Outc Iv :=
 four (mulD a.lo b.lo) (mulD a.lo b.hi) (mulD a.hi b.lo) (mulD a.hi b.hi) fun x y z u =>
  ends (dirD (leastD x [x,y,z,u]) p false) (dirD (greatestD x [x,y,z,u]) p true)
def hasZero (b:Iv):Bool:=decide (cmpQ b.lo.q 0≤0)&&decide (cmpQ 0 b.hi.q≤0)
def divI (a b:Iv) (p:Nat):Outc Iv :=
 if hasZero b then ⟨iz,4⟩ else
 four (quotD a.lo b.lo p false) (quotD a.lo b.hi p false) (quotD a.hi b.lo p false) (quotD a.hi b.hi p false) fun x y z u =>
 four (quotD a.lo b.lo p true) (quotD a.lo b.hi p true) (quotD a.hi b.lo p true) (quotD a.hi b.hi p true) fun x' y' z' u' =>
  ⟨⟨leastD x [x,y,z,u],greatestD x' [x',y',z',u']⟩,0⟩
def sqrI (a:Iv) (p:Nat):Outc Iv :=
 (mulD a.lo a.lo).bind iz fun x=>(mulD a.hi a.hi).bind iz fun y =>
   ends (dirD (if hasZero a then dz else leastD x [x,y]) p false) (dirD (greatestD x [x,y]) p true)
def sqrtI (a:Iv) (p:Nat):Outc Iv :=
 if sg a.lo<0 then ⟨iz,4⟩ else ends (rootD a.lo p false) (rootD a.hi p true)
end Go.Proofs.YtabjjdicffcolaaGreatDoor
namespace Go.Proofs.YtabjjdicffcolaaGreatDoor
theorem mul_mono_l {a b c:Rat}(h:a≤b)(hc:0≤c):c*a≤c*b:=Rat.mul_le_mul_of_nonneg_left h hc
theorem bilin {u a b v c d L:Rat}(hu:a≤u)(hu':u≤b)(hv:c≤v)(hv':v≤d)(h1:L≤a*c)(h2:L≤a*d)(h3:L≤b*c)(h4:L≤b*d):L≤u*v:=by
 have key:∀ x,L≤x*c→L≤x*d→L≤x*v:=by
  intro x hc hd
  by_cases hx:0≤x
  ·have:=mul_mono_l hv hx;grind
  ·have:=mul_mono_l hv' (show 0≤-x by grind);grind
 have ka:=key a h1 h2;have kb:=key b h3 h4
 by_cases hv0:0≤v
 ·have:=Rat.mul_le_mul_of_nonneg_right hu hv0;grind
 ·have:=Rat.mul_le_mul_of_nonneg_right hu' (show 0≤-v by grind);grind
theorem bilin' {u a b v c d L:Rat}(hu:a≤u)(hu':u≤b)(hv:c≤v)(hv':v≤d)(h1:a*c≤L)(h2:a*d≤L)(h3:b*c≤L)(h4:b*d≤L):u*v≤L:=by
 have:=bilin (u:=-u) (a:=-b) (b:=-a) (v:=v) (c:=c) (d:=d) (L:=-L) (by grind) (by grind) hv hv' (by grind) (by grind) (by grind) (by grind)
 grind
theorem leastD_le (l:List Dy):∀ d:Dy,(leastD d l).q≤d.q∧∀ x∈l,(leastD d l).q≤x.q:=by
 induction l with
 | nil=>intro d;exact ⟨Rat.le_refl,fun x hx=>by cases hx⟩
 | cons y l ih =>
   intro d;unfold leastD;obtain ⟨h1,h2⟩:=ih (if cmpQ y.q d.q<0 then y else d);have hc:=@cmpQ_lt y.q d.q;have h3:(if cmpQ y.q d.q<0 then y else d).q≤d.q∧(if cmpQ y.q d.q<0 then y else d).q≤y.q:=by
    by_cases h:cmpQ y.q d.q<0
    ·rw [if_pos h];have:=hc.1 h;constructor<;>grind
    ·rw [if_neg h];have:¬y.q<d.q:=fun hh=>h (hc.2 hh);constructor<;>grind
   refine ⟨by grind,fun x hx=>?_⟩
   rcases List.mem_cons.1 hx with rfl | hx
   ·grind
   ·exact h2 x hx
theorem leastD_mem (l:List Dy):∀ d:Dy,leastD d l=d∨leastD d l∈l:=by
 induction l with
 | nil=>intro d;exact .inl rfl
 | cons y l ih =>
   intro d;unfold leastD
   rcases ih (if cmpQ y.q d.q<0 then y else d) with h | h
   ·rw [h]
    split
    ·exact .inr (List.mem_cons_self ..)
    ·exact .inl rfl
   ·exact .inr (List.mem_cons_of_mem _ h)
theorem greatestD_ge (l:List Dy):∀ d:Dy,d.q≤(greatestD d l).q∧∀ x∈l,x.q≤(greatestD d l).q:=by
 induction l with
 | nil=>intro d;exact ⟨Rat.le_refl,fun x hx=>by cases hx⟩
 | cons y l ih =>
   intro d;unfold greatestD;obtain ⟨h1,h2⟩:=ih (if 0<cmpQ y.q d.q then y else d);have hc:=@cmpQ_gt y.q d.q;have h3:d.q≤(if 0<cmpQ y.q d.q then y else d).q∧y.q≤(if 0<cmpQ y.q d.q then y else d).q:=by
    by_cases h:0<cmpQ y.q d.q
    ·rw [if_pos h];have:=hc.1 h;constructor<;>grind
    ·rw [if_neg h];have:¬d.q<y.q:=fun hh=>h (hc.2 hh);constructor<;>grind
   refine ⟨by grind,fun x hx=>?_⟩
   rcases List.mem_cons.1 hx with rfl | hx
   ·grind
   ·exact h2 x hx
theorem greatestD_mem (l:List Dy):∀ d:Dy,greatestD d l=d∨greatestD d l∈l:=by
 induction l with
 | nil=>intro d;exact .inl rfl
 | cons y l ih =>
   intro d;unfold greatestD
   rcases ih (if 0<cmpQ y.q d.q then y else d) with h | h
   ·rw [h]
    split
    ·exact .inr (List.mem_cons_self ..)
    ·exact .inl rfl
   ·exact .inr (List.mem_cons_of_mem _ h)
theorem leastD_ok {d:Dy}{l:List Dy}(hd:d.Ok)(hl:∀ x∈l,Dy.Ok x):(leastD d l).Ok:=by
 rcases leastD_mem l d with h | h
 ·rw [h];exact hd
 ·exact hl _ h
theorem greatestD_ok {d:Dy}{l:List Dy}(hd:d.Ok)(hl:∀ x∈l,Dy.Ok x):(greatestD d l).Ok:=by
 rcases greatestD_mem l d with h | h
 ·rw [h];exact hd
 ·exact hl _ h
theorem least4 {x y z u:Dy}:(leastD x [x,y,z,u]).q≤x.q∧(leastD x [x,y,z,u]).q≤y.q∧(leastD x [x,y,z,u]).q≤z.q∧(leastD x [x,y,z,u]).q≤u.q:=by
 obtain ⟨a,b⟩:=leastD_le [x,y,z,u] x;exact ⟨a,b y (by simp),b z (by simp),b u (by simp)⟩
theorem greatest4 {x y z u:Dy}:x.q≤(greatestD x [x,y,z,u]).q∧y.q≤(greatestD x [x,y,z,u]).q∧z.q≤(greatestD x [x,y,z,u]).q∧u.q≤(greatestD x [x,y,z,u]).q:=by
 obtain ⟨a,b⟩:=greatestD_ge [x,y,z,u] x;exact ⟨a,b y (by simp),b z (by simp),b u (by simp)⟩
theorem least2 {x y:Dy}:(leastD x [x,y]).q≤x.q∧(leastD x [x,y]).q≤y.q:=by
 obtain ⟨a,b⟩:=leastD_le [x,y] x;exact ⟨a,b y (by simp)⟩
theorem greatest2 {x y:Dy}:x.q≤(greatestD x [x,y]).q∧y.q≤(greatestD x [x,y]).q:=by
 obtain ⟨a,b⟩:=greatestD_ge [x,y] x;exact ⟨a,b y (by simp)⟩
theorem least4_mem {x y z u:Dy}:leastD x [x,y,z,u]=x∨leastD x [x,y,z,u]=y∨leastD x [x,y,z,u]=z∨leastD x [x,y,z,u]=u:=by
 rcases leastD_mem [x,y,z,u] x with h | h
 ·exact .inl h
 ·simpa using h
theorem greatest4_mem {x y z u:Dy}:greatestD x [x,y,z,u]=x∨greatestD x [x,y,z,u]=y∨greatestD x [x,y,z,u]=z∨greatestD x [x,y,z,u]=u:=by
 rcases greatestD_mem [x,y,z,u] x with h | h
 ·exact .inl h
 ·simpa using h
theorem least2_mem {x y:Dy}:leastD x [x,y]=x∨leastD x [x,y]=y:=by
 rcases leastD_mem [x,y] x with h | h
 ·exact .inl h
 ·simpa using h
theorem greatest2_mem {x y:Dy}:greatestD x [x,y]=x∨greatestD x [x,y]=y:=by
 rcases greatestD_mem [x,y] x with h | h
 ·exact .inl h
 ·simpa using h
theorem dirD_down {d:Dy}{p:Nat}(hp:1≤p)(hk:(dirD d p false).k=0):IsDown p d.q (dirD d p false).v.q:=dirD_dir hp hk
theorem dirD_up {d:Dy}{p:Nat}(hp:1≤p)(hk:(dirD d p true).k=0):IsUp p d.q (dirD d p true).v.q:=dirD_dir hp hk
theorem rndD_ok' {o:Outc Dy}{p:Nat}{up:Bool}(hk:(rndD o p up).k=0):o.k=0∧rndD o p up=dirD o.v p up:=Outc.bind_ok hk
theorem addI_spec {a b:Iv}{p:Nat}(hp:1≤p)(hk:(addI a b p).k=0) :
 IsDown p (a.lo.q+b.lo.q) (addI a b p).v.lo.q∧IsUp p (a.hi.q+b.hi.q) (addI a b p).v.hi.q:=by
 unfold addI at *;obtain ⟨h1,h2,h3⟩:=ends_ok hk;obtain ⟨h4,h5⟩:=rndD_ok' h1;obtain ⟨h6,h7⟩:=rndD_ok' h2;rw [h3];simp only;rw [h5] at h1 ⊢;rw [h7] at h2 ⊢;rw [←sumD_q h4,←sumD_q h6];exact ⟨dirD_down hp h1,dirD_up hp h2⟩
theorem four_ok {a b c d:Outc Dy}{f:Dy→Dy→Dy→Dy→Outc Iv}(hk:(four a b c d f).k=0) :
 a.k=0∧b.k=0∧c.k=0∧d.k=0∧four a b c d f=f a.v b.v c.v d.v:=by
 unfold four at *;obtain ⟨h1,e1⟩:=Outc.bind_ok hk;rw [e1] at hk ⊢;obtain ⟨h2,e2⟩:=Outc.bind_ok hk;rw [e2] at hk ⊢;obtain ⟨h3,e3⟩:=Outc.bind_ok hk;rw [e3] at hk ⊢;obtain ⟨h4,e4⟩:=Outc.bind_ok hk;rw [e4];exact ⟨h1,h2,h3,h4,rfl⟩
theorem mulI_spec {a b:Iv}{p:Nat}(hp:1≤p)(hk:(mulI a b p).k=0) :
 ∃ L H : Rat, IsDown p L (mulI a b p).v.lo.q ∧ IsUp p H (mulI a b p).v.hi.q ∧
   (L≤a.lo.q*b.lo.q∧L≤a.lo.q*b.hi.q∧L≤a.hi.q*b.lo.q∧L≤a.hi.q*b.hi.q) ∧
   (a.lo.q*b.lo.q≤H∧a.lo.q*b.hi.q≤H∧a.hi.q*b.lo.q≤H∧a.hi.q*b.hi.q≤H) ∧
   (L=a.lo.q*b.lo.q∨L=a.lo.q*b.hi.q∨L=a.hi.q*b.lo.q∨L=a.hi.q*b.hi.q) ∧
   (H=a.lo.q*b.lo.q∨H=a.lo.q*b.hi.q∨H=a.hi.q*b.lo.q∨H=a.hi.q*b.hi.q):=by
 unfold mulI at *;obtain ⟨k1,k2,k3,k4,e⟩:=four_ok hk;rw [e] at hk ⊢;obtain ⟨h1,h2,h3⟩:=ends_ok hk;rw [h3];simp only;rw [←mulD_q k1,←mulD_q k2,←mulD_q k3,←mulD_q k4];refine ⟨_,_,dirD_down hp h1,dirD_up hp h2,least4,greatest4,?_,?_⟩
 ·rcases least4_mem (x:=(mulD a.lo b.lo).v) (y:=(mulD a.lo b.hi).v) (z:=(mulD a.hi b.lo).v) (u:=(mulD a.hi b.hi).v) with h | h | h | h<;>rw [h]<;>simp
 ·rcases greatest4_mem (x:=(mulD a.lo b.lo).v) (y:=(mulD a.lo b.hi).v) (z:=(mulD a.hi b.lo).v) (u:=(mulD a.hi b.hi).v) with h | h | h | h<;>rw [h]<;>simp
theorem hasZero_iff (b:Iv):hasZero b=true↔b.lo.q≤0∧0≤b.hi.q:=by
 unfold hasZero;simp only [Bool.and_eq_true,decide_eq_true_eq];rw [cmpQ_le,cmpQ_le]
theorem sqrI_spec {a:Iv}{p:Nat}(hp:1≤p)(hk:(sqrI a p).k=0) :
 ∃ L H : Rat, IsDown p L (sqrI a p).v.lo.q ∧ IsUp p H (sqrI a p).v.hi.q ∧
   L≤a.lo.q*a.lo.q∧L≤a.hi.q*a.hi.q∧a.lo.q*a.lo.q≤H∧a.hi.q*a.hi.q≤H∧0≤L ∧
   (H=a.lo.q*a.lo.q∨H=a.hi.q*a.hi.q)∧((L=0∧a.lo.q≤0∧0≤a.hi.q)∨(¬(a.lo.q≤0∧0≤a.hi.q)∧(L=a.lo.q*a.lo.q∨L=a.hi.q*a.hi.q))):=by
 have sqn:∀ x:Rat,0≤x*x:=fun x=>by
  by_cases h:0≤x
  ·exact Rat.mul_nonneg h h
  ·have:=Rat.mul_nonneg (show 0≤-x by grind) (show 0≤-x by grind);grind
 unfold sqrI at *;obtain ⟨k1,e1⟩:=Outc.bind_ok hk;rw [e1] at hk ⊢;obtain ⟨k2,e2⟩:=Outc.bind_ok hk;rw [e2] at hk ⊢;obtain ⟨h1,h2,h3⟩:=ends_ok hk;rw [h3];simp only;have hg:=greatest2 (x:=(mulD a.lo a.lo).v) (y:=(mulD a.hi a.hi).v);have hl:=least2 (x:=(mulD a.lo a.lo).v) (y:=(mulD a.hi a.hi).v);have q1:=mulD_q k1;have q2:=mulD_q k2;have s1:=sqn a.lo.q;have s2:=sqn a.hi.q;refine ⟨_,_,dirD_down hp h1,dirD_up hp h2,?_⟩;rw [←q1,←q2] at *;have hH:((greatestD (mulD a.lo a.lo).v [(mulD a.lo a.lo).v,(mulD a.hi a.hi).v]).q=(mulD a.lo a.lo).v.q∨(greatestD (mulD a.lo a.lo).v [(mulD a.lo a.lo).v,(mulD a.hi a.hi).v]).q=(mulD a.hi a.hi).v.q):=by
  rcases greatest2_mem (x:=(mulD a.lo a.lo).v) (y:=(mulD a.hi a.hi).v) with h | h<;>rw [h]<;>simp
 have hL:((leastD (mulD a.lo a.lo).v [(mulD a.lo a.lo).v,(mulD a.hi a.hi).v]).q=(mulD a.lo a.lo).v.q∨(leastD (mulD a.lo a.lo).v [(mulD a.lo a.lo).v,(mulD a.hi a.hi).v]).q=(mulD a.hi a.hi).v.q):=by
  rcases least2_mem (x:=(mulD a.lo a.lo).v) (y:=(mulD a.hi a.hi).v) with h | h<;>rw [h]<;>simp
 by_cases hz:hasZero a=true
 ·have hz' := (hasZero_iff a).1 hz;rw [if_pos hz,dz_q];exact ⟨s1,s2,hg.1,hg.2,Rat.le_refl,hH,.inl ⟨rfl,hz'.1,hz'.2⟩⟩
 ·rw [if_neg hz];have hz':¬(a.lo.q≤0∧0≤a.hi.q):=fun h=>hz ((hasZero_iff a).2 h)
  refine ⟨hl.1,hl.2,hg.1,hg.2,?_,hH,.inr ⟨hz',hL⟩⟩
  rcases hL with h | h<;>rw [h]<;>assumption
theorem sqr_bounds {a:Iv}{L H u:Rat}(hu:a.lo.q≤u)(hu':u≤a.hi.q)(l1:L≤a.lo.q*a.lo.q)(l2:L≤a.hi.q*a.hi.q)(g1:a.lo.q*a.lo.q≤H)(g2:a.hi.q*a.hi.q≤H)
 (hL:(L=0∧a.lo.q≤0∧0≤a.hi.q)∨(¬(a.lo.q≤0∧0≤a.hi.q)∧(L=a.lo.q*a.lo.q∨L=a.hi.q*a.hi.q))):L≤u*u∧u*u≤H:=by
 have sqn:∀ x:Rat,0≤x*x:=fun x=>by
  by_cases h:0≤x
  ·exact Rat.mul_nonneg h h
  ·have:=Rat.mul_nonneg (show 0≤-x by grind) (show 0≤-x by grind);grind
 constructor
 ·rcases hL with ⟨rfl, _⟩ | ⟨hz, _⟩
  ·exact sqn u
  ·by_cases h : 0 ≤ a.lo.q
   ·have:=sq_le h hu;grind
   ·have h2 : a.hi.q < 0 := by
     by_cases h3:a.hi.q<0
     ·exact h3
     ·exact absurd ⟨by grind,by grind⟩ hz
    have:=sq_le (show 0≤-a.hi.q by grind) (show -a.hi.q≤-u by grind)
    grind
 ·by_cases h : 0 ≤ u
  ·have:=sq_le h hu';grind
  ·have:=sq_le (show 0≤-u by grind) (show -u≤-a.lo.q by grind);grind
end Go.Proofs.YtabjjdicffcolaaGreatDoor
