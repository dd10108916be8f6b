/- Words and contracts, part 12. -/
import Derived.Test.YtabjjdicffcolaaGreatDoorClaimSevalp07
set_option maxRecDepth 100000
set_option maxHeartbeats 0
namespace Go.Proofs.YtabjjdicffcolaaGreatDoor
def Pq (n:Nat):Nat→Nat→Nat
 | 0,x=>x
 | f+1,x=>if x≤(x+n/x)/2 then x else Pq n f ((x+n/x)/2)
def isq (n:Nat):Nat:=if n=0 then 0 else Pq n (2^((bl n+1)/2)) (2^((bl n+1)/2))
theorem Ae1 {a b:Nat}(h:a*a<b*b):a<b:=by
 by_cases hab:a<b
 ·exact hab
 ·have:=Nat.mul_le_mul (show b≤a by omega) (show b≤a by omega);omega
theorem R5 (n x:Nat)(hx:0<x):n<((x+n/x)/2+1)*((x+n/x)/2+1):=by
 have a:=Nat.lt_mul_div_succ n hx;generalize n/x=q at *;generalize hy:(x+q)/2=y at *;have b:x+q+1≤2*(y+1):=by omega
 -- n < x (q + 1), and 4 x (q + 1) ≤ (x + q + 1)^2
 have c:4*(x*(q+1))≤(x+(q+1))*(x+(q+1)):=by
  rcases Nat.le_total x (q+1) with h | h
  ·obtain ⟨d,hd⟩:∃ d,q+1=x+d:=⟨q+1-x,by omega⟩;rw [hd];have e:(x+(x+d))*(x+(x+d))=4*(x*(x+d))+d*d:=by grind
   omega
  ·obtain ⟨d,hd⟩:∃ d,x=(q+1)+d:=⟨x-(q+1),by omega⟩;rw [hd];have e:(q+1+d+(q+1))*(q+1+d+(q+1))=4*((q+1+d)*(q+1))+d*d:=by grind
   omega
 have d:(x+(q+1))*(x+(q+1))≤(2*(y+1))*(2*(y+1)):=Nat.mul_le_mul (by omega) (by omega);have e:(2*(y+1))*(2*(y+1))=4*((y+1)*(y+1)):=by grind
 omega
theorem Ab9 (n x:Nat)(hx:0<x)(h:x≤(x+n/x)/2):x*x≤n:=by
 have:x≤n/x:=by omega
 rwa [Nat.le_div_iff_mul_le hx] at this
theorem Xe (n x:Nat)(hx:0<x)(hn:0<n):0<(x+n/x)/2:=by
 have:=R5 n x hx;by_cases h:(x+n/x)/2=0
 ·rw [h] at this;omega
 ·exact Nat.pos_of_ne_zero h
theorem S8 (n:Nat)(hn:0<n):∀ f x,0<x→x≤f→n<(x+1)*(x+1)→Pq n f x*Pq n f x≤n∧n<(Pq n f x+1)*(Pq n f x+1)
 | 0,x,hx,hf,_=>by omega
 | f + 1, x, hx, hf, h => by
   unfold Pq;by_cases hd:x≤(x+n/x)/2
   ·rw [if_pos hd];exact ⟨Ab9 n x hx hd,h⟩
   ·rw [if_neg hd];exact S8 n hn f _ (Xe n x hx hn) (by omega) (R5 n x hx)
theorem Abd (n:Nat):n<(2^((bl n+1)/2)+1)*(2^((bl n+1)/2)+1):=by
 have a:=Bc n;have b:2^bl n≤2^((bl n+1)/2+(bl n+1)/2):=Nat.pow_le_pow_right (by decide) (by omega);rw [Nat.pow_add] at b;have c:=Nat.mul_le_mul (Nat.le_succ (2^((bl n+1)/2))) (Nat.le_succ (2^((bl n+1)/2)));exact Nat.lt_of_lt_of_le a (Nat.le_trans b c)
theorem Lo (n:Nat):isq n*isq n≤n∧n<(isq n+1)*(isq n+1):=by
 unfold isq;by_cases h:n=0
 ·subst h;simp
 ·rw [if_neg h];exact S8 n (by omega) _ _ (Nat.pow_pos (by decide)) (Nat.le_refl _) (Abd n)
end Go.Proofs.YtabjjdicffcolaaGreatDoor
namespace Go.Proofs.YtabjjdicffcolaaGreatDoor
def D9 (d:Dy):Dy:=if d.m=0 then d else ⟨!d.neg,d.m,d.e⟩
theorem Aeb (d:Dy):(D9 d).q=-d.q:=by
 unfold D9 Dy.q;by_cases h:d.m=0
 ·rw [if_pos h,h,Mp,Rat.zero_mul];rfl
 ·rw [if_neg h];simp only [U0,Rat.neg_mul]
theorem Hg {d:Dy}(h:d.Ok):(D9 d).Ok:=by
 unfold D9;by_cases h0:d.m=0
 ·rw [if_pos h0];exact h
 ·rw [if_neg h0];exact ⟨h.len,fun hz=>absurd hz h0,h.odd,h.lo,h.hi⟩
def J6 (a b:Dy):Outc Dy :=
 if ¬a.e=b.e∧4097-(bl a.m:Int)<a.e-b.e then bad 2
 else if a.neg=b.neg then Bt a.neg (a.m*2^(a.e-b.e).toNat+b.m) b.e
 else if b.m≤a.m*2^(a.e-b.e).toNat then Bt a.neg (a.m*2^(a.e-b.e).toNat-b.m) b.e
 else Bt b.neg (b.m-a.m*2^(a.e-b.e).toNat) b.e
def Dj (x y:Dy):Outc Dy :=
 if x.m=0 then good y else if y.m=0 then good x else if x.e<y.e then J6 y x else J6 x y
theorem Afa {a b:Dy}(h:b.e≤a.e)(hk:(J6 a b).k=0):(J6 a b).v.q=a.q+b.q:=by
 have e1:sq a.neg (a.m*2^(a.e-b.e).toNat)*pw b.e=a.q:=by
  unfold Dy.q;have:=Hc a.m h;unfold sq;cases a.neg
  ·simp only [Bool.false_eq_true,if_false];exact this.symm
  ·simp only [if_true,Rat.neg_mul];rw [this]
 unfold J6 at *;by_cases h1:¬a.e=b.e∧4097-(bl a.m:Int)<a.e-b.e
 ·rw [if_pos h1] at hk;exact absurd hk (by decide)
 ·rw [if_neg h1] at hk ⊢;generalize a.m*2^(a.e-b.e).toNat=X at *;by_cases h2:a.neg=b.neg
  ·rw [if_pos h2] at hk ⊢;rw [Kj hk,←e1];unfold Dy.q;rw [h2];unfold sq;cases b.neg
   ·simp only [Bool.false_eq_true,if_false,Rat.natCast_add,Rat.add_mul]
   ·simp only [if_true,Rat.natCast_add,Rat.neg_mul,Rat.add_mul];grind
  ·rw [if_neg h2] at hk ⊢;have e2:b.neg=!a.neg:=by cases ha:a.neg<;>cases hb:b.neg<;>simp_all
   by_cases h3:b.m≤X
   ·rw [if_pos h3] at hk ⊢;rw [Kj hk,←e1];unfold Dy.q;rw [e2,U0];obtain ⟨c,rfl⟩:∃ c,X=b.m+c:=⟨X-b.m,by omega⟩;rw [Nat.add_sub_cancel_left];unfold sq;cases a.neg
    ·simp only [Bool.false_eq_true,if_false,Rat.natCast_add,Rat.add_mul,Rat.neg_mul];grind
    ·simp only [if_true,Rat.natCast_add,Rat.neg_mul,Rat.add_mul];grind
   ·rw [if_neg h3] at hk ⊢;rw [Kj hk,←e1];unfold Dy.q;rw [e2,U0];obtain ⟨c,hc⟩:∃ c,b.m=X+c:=⟨b.m-X,by omega⟩;rw [hc,Nat.add_sub_cancel_left];unfold sq;cases a.neg
    ·simp only [Bool.false_eq_true,if_false,Rat.natCast_add,Rat.neg_mul];grind
    ·simp only [if_true,Rat.natCast_add,Rat.neg_mul];grind
theorem Nn {d:Dy}(h:d.m=0):d.q=0:=by unfold Dy.q;rw [h,Mp,Rat.zero_mul]
theorem U6 {x y:Dy}(hk:(Dj x y).k=0):(Dj x y).v.q=x.q+y.q:=by
 unfold Dj at *;by_cases h0:x.m=0
 ·rw [if_pos h0,Nn h0,Rat.zero_add];rfl
 ·rw [if_neg h0] at hk ⊢;by_cases h1:y.m=0
  ·rw [if_pos h1,Nn h1,Rat.add_zero];rfl
  ·rw [if_neg h1] at hk ⊢;by_cases h2:x.e<y.e
   ·rw [if_pos h2] at hk ⊢;rw [Afa (by omega) hk,Rat.add_comm]
   ·rw [if_neg h2] at hk ⊢;exact Afa (by omega) hk
def Outc.Ok (o:Outc Dy):Prop:=o.v.Ok∧(o.k≠0→o.v=dz)
theorem N0 {d:Dy}(h:d.Ok):(good d).Ok:=⟨h,fun h=>absurd rfl h⟩
theorem Lh (k:Int):(bad k).Ok:=⟨K8,fun _=>rfl⟩
theorem U5 (a b:Dy):(J6 a b).Ok:=by
 unfold J6;split
 ·exact Lh _
 ·split
  ·exact Ha _ _ _
  ·split<;>exact Ha _ _ _
theorem Ii {x y:Dy}(hx:x.Ok)(hy:y.Ok):(Dj x y).Ok:=by
 unfold Dj;split
 ·exact N0 hy
 ·split
  ·exact N0 hx
  ·split<;>exact U5 _ _
def Ch (x y:Dy):Outc Dy:=Bt (x.neg != y.neg) (x.m*y.m) (x.e+y.e)
theorem Up {x y:Dy}(hk:(Ch x y).k=0):(Ch x y).v.q=x.q*y.q:=by
 unfold Ch at *;rw [Kj hk,Aju,Ef];unfold Dy.q;grind
theorem Hf (x y:Dy):(Ch x y).Ok:=Ha _ _ _
def F5 (d:Dy) (n:Int):Outc Dy :=
 if d.m=0 then good d else if 2097152<n∨n < -2097152 then bad 3 else Bt d.neg d.m (d.e+n)
theorem Aez {d:Dy}{n:Int}(hk:(F5 d n).k=0):(F5 d n).v.q=d.q*pw n:=by
 unfold F5 at *;by_cases h:d.m=0
 ·rw [if_pos h];simp only [good];rw [Nn h,Rat.zero_mul]
 ·rw [if_neg h] at hk ⊢;by_cases h1:2097152<n∨n < -2097152
  ·rw [if_pos h1] at hk;exact absurd hk (by decide)
  ·rw [if_neg h1] at hk ⊢;rw [Kj hk,Ef,←Rat.mul_assoc];rfl
theorem Tj {d:Dy}(h:d.Ok)(n:Int):(F5 d n).Ok:=by
 unfold F5;split
 ·exact N0 h
 ·split
  ·exact Lh _
  ·exact Ha _ _ _
def Dc (d:Dy) (p:Nat) (up:Bool):Outc Dy:=I5 d.neg d.m d.e false p up
theorem Gi (d:Dy)(p:Nat)(up:Bool):(Dc d p up).Ok:=Ha _ _ _
theorem Qr {d:Dy}{p:Nat}{up:Bool}(hp:1≤p)(hk:(Dc d p up).k=0):Il up p d.q (Dc d p up).v.q:=by
 have h:=Vl (neg:=d.neg) (m:=d.m) (e:=d.e) (rest:=false) (p:=p) (up:=up) (M:=d.m) (by simp [Mag]) (by simp) hp hk;have e:(if d.neg then -(d.m:Rat) else d.m)*pw d.e=d.q:=rfl;rw [e] at h;exact h
def Bu (a b:Dy) (p:Nat):Nat:=p+1+bl b.m-bl a.m
def Bq (a b:Dy) (p:Nat) (up:Bool):Outc Dy :=
 I5 (a.neg != b.neg) (a.m*2^Bu a b p/b.m) (a.e-b.e-Bu a b p) (decide (¬a.m*2^Bu a b p%b.m=0)) p up
theorem Wc (n m:Nat)(h:m≠0):Mag (n/m) (decide (¬n%m=0)) ((n:Rat)/m):=by
 have hm:0<(m:Rat):=Uq h;have h1:=Nat.div_add_mod n m;have h2:=Nat.mod_lt n (Nat.pos_of_ne_zero h);rw [Nat.mul_comm] at h1;by_cases hr:n%m=0
 ·have:decide (¬n%m=0)=false:=by simp [hr]
  rw [this];simp only [Mag,Bool.false_eq_true,if_false];rw [hr,Nat.add_zero] at h1;have h3:(n:Rat)=((n/m:Nat):Rat)*m:=by rw [←Rat.natCast_mul,h1]
  rw [h3];generalize ((n/m:Nat):Rat)=A;rw [Rat.mul_div_cancel (by grind)]
 ·have:decide (¬n%m=0)=true:=by simp [hr]
  rw [this];simp only [Mag,if_true];rw [Rat.lt_div_iff hm,Rat.div_lt_iff hm,←Rat.natCast_mul];have e:((n/m:Nat):Rat)+1=((n/m+1:Nat):Rat):=by rw [Rat.natCast_add];rfl
  rw [e,←Rat.natCast_mul,Cs,Cs,Nat.add_mul,Nat.one_mul];omega
theorem P8 (a b p:Nat)(ha:a≠0)(hb:b≠0)(k:Nat)(hk:p+1+bl b≤bl a+k):p<bl (a*2^k/b):=by
 apply Ads;rw [Nat.le_div_iff_mul_le (Nat.pos_of_ne_zero hb)];have h1:=Dg a ha;have h2:=Bc b;have h3:2^p*b≤2^p*2^bl b:=Nat.mul_le_mul_left _ (by omega);have h4:2^(bl a-1)*2^k≤a*2^k:=Nat.mul_le_mul_right _ h1;rw [←Nat.pow_add] at h3 h4;refine Nat.le_trans h3 (Nat.le_trans (Nat.pow_le_pow_right (by decide) ?_) h4);have:=Ct a ha;omega
theorem Ajs (s t:Bool)(x:Rat)(m n:Nat)(hx:(m:Rat)=x*n):(if (s != t) then -x else x)*sq t n=sq s m:=by
 cases s<;>cases t<;>simp [sq,hx]<;>grind
theorem Mm {a b:Dy}{p:Nat}{up:Bool}(hp:1≤p)(hb:b.m≠0)(hk:(Bq a b p up).k=0):Il up p (a.q/b.q) (Bq a b p up).v.q:=by
 unfold Bq at *;have hm:=Wc (a.m*2^Bu a b p) b.m hb;have h:=Vl hm ?_ hp hk
 ·have e:(if (a.neg != b.neg) then -(((a.m*2^Bu a b p:Nat):Rat)/b.m) else ((a.m*2^Bu a b p:Nat):Rat)/b.m)*pw (a.e-b.e-Bu a b p)=a.q/b.q:=by
   have hbq:b.q≠0:=by
    have:=Ri hb b.e;unfold Dy.q sq;cases b.neg<;>simp<;>grind
   have hb0:=Uq hb;rw [Rat.div_def a.q];have key:(if (a.neg != b.neg) then -(((a.m*2^Bu a b p:Nat):Rat)/b.m) else ((a.m*2^Bu a b p:Nat):Rat)/b.m)*pw (a.e-b.e-Bu a b p)*b.q=a.q:=by
    unfold Dy.q;have h1:=Ajs a.neg b.neg (((a.m*2^Bu a b p:Nat):Rat)/b.m) (a.m*2^Bu a b p) b.m (by rw [Rat.div_mul_cancel (by grind)]);have h2:pw (a.e-b.e-Bu a b p)*pw b.e*pw (Bu a b p)=pw a.e:=by
     rw [←Ef,←Ef];congr 1;omega
    have h3:sq a.neg (a.m*2^Bu a b p)=sq a.neg a.m*pw (Bu a b p):=by
     rw [Hz];unfold sq;cases a.neg<;>simp [Rat.natCast_mul,Rat.neg_mul]
    rw [h3] at h1;generalize (if (a.neg != b.neg) then -(((a.m*2^Bu a b p:Nat):Rat)/b.m) else ((a.m*2^Bu a b p:Nat):Rat)/b.m)=A at *;generalize sq a.neg a.m=B at *;generalize sq b.neg b.m=C at *;have h4:=G0 (Bu a b p);have h5:=Akz (Bu a b p);generalize pw (a.e-b.e-Bu a b p)=D at *;generalize pw (Bu a b p)=E at *;generalize pw b.e=F at *;generalize pw a.e=G at *;have h6:A*D*(C*F)=B*(D*F*E):=by
     have:A*D*(C*F)=(A*C)*(D*F):=by grind
     rw [this,h1];grind
    rw [h6,h2]
   rw [←key,Rat.mul_assoc,Rat.mul_inv_cancel _ hbq,Rat.mul_one]
  rw [e] at h;exact h
 ·intro hr;have ha:a.m≠0:=by
   intro ha;rw [ha,Nat.zero_mul,Nat.zero_mod] at hr;simp at hr
  exact P8 a.m b.m p ha hb (Bu a b p) (by unfold Bu;omega)
theorem Eg (a b:Dy)(p:Nat)(up:Bool):(Bq a b p up).Ok:=Ha _ _ _
end Go.Proofs.YtabjjdicffcolaaGreatDoor
namespace Go.Proofs.YtabjjdicffcolaaGreatDoor
def Jn (d:Dy) (p:Nat):Nat:=2*p+2-bl d.m
def L3 (d:Dy) (p:Nat):Nat:=if (d.e-Jn d p)%2=0 then Jn d p else Jn d p+1
def Hr (d:Dy) (p:Nat) (up:Bool):Outc Dy :=
 I5 false (isq (d.m*2^L3 d p)) ((d.e-L3 d p)/2) (decide (¬isq (d.m*2^L3 d p)*isq (d.m*2^L3 d p)=d.m*2^L3 d p)) p up
theorem Ro (d:Dy)(p:Nat)(up:Bool):(Hr d p up).Ok:=Ha _ _ _
theorem Rp (d:Dy)(p:Nat):(d.e-L3 d p)%2=0:=by
 unfold L3;by_cases h:(d.e-Jn d p)%2=0
 ·rw [if_pos h];exact h
 ·rw [if_neg h];omega
theorem Aer (d:Dy)(p:Nat):Jn d p≤L3 d p:=by
 unfold L3;split<;>omega
structure IsRootDown (p:Nat) (x d:Rat):Prop where
 fits:Fits p d
 nonneg:0≤d
 le:d*d≤x
 best:∀ y,Fits p y→0≤y→y*y≤x→y≤d
structure IsRootUp (p:Nat) (x d:Rat):Prop where
 fits:Fits p d
 nonneg:0≤d
 le:x≤d*d
 best:∀ y,Fits p y→0≤y→x≤y*y→d≤y
def Ss (up:Bool) (p:Nat) (x d:Rat):Prop:=if up then IsRootUp p x d else IsRootDown p x d
theorem Tl {a b:Rat}(ha:0≤a)(h:a≤b):a*a≤b*b:=by
 have h1:=Rat.mul_le_mul_of_nonneg_left h ha;have h2:=Rat.mul_le_mul_of_nonneg_right h (by grind:0≤b);grind
theorem Aid {a b:Rat}(hb:0≤b)(h:a*a<b*b):a<b:=by
 by_cases hc:a<b
 ·exact hc
 ·have:=Tl hb (by grind:b≤a);grind
theorem Adt {a b:Rat}(ha:0≤a)(h:a<b):a*a<b*b:=by
 have h1:=Tl ha (by grind:a≤b);by_cases hc:a*a<b*b
 ·exact hc
 ·exfalso;have h2:a*a=b*b:=by grind
  have h3:=(Rat.mul_lt_mul_right (by grind:0<b)).2 h;have h4:=Rat.mul_le_mul_of_nonneg_left (by grind:a≤b) ha;grind
theorem Afz (x y:Rat):∃ M,x<M∧M<x+1∧(y<x+1→y≤M):=by
 by_cases h:x<y∧y<x+1
 ·exact ⟨y,h.1,h.2,fun _=>Rat.le_refl⟩
 ·refine ⟨x+1/2,by grind,by grind,fun hy=>?_⟩;have:¬x<y:=fun hx=>h ⟨hx,hy⟩
  grind
theorem Acq (x y:Rat):∃ M,x<M∧M<x+1∧(x<y→M≤y):=by
 by_cases h:x<y∧y<x+1
 ·exact ⟨y,h.1,h.2,fun _=>Rat.le_refl⟩
 ·refine ⟨x+1/2,by grind,by grind,fun hx=>?_⟩;have:¬y<x+1:=fun hy=>h ⟨hx,hy⟩
  grind
theorem Fz (n:Nat):(0:Rat)≤n:=Cj.2 (Nat.zero_le n)
theorem So {m x:Nat}{p:Nat}(h1:x*x≤m)(h2:m<(x+1)*(x+1))(h0:¬x*x=m→p<bl x)(hp:1≤p) :
 IsRootDown p m ((Eo x (decide (¬x*x=m)) p false:Rat)*pw ((bl x-p:Nat):Int)):=by
 have q1:((x:Rat))*x≤m:=by rw [←Rat.natCast_mul];exact Cj.2 h1
 have q2:(m:Rat)<(x+1)*(x+1):=by
  have:=Cs.2 h2;rw [Rat.natCast_mul,Rat.natCast_add] at this;exact this
 have hx0:=Fz x;have hnn:(0:Rat)≤(Eo x (decide (¬x*x=m)) p false:Rat)*pw ((bl x-p:Nat):Int):=Rat.mul_nonneg (Fz _) (Db _);by_cases he:x*x=m
 ·have hd:decide (¬x*x=m)=false:=by simp [he]
  rw [hd] at hnn ⊢;have k:=Me (m:=x) (rest:=false) (p:=p) (M:=x) (by simp [Mag]) (by simp) hp;have q3:(m:Rat)=x*x:=by rw [←Rat.natCast_mul,he]
  rw [q3];exact ⟨k.fits,hnn,Tl hnn k.le,fun y hy hy0 hyx=>k.best y hy (by
   by_cases hc:y≤x
   ·exact hc
   ·have:=Adt hx0 (by grind:(x:Rat)<y);grind)⟩
 ·have hd:decide (¬x*x=m)=true:=by simp [he]
  rw [hd] at hnn ⊢;have k:=fun M (a:(x:Rat)<M) (b:M<x+1)=>Me (m:=x) (rest:=true) (p:=p) (M:=M) (by simp only [Mag,if_true];exact ⟨a,b⟩) (fun _=>h0 he) hp
  generalize (Eo x true p false:Rat)*pw ((bl x-p:Nat):Int)=d at *;have k1:=k (x+1/2) (by grind) (by grind);have hdx:d≤x:=by
   by_cases hc:d≤x
   ·exact hc
   ·exfalso;have k2:=k (if d<x+1/2 then (x+d)/2 else x+1/4) (by split<;>grind) (by split<;>grind);have:=k2.le;split at this<;>grind
  refine ⟨k1.fits,hnn,Rat.le_trans (Tl hnn hdx) q1,fun y hy hy0 hyx=>?_⟩;obtain ⟨M,a,b,c⟩:=Afz x y;exact (k M a b).best y hy (c (Aid (by grind) (by grind)))
theorem W5 {m x:Nat}{p:Nat}(h1:x*x≤m)(h2:m<(x+1)*(x+1))(h0:¬x*x=m→p<bl x)(hp:1≤p) :
 IsRootUp p m ((Eo x (decide (¬x*x=m)) p true:Rat)*pw ((bl x-p:Nat):Int)):=by
 have q1:((x:Rat))*x≤m:=by rw [←Rat.natCast_mul];exact Cj.2 h1
 have q2:(m:Rat)<(x+1)*(x+1):=by
  have:=Cs.2 h2;rw [Rat.natCast_mul,Rat.natCast_add] at this;exact this
 have hx0:=Fz x;have hnn:(0:Rat)≤(Eo x (decide (¬x*x=m)) p true:Rat)*pw ((bl x-p:Nat):Int):=Rat.mul_nonneg (Fz _) (Db _);by_cases he:x*x=m
 ·have hd:decide (¬x*x=m)=false:=by simp [he]
  rw [hd] at hnn ⊢;have k:=P3 (m:=x) (rest:=false) (p:=p) (M:=x) (by simp [Mag]) (by simp) hp;have q3:(m:Rat)=x*x:=by rw [←Rat.natCast_mul,he]
  rw [q3];exact ⟨k.fits,hnn,Tl hx0 k.le,fun y hy hy0 hyx=>k.best y hy (by
   by_cases hc:(x:Rat)≤y
   ·exact hc
   ·have:=Adt hy0 (by grind:y<(x:Rat));grind)⟩
 ·have hd:decide (¬x*x=m)=true:=by simp [he]
  rw [hd] at hnn ⊢;have k:=fun M (a:(x:Rat)<M) (b:M<x+1)=>P3 (m:=x) (rest:=true) (p:=p) (M:=M) (by simp only [Mag,if_true];exact ⟨a,b⟩) (fun _=>h0 he) hp
  have q4:(x:Rat)*x<m:=by rw [←Rat.natCast_mul];exact Cs.2 (by omega)
  generalize (Eo x true p true:Rat)*pw ((bl x-p:Nat):Int)=d at *;have k1:=k (x+1/2) (by grind) (by grind);have hdx:(x:Rat)+1≤d:=by
   by_cases hc:(x:Rat)+1≤d
   ·exact hc
   ·exfalso;have k2:=k (if x+1/2<d then (x+1+d)/2 else x+3/4) (by split<;>grind) (by split<;>grind);have:=k2.le;split at this<;>grind
  refine ⟨k1.fits,hnn,?_,fun y hy hy0 hyx=>?_⟩
  ·have:=Tl (by grind:(0:Rat)≤x+1) hdx;grind
  ·obtain ⟨M,a,b,c⟩:=Acq x y;exact (k M a b).best y hy (c (Aid hy0 (by grind)))
theorem Ahe (a p:Nat)(ha:a≠0)(k:Nat)(hk:2*p+2≤bl a+k):p<bl (isq (a*2^k)):=by
 apply Ads;have h1:=Dg a ha;have h4:2^(bl a-1)*2^k≤a*2^k:=Nat.mul_le_mul_right _ h1;rw [←Nat.pow_add] at h4;have h5:2^(2*p)≤a*2^k:=Nat.le_trans (Nat.pow_le_pow_right (by decide) (by have:=Ct a ha;omega)) h4;have h6:2^(2*p)=2^p*2^p:=by rw [←Nat.pow_add];congr 1;omega
 have h7:=(Lo (a*2^k)).2;have h8:=Ae1 (a:=2^p) (b:=isq (a*2^k)+1) (by omega);omega
theorem Te {d:Dy}{p:Nat}{up:Bool}(hp:1≤p)(hn:d.neg=false)(hk:(Hr d p up).k=0):Ss up p d.q (Hr d p up).v.q:=by
 unfold Hr I5 at *;rw [Kj hk];have hev:=Rp d p;have hle:=Aer d p;have hk0:2*p+2≤bl d.m+Jn d p:=by unfold Jn;omega
 clear hk;generalize L3 d p=k at *;obtain ⟨s1,s2⟩:=Lo (d.m*2^k);have h0:¬isq (d.m*2^k)*isq (d.m*2^k)=d.m*2^k→p<bl (isq (d.m*2^k)):=by
  intro hne;have ha:d.m≠0:=by
   intro ha;rw [ha,Nat.zero_mul] at hne;exact hne rfl
  exact Ahe d.m p ha k (by omega)
 generalize isq (d.m*2^k)=x at *;have hq:d.q=((d.m*2^k:Nat):Rat)*(pw ((d.e-k)/2)*pw ((d.e-k)/2)):=by
  unfold Dy.q;rw [hn,←Ef];have:(d.e-k)/2+(d.e-k)/2=d.e-k:=by omega
  rw [this,Rat.natCast_mul,←Hz,Rat.mul_assoc,←Ef];simp only [sq,Bool.false_eq_true,if_false]
  congr 2;omega
 have hup:(up != false)=up:=by cases up<;>rfl
 rw [hq,hup];generalize (d.e-k)/2=h at *;have hh:=G0 h;have hh2:=Rat.mul_pos hh hh;have hc:=Ng h;have e0:sq false (Eo x (decide (¬x*x=d.m*2^k)) p up)*pw (h+((bl x-p:Nat):Int))=((Eo x (decide (¬x*x=d.m*2^k)) p up:Rat)*pw ((bl x-p:Nat):Int))*pw h:=by
  simp only [sq,Bool.false_eq_true,if_false];rw [Ef,Rat.mul_comm (pw h),Rat.mul_assoc]
 rw [e0];have ypos:∀ y:Rat,0≤y→0≤y*pw (-h):=fun y hy=>Rat.mul_nonneg hy (Db _)
 have yy:∀ y:Rat,(y*pw (-h))*(y*pw (-h))*(pw h*pw h)=y*y:=by
  intro y;have:(y*pw (-h))*(y*pw (-h))*(pw h*pw h)=(y*y)*((pw h*pw (-h))*(pw h*pw (-h))):=by grind
  rw [this,hc];grind
 unfold Ss;cases up
 ·simp only [Bool.false_eq_true,if_false];have k1:=So s1 s2 h0 hp;generalize (Eo x (decide (¬x*x=d.m*2^k)) p false:Rat)*pw ((bl x-p:Nat):Int)=r at *;refine ⟨k1.fits.pw h,Rat.mul_nonneg k1.nonneg (Db h),?_,fun y hy hy0 hyx=>?_⟩
  ·have:=Rat.mul_le_mul_of_nonneg_right k1.le (Rat.le_of_lt hh2);grind
  ·have:=k1.best (y*pw (-h)) (hy.pw (-h)) (ypos y hy0) (by
    apply Rat.le_of_mul_le_mul_right _ hh2;rw [yy];exact hyx)
   rw [←Gb h,Mk] at this;exact this
 ·simp only [if_true];have k1:=W5 s1 s2 h0 hp;generalize (Eo x (decide (¬x*x=d.m*2^k)) p true:Rat)*pw ((bl x-p:Nat):Int)=r at *;refine ⟨k1.fits.pw h,Rat.mul_nonneg k1.nonneg (Db h),?_,fun y hy hy0 hyx=>?_⟩
  ·have:=Rat.mul_le_mul_of_nonneg_right k1.le (Rat.le_of_lt hh2);grind
  ·have:=k1.best (y*pw (-h)) (hy.pw (-h)) (ypos y hy0) (by
    apply Rat.le_of_mul_le_mul_right _ hh2;rw [yy];exact hyx)
   rw [←Gb h,Mk] at this;exact this
end Go.Proofs.YtabjjdicffcolaaGreatDoor
namespace Go.Proofs.YtabjjdicffcolaaGreatDoor
def La (a b:Dy):Int :=
 if (bl a.m:Int)+a.e<bl b.m+b.e then -1 else if (bl b.m:Int)+b.e<bl a.m+a.e then 1
 else Em (a.m*2^(a.e-min a.e b.e).toNat) (b.m*2^(b.e-min a.e b.e).toNat)
theorem Un {m:Nat}(h:m≠0)(e:Int):pw (bl m+e-1)≤(m:Rat)*pw e∧(m:Rat)*pw e<pw (bl m+e):=by
 have h1:=Dg m h;have h2:=Bc m;have h3:=Ct m h;constructor
 ·have e1:pw (bl m+e-1)=((2^(bl m-1):Nat):Rat)*pw e:=by
   rw [←Hz,←Ef];congr 1;omega
  rw [e1,Gb,Cj];exact h1
 ·have e1:pw (bl m+e)=((2^bl m:Nat):Rat)*pw e:=by
   rw [←Hz,←Ef]
  rw [e1,Td,Cs];exact h2
theorem M5 {x y:Rat}(h:x<y):Co x y=-1:=by unfold Co;rw [if_pos h]
theorem M4 {x y:Rat}(h:y<x):Co x y=1:=by unfold Co;rw [if_neg (by grind),if_neg (by grind)]
theorem Aao {a b:Dy}(ha:a.m≠0)(hb:b.m≠0):La a b=Co ((a.m:Rat)*pw a.e) ((b.m:Rat)*pw b.e):=by
 obtain ⟨a1,a2⟩:=Un ha a.e;obtain ⟨b1,b2⟩:=Un hb b.e;unfold La;by_cases h1:(bl a.m:Int)+a.e<bl b.m+b.e
 ·rw [if_pos h1,M5];have:=Fj (show (bl a.m:Int)+a.e≤bl b.m+b.e-1 by omega);grind
 ·rw [if_neg h1];by_cases h2:(bl b.m:Int)+b.e<bl a.m+a.e
  ·rw [if_pos h2,M4];have:=Fj (show (bl b.m:Int)+b.e≤bl a.m+a.e-1 by omega);grind
  ·rw [if_neg h2];exact (Ac0 a.m b.m (Int.min_le_left _ _) (Int.min_le_right _ _)).symm
def sg (d:Dy):Int:=if d.m=0 then 0 else if d.neg then -1 else 1
theorem Y7 {d:Dy}(h:sg d=1):0<d.q∧d.q=(d.m:Rat)*pw d.e∧d.m≠0:=by
 unfold sg at h;by_cases h0:d.m=0
 ·rw [if_pos h0] at h;exact absurd h (by decide)
 ·rw [if_neg h0] at h;unfold Dy.q sq;cases hn:d.neg
  ·simp only [Bool.false_eq_true,if_false];exact ⟨Ri h0 _,trivial,h0⟩
  ·rw [hn] at h;exact absurd h (by decide)
theorem Ru {d:Dy}(h:sg d=-1):d.q<0∧d.q=-((d.m:Rat)*pw d.e)∧d.m≠0:=by
 unfold sg at h;by_cases h0:d.m=0
 ·rw [if_pos h0] at h;exact absurd h (by decide)
 ·rw [if_neg h0] at h;unfold Dy.q sq;cases hn:d.neg
  ·rw [hn] at h;exact absurd h (by decide)
  ·simp only [if_true,Rat.neg_mul];have:=Ri h0 d.e;exact ⟨by grind,trivial,h0⟩
theorem Uz {d:Dy}(h:sg d=0):d.q=0:=by
 unfold sg at h;by_cases h0:d.m=0
 ·exact Nn h0
 ·rw [if_neg h0] at h;split at h<;>exact absurd h (by decide)
theorem J2 (d:Dy):sg d=-1∨sg d=0∨sg d=1:=by
 unfold sg;split
 ·exact .inr (.inl rfl)
 ·split
  ·exact .inl rfl
  ·exact .inr (.inr rfl)
theorem Aex (d:Dy):sg d=Co d.q 0:=by
 rcases J2 d with h | h | h
 ·rw [h,M5 (Ru h).1]
 ·rw [h,Uz h,Sw]
 ·rw [h,M4 (Y7 h).1]
theorem Ac1 {a b:Dy}(h:sg a<sg b):Co a.q b.q=-1:=by
 apply M5;rw [Aex,Aex] at h;have h1:=@P0 a.q 0;have h2:=@Zh b.q 0;have h3:=@Ke a.q 0;have h4:=@Pz b.q 0;rcases J2 a with ha | ha | ha<;>rcases J2 b with hb | hb | hb<;>rw [Aex] at ha hb<;>rw [ha,hb] at h<;>first | (exact absurd h (by decide)) | skip
 all_goals (rw [ha] at h1 h3;rw [hb] at h2 h4;simp at h1 h2 h3 h4;grind)
theorem Aiz {a b:Dy}(h:sg b<sg a):Co a.q b.q=1:=by
 have h1:=Ac1 h;have h2:=Vj b.q a.q;have h3:=@P0 b.q a.q;rw [h1] at h3;exact M4 (h3.1 (by decide))
theorem Ac2 {a b:Dy}(h:sg a=sg b):Co a.q b.q=if sg a=0 then 0 else sg a*La a b:=by
 rcases J2 a with ha | ha | ha
 ·rw [ha,if_neg (by decide)];obtain ⟨_,a1,a2⟩:=Ru ha;obtain ⟨_,b1,b2⟩:=Ru (h▸ha);rw [a1,b1,Vj,Aao a2 b2];omega
 ·rw [ha,if_pos rfl,Uz ha,Uz (h▸ha),Sw]
 ·rw [ha,if_neg (by decide)];obtain ⟨_,a1,a2⟩:=Y7 ha;obtain ⟨_,b1,b2⟩:=Y7 (h▸ha);rw [a1,b1,Aao a2 b2];omega
structure Iv where
 lo:Dy
 hi:Dy
def iz:Iv:=⟨dz,dz⟩
structure RawI where
 lo:Raw
 hi:Raw
def Iv.raw (a:Iv):RawI:=⟨a.lo.raw,a.hi.raw⟩
structure Iv.Ok (a:Iv):Prop where
 lo:a.lo.Ok
 hi:a.hi.Ok
 le:a.lo.q≤a.hi.q
def Fh (a:RawI):Bool:=Gp a.lo&&Gp a.hi&&decide (Co a.lo.dy.q a.hi.dy.q≤0)
theorem D8 {a:Iv}(h:a.Ok):Fh a.raw=true:=by
 unfold Fh Iv.raw;simp only [h.lo.may,h.hi.may,Dy.raw_dy,Bool.true_and,decide_eq_true_eq];exact Ke.2 h.le
def Outc.bind {α β:Type} (o:Outc α) (z:β) (f:α→Outc β):Outc β:=if o.k=0 then f o.v else ⟨z,o.k⟩
theorem Outc.bind_ok {α β:Type}{o:Outc α}{z:β}{f:α→Outc β}(h:(o.bind z f).k=0):o.k=0∧o.bind z f=f o.v:=by
 unfold Outc.bind at *;by_cases hk:o.k=0
 ·rw [if_pos hk] at h ⊢;exact ⟨hk,rfl⟩
 ·rw [if_neg hk] at h;exact absurd h hk
theorem Outc.bind_of {α β:Type}{o:Outc α}(z:β)(f:α→Outc β)(h:o.k=0):o.bind z f=f o.v:=by unfold Outc.bind;rw [if_pos h]
def Gj (lo hi:Outc Dy):Outc Iv:=lo.bind iz fun l=>hi.bind iz fun h=>⟨⟨l,h⟩,0⟩
def Pt (o:Outc Dy) (p:Nat) (up:Bool):Outc Dy:=o.bind dz fun d=>Dc d p up
def I4 (a b:Iv) (p:Nat):Outc Iv:=Gj (Pt (Dj a.lo b.lo) p false) (Pt (Dj a.hi b.hi) p true)
def L6 (a b:Iv) (p:Nat):Outc Iv:=Gj (Pt (Dj a.lo (D9 b.hi)) p false) (Pt (Dj a.hi (D9 b.lo)) p true)
def Lv (a:Iv) (p:Nat):Outc Iv:=Gj (Dc (D9 a.hi) p false) (Dc (D9 a.lo) p true)
def Ce (d:Dy):List Dy→Dy
 | []=>d
 | x::l=>Ce (if Co x.q d.q<0 then x else d) l
def Bh (d:Dy):List Dy→Dy
 | []=>d
 | x::l=>Bh (if 0<Co x.q d.q then x else d) l
def Ny (a b c d:Outc Dy) (f:Dy→Dy→Dy→Dy→Outc Iv):Outc Iv :=
 a.bind iz fun x=>b.bind iz fun y=>c.bind iz fun z=>d.bind iz fun u=>f x y z u
def Hq (a b:Iv) (p:Nat):Outc Iv :=
 Ny (Ch a.lo b.lo) (Ch a.lo b.hi) (Ch a.hi b.lo) (Ch a.hi b.hi) fun x y z u =>
  Gj (Dc (Ce x [x,y,z,u]) p false) (Dc (Bh x [x,y,z,u]) p true)
def D5 (b:Iv):Bool:=decide (Co b.lo.q 0≤0)&&decide (Co 0 b.hi.q≤0)
def I6 (a b:Iv) (p:Nat):Outc Iv :=
 if D5 b then ⟨iz,4⟩ else
 Ny (Bq a.lo b.lo p false) (Bq a.lo b.hi p false) (Bq a.hi b.lo p false) (Bq a.hi b.hi p false) fun x y z u =>
 Ny (Bq a.lo b.lo p true) (Bq a.lo b.hi p true) (Bq a.hi b.lo p true) (Bq a.hi b.hi p true) fun x' y' z' u' =>
  ⟨⟨Ce x [x,y,z,u],Bh x' [x',y',z',u']⟩,0⟩
def Od (a:Iv) (p:Nat):Outc Iv :=
 (Ch a.lo a.lo).bind iz fun x=>(Ch a.hi a.hi).bind iz fun y =>
   Gj (Dc (if D5 a then dz else Ce x [x,y]) p false) (Dc (Bh x [x,y]) p true)
def Hu (a:Iv) (p:Nat):Outc Iv :=
 if sg a.lo<0 then ⟨iz,4⟩ else Gj (Hr a.lo p false) (Hr a.hi p true)
end Go.Proofs.YtabjjdicffcolaaGreatDoor
namespace Go.Proofs.YtabjjdicffcolaaGreatDoor
theorem S9 (l:List Dy):∀ d:Dy,(Ce d l).q≤d.q∧∀ x∈l,(Ce d l).q≤x.q:=by
 induction l with
 | nil=>intro d;exact ⟨Rat.le_refl,fun x hx=>by cases hx⟩
 | cons y l ih =>
   intro d;unfold Ce;obtain ⟨h1,h2⟩:=ih (if Co y.q d.q<0 then y else d);have hc:=@P0 y.q d.q;have h3:(if Co y.q d.q<0 then y else d).q≤d.q∧(if Co y.q d.q<0 then y else d).q≤y.q:=by
    by_cases h:Co y.q d.q<0
    ·rw [if_pos h];have:=hc.1 h;constructor<;>grind
    ·rw [if_neg h];have:¬y.q<d.q:=fun hh=>h (hc.2 hh);constructor<;>grind
   refine ⟨by grind,fun x hx=>?_⟩;rcases List.mem_cons.1 hx with rfl | hx
   ·grind
   ·exact h2 x hx
theorem Q5 (l:List Dy):∀ d:Dy,Ce d l=d∨Ce d l∈l:=by
 induction l with
 | nil=>intro d;exact .inl rfl
 | cons y l ih =>
   intro d;unfold Ce;rcases ih (if Co y.q d.q<0 then y else d) with h | h
   ·rw [h];split
    ·exact .inr (List.mem_cons_self ..)
    ·exact .inl rfl
   ·exact .inr (List.mem_cons_of_mem _ h)
theorem N1 (l:List Dy):∀ d:Dy,d.q≤(Bh d l).q∧∀ x∈l,x.q≤(Bh d l).q:=by
 induction l with
 | nil=>intro d;exact ⟨Rat.le_refl,fun x hx=>by cases hx⟩
 | cons y l ih =>
   intro d;unfold Bh;obtain ⟨h1,h2⟩:=ih (if 0<Co y.q d.q then y else d);have hc:=@Zh y.q d.q;have h3:d.q≤(if 0<Co y.q d.q then y else d).q∧y.q≤(if 0<Co y.q d.q then y else d).q:=by
    by_cases h:0<Co y.q d.q
    ·rw [if_pos h];have:=hc.1 h;constructor<;>grind
    ·rw [if_neg h];have:¬d.q<y.q:=fun hh=>h (hc.2 hh);constructor<;>grind
   refine ⟨by grind,fun x hx=>?_⟩;rcases List.mem_cons.1 hx with rfl | hx
   ·grind
   ·exact h2 x hx
theorem Mv (l:List Dy):∀ d:Dy,Bh d l=d∨Bh d l∈l:=by
 induction l with
 | nil=>intro d;exact .inl rfl
 | cons y l ih =>
   intro d;unfold Bh;rcases ih (if 0<Co y.q d.q then y else d) with h | h
   ·rw [h];split
    ·exact .inr (List.mem_cons_self ..)
    ·exact .inl rfl
   ·exact .inr (List.mem_cons_of_mem _ h)
theorem Ov {d:Dy}{l:List Dy}(hd:d.Ok)(hl:∀ x∈l,Dy.Ok x):(Ce d l).Ok:=by
 rcases Q5 l d with h | h
 ·rw [h];exact hd
 ·exact hl _ h
theorem Kk {d:Dy}{l:List Dy}(hd:d.Ok)(hl:∀ x∈l,Dy.Ok x):(Bh d l).Ok:=by
 rcases Mv l d with h | h
 ·rw [h];exact hd
 ·exact hl _ h
theorem Adp {x y z u:Dy}:(Ce x [x,y,z,u]).q≤x.q∧(Ce x [x,y,z,u]).q≤y.q∧(Ce x [x,y,z,u]).q≤z.q∧(Ce x [x,y,z,u]).q≤u.q:=by
 obtain ⟨a,b⟩:=S9 [x,y,z,u] x;exact ⟨a,b y (by simp),b z (by simp),b u (by simp)⟩
theorem S7 {x y z u:Dy}:x.q≤(Bh x [x,y,z,u]).q∧y.q≤(Bh x [x,y,z,u]).q∧z.q≤(Bh x [x,y,z,u]).q∧u.q≤(Bh x [x,y,z,u]).q:=by
 obtain ⟨a,b⟩:=N1 [x,y,z,u] x;exact ⟨a,b y (by simp),b z (by simp),b u (by simp)⟩
theorem Ai9 {x y:Dy}:(Ce x [x,y]).q≤x.q∧(Ce x [x,y]).q≤y.q:=by
 obtain ⟨a,b⟩:=S9 [x,y] x;exact ⟨a,b y (by simp)⟩
theorem Aba {x y:Dy}:x.q≤(Bh x [x,y]).q∧y.q≤(Bh x [x,y]).q:=by
 obtain ⟨a,b⟩:=N1 [x,y] x;exact ⟨a,b y (by simp)⟩
theorem Jp {d:Dy}{p:Nat}(hp:1≤p)(hk:(Dc d p false).k=0):IsDown p d.q (Dc d p false).v.q:=Qr hp hk
theorem Nv {d:Dy}{p:Nat}(hp:1≤p)(hk:(Dc d p true).k=0):IsUp p d.q (Dc d p true).v.q:=Qr hp hk
theorem Wz {o:Outc Dy}{p:Nat}{up:Bool}(hk:(Pt o p up).k=0):o.k=0∧Pt o p up=Dc o.v p up:=Outc.bind_ok hk
theorem Vz (b:Iv):D5 b=true↔b.lo.q≤0∧0≤b.hi.q:=by
 unfold D5;simp only [Bool.and_eq_true,decide_eq_true_eq];rw [Ke,Ke]
end Go.Proofs.YtabjjdicffcolaaGreatDoor
namespace Go.Proofs.YtabjjdicffcolaaGreatDoor
def OkI (o:Outc Iv):Prop:=o.v.Ok∧(o.k≠0→o.v=iz)
theorem Q4:iz.Ok:=⟨K8,K8,Rat.le_refl⟩
theorem G8 (k:Int):OkI ⟨iz,k⟩:=⟨Q4,fun _=>rfl⟩
theorem Jq {lo hi:Outc Dy}(h1:lo.Ok)(h2:hi.Ok)(h:lo.k=0→hi.k=0→lo.v.q≤hi.v.q):OkI (Gj lo hi):=by
 unfold Gj Outc.bind;by_cases k1:lo.k=0
 ·simp only [if_pos k1];by_cases k2:hi.k=0
  ·simp only [if_pos k2];exact ⟨⟨h1.1,h2.1,h k1 k2⟩,fun h=>absurd rfl h⟩
  ·simp only [if_neg k2];exact G8 _
 ·simp only [if_neg k1];exact G8 _
theorem Aaj (o:Outc Dy)(p:Nat)(up:Bool):(Pt o p up).Ok:=by
 unfold Pt Outc.bind;by_cases k1:o.k=0
 ·simp only [if_pos k1];exact Gi _ _ _
 ·simp only [if_neg k1];exact Lh _
theorem Qx {a b c d:Outc Dy}{f:Dy→Dy→Dy→Dy→Outc Iv}(h:a.k=0→b.k=0→c.k=0→d.k=0→OkI (f a.v b.v c.v d.v)):OkI (Ny a b c d f):=by
 unfold Ny Outc.bind;by_cases k1:a.k=0
 ·simp only [if_pos k1];by_cases k2:b.k=0
  ·simp only [if_pos k2];by_cases k3:c.k=0
   ·simp only [if_pos k3];by_cases k4:d.k=0
    ·simp only [if_pos k4];exact h k1 k2 k3 k4
    ·simp only [if_neg k4];exact G8 _
   ·simp only [if_neg k3];exact G8 _
  ·simp only [if_neg k2];exact G8 _
 ·simp only [if_neg k1];exact G8 _
theorem Tx {a b:Iv}(ha:a.Ok)(hb:b.Ok){p:Nat}(hp:1≤p):OkI (I4 a b p):=by
 unfold I4;refine Jq (Aaj _ _ _) (Aaj _ _ _) fun k1 k2=>?_
 obtain ⟨h4,h5⟩:=Wz k1;obtain ⟨h6,h7⟩:=Wz k2;rw [h5] at k1 ⊢;rw [h7] at k2 ⊢;have d1:=(Jp hp k1).le;have d2:=(Nv hp k2).le;rw [U6 h4] at d1;rw [U6 h6] at d2;have:=ha.le;have:=hb.le;grind
theorem Aec {b:Iv}(hb:b.Ok):(Iv.mk (D9 b.hi) (D9 b.lo)).Ok :=
 ⟨Hg hb.hi,Hg hb.lo,by simp only [Aeb];have:=hb.le;grind⟩
theorem Ae8 (a b:Iv)(p:Nat):L6 a b p=I4 a ⟨D9 b.hi,D9 b.lo⟩ p:=rfl
theorem Aar {a b:Iv}(ha:a.Ok)(hb:b.Ok){p:Nat}(hp:1≤p):OkI (L6 a b p):=by
 rw [Ae8];exact Tx ha (Aec hb) hp
theorem Aac {a:Iv}(ha:a.Ok){p:Nat}(hp:1≤p):OkI (Lv a p):=by
 unfold Lv;refine Jq (Gi _ _ _) (Gi _ _ _) fun k1 k2=>?_
 have d1:=(Jp hp k1).le;have d2:=(Nv hp k2).le;have:=(Aec ha).le;simp only at this;grind
theorem Z9 {a b:Iv}{p:Nat}(hp:1≤p):OkI (Hq a b p):=by
 unfold Hq;refine Qx fun h1 h2 h3 h4=>Jq (Gi _ _ _) (Gi _ _ _) fun k1 k2=>?_
 have d1:=(Jp hp k1).le;have d2:=(Nv hp k2).le;have l:=(Adp (x:=(Ch a.lo b.lo).v) (y:=(Ch a.lo b.hi).v) (z:=(Ch a.hi b.lo).v) (u:=(Ch a.hi b.hi).v)).1;have g:=(S7 (x:=(Ch a.lo b.lo).v) (y:=(Ch a.lo b.hi).v) (z:=(Ch a.hi b.lo).v) (u:=(Ch a.hi b.hi).v)).1;grind
theorem Q0 {b:Iv}(hb:b.Ok)(h:¬D5 b=true):¬b.lo.m=0∧¬b.hi.m=0:=by
 have hz:=fun x=>h ((Vz b).2 x)
 have:=hb.le;constructor
 ·intro h0;have:=Nn h0;exact hz ⟨by grind,by grind⟩
 ·intro h0;have:=Nn h0;exact hz ⟨by grind,by grind⟩
theorem Yw {a b:Dy}{p:Nat}(hp:1≤p)(hb:¬b.m=0)(hk:(Bq a b p false).k=0):IsDown p (a.q/b.q) (Bq a b p false).v.q:=Mm hp hb hk
theorem Aep {a b:Dy}{p:Nat}(hp:1≤p)(hb:¬b.m=0)(hk:(Bq a b p true).k=0):IsUp p (a.q/b.q) (Bq a b p true).v.q:=Mm hp hb hk
theorem Zk {a b:Iv}(hb:b.Ok){p:Nat}(hp:1≤p):OkI (I6 a b p):=by
 unfold I6;by_cases hz:D5 b=true
 ·rw [if_pos hz];exact G8 _
 ·rw [if_neg hz];obtain ⟨n1,n2⟩:=Q0 hb hz;refine Qx fun h1 h2 h3 h4=>Qx fun k1 k2 k3 k4=>⟨⟨?_,?_,?_⟩,fun h=>absurd rfl h⟩
  ·refine Ov (Eg _ _ _ _).1 fun x hx=>?_
   simp only [List.mem_cons,List.not_mem_nil,or_false] at hx;rcases hx with rfl | rfl | rfl | rfl<;>exact (Eg _ _ _ _).1
  ·refine Kk (Eg _ _ _ _).1 fun x hx=>?_
   simp only [List.mem_cons,List.not_mem_nil,or_false] at hx;rcases hx with rfl | rfl | rfl | rfl<;>exact (Eg _ _ _ _).1
  ·have d1:=(Yw hp n1 h1).le;have d2:=(Aep hp n1 k1).le;have l:=(Adp (x:=(Bq a.lo b.lo p false).v) (y:=(Bq a.lo b.hi p false).v) (z:=(Bq a.hi b.lo p false).v) (u:=(Bq a.hi b.hi p false).v)).1;have g:=(S7 (x:=(Bq a.lo b.lo p true).v) (y:=(Bq a.lo b.hi p true).v) (z:=(Bq a.hi b.lo p true).v) (u:=(Bq a.hi b.hi p true).v)).1
   show (Ce _ _).q≤(Bh _ _).q
   grind
theorem Aho {a:Iv}{p:Nat}(hp:1≤p):OkI (Od a p):=by
 have sqn:∀ x:Rat,0≤x*x:=fun x=>by
  by_cases h:0≤x
  ·exact Rat.mul_nonneg h h
  ·have:=Rat.mul_nonneg (show 0≤-x by grind) (show 0≤-x by grind);grind
 unfold Od Outc.bind;by_cases h1:(Ch a.lo a.lo).k=0
 ·simp only [if_pos h1];by_cases h2:(Ch a.hi a.hi).k=0
  ·simp only [if_pos h2];refine Jq (Gi _ _ _) (Gi _ _ _) fun k1 k2=>?_
   have d1:=(Jp hp k1).le;have d2:=(Nv hp k2).le;have l:=(Ai9 (x:=(Ch a.lo a.lo).v) (y:=(Ch a.hi a.hi).v)).1;have g:=(Aba (x:=(Ch a.lo a.lo).v) (y:=(Ch a.hi a.hi).v)).1;have q1:=Up h1;have:=sqn a.lo.q;have hl:(if D5 a=true then dz else Ce (Ch a.lo a.lo).v [(Ch a.lo a.lo).v,(Ch a.hi a.hi).v]).q≤(Ch a.lo a.lo).v.q:=by
    split
    ·rw [X8];grind
    ·exact l
   grind
  ·simp only [if_neg h2];exact G8 _
 ·simp only [if_neg h1];exact G8 _
theorem Ahf {x y d e:Rat}(hd:d*d≤x)(hxy:x≤y)(he:0≤e)(hy:y≤e*e):d≤e:=by
 by_cases h:d≤e
 ·exact h
 ·have:=Adt he (show e<d by grind);grind
theorem Ab7 {a:Iv}(ha:a.Ok)(h:¬sg a.lo<0):a.lo.neg=false∧a.hi.neg=false:=by
 rw [Aex] at h;have h0:0≤a.lo.q:=by
  have:=@P0 a.lo.q 0;grind
 have h1:0≤a.hi.q:=by have:=ha.le;grind
 have key:∀ d:Dy,d.Ok→0≤d.q→d.neg=false:=by
  intro d hd hq;by_cases hm:d.m=0
  ·exact (hd.zero hm).1
  ·cases hn:d.neg
   ·rfl
   ·have:sg d=-1:=by unfold sg;rw [if_neg hm,hn];rfl
    have:=(Ru this).1;grind
 exact ⟨key _ ha.lo h0,key _ ha.hi h1⟩
theorem Y5 {d:Dy}{p:Nat}(hp:1≤p)(hn:d.neg=false)(hk:(Hr d p false).k=0):IsRootDown p d.q (Hr d p false).v.q:=Te hp hn hk
theorem Aeq {d:Dy}{p:Nat}(hp:1≤p)(hn:d.neg=false)(hk:(Hr d p true).k=0):IsRootUp p d.q (Hr d p true).v.q:=Te hp hn hk
theorem Ae4 {a:Iv}(ha:a.Ok){p:Nat}(hp:1≤p):OkI (Hu a p):=by
 unfold Hu;by_cases hs:sg a.lo<0
 ·rw [if_pos hs];exact G8 _
 ·rw [if_neg hs];obtain ⟨n1,n2⟩:=Ab7 ha hs;refine Jq (Ro _ _ _) (Ro _ _ _) fun k1 k2=>?_
  have d1:=Y5 hp n1 k1;have d2:=Aeq hp n2 k2;exact Ahf d1.le ha.le d2.nonneg d2.le
theorem Adi {a b c d:Outc Dy}{f:Dy→Dy→Dy→Dy→Outc Iv}(h1:a.k=0)(h2:b.k=0)(h3:c.k=0)(h4:d.k=0):Ny a b c d f=f a.v b.v c.v d.v:=by
 unfold Ny;rw [Outc.bind_of _ _ h1,Outc.bind_of _ _ h2,Outc.bind_of _ _ h3,Outc.bind_of _ _ h4]
theorem IsDown.sign {p:Nat}{x d:Rat}(h:IsDown p x d)(hx:0≤x):0≤d:=h.best 0 (Fits.zero p) hx
theorem Ow {n k:Nat}(h:bl n≤64*k):(Ai n).length≤k:=by
 apply Cq;have h1:=Bc n;have h2:2^bl n≤2^(64*k):=Nat.pow_le_pow_right (by decide) h;rw [Nat.pow_mul 2 64 k] at h2;exact Nat.lt_of_lt_of_le h1 h2
end Go.Proofs.YtabjjdicffcolaaGreatDoor
namespace Go.Proofs.YtabjjdicffcolaaGreatDoor
theorem Aav {n:Nat}(h:n%2=1):tz n=0:=Ge n 0 n h (by simp)
theorem Ot {d:Dy}(h:d.Ok):Bt d.neg d.m d.e=⟨d,0⟩:=by
 unfold Bt;by_cases h0:d.m=0
 ·rw [if_pos h0];obtain ⟨a,b⟩:=h.zero h0;cases d with | mk n m e =>
   simp only at a b h0;subst a b h0;rfl
 ·rw [if_neg h0,Aav (h.odd h0)];have hl:=h.len;have h1:=h.lo;have h2:=h.hi;rw [if_neg (by simpa using hl),if_neg (by simp;omega),if_neg (by simp;omega)];simp [good]
theorem Io {d:Dy}(h:d.Ok){p:Nat}(hp:bl d.m≤p)(up:Bool):Dc d p up=⟨d,0⟩:=by
 unfold Dc I5 Eo Ig;have e0:bl d.m-p=0:=by omega
 simp only [e0,Nat.lt_irrefl,decide_false,Bool.false_and,Bool.or_false,Bool.false_eq_true,if_false,Nat.pow_zero,Nat.div_one,Int.ofNat_zero,Int.add_zero];exact Ot h
structure Few (d:Dy) (b:Nat) (e:Int):Prop where
 ok:d.Ok
 bl:bl d.m≤b
 lo:-e≤d.e
 hi:d.e≤e
theorem Iq {neg:Bool}{n:Nat}{e:Int}(h:bl n≤1000)(e1:-1000≤e)(e2:e≤1000):(Bt neg n e).k=0∧bl (Bt neg n e).v.m≤bl n:=by
 have hb:bl (n/2^tz n)≤bl n:=Fw (Nat.div_le_self _ _);have hl:(Ai (n/2^tz n)).length≤64:=Ow (k:=64) (by omega);by_cases h0:n=0
 ·subst h0;refine ⟨rfl,?_⟩
  show bl dz.m≤_
  simp [dz]
 ·have ht:tz n<bl n:=Ma n (bl n) h0 (Bc n);unfold Bt;rw [if_neg h0,if_neg (by omega),if_neg (by omega),if_neg (by omega)];exact ⟨rfl,hb⟩
theorem Ga {m n a b:Nat}(hm:bl m≤a)(hn:bl n≤b):bl (m*n)≤a+b:=by
 apply E7;rw [Nat.pow_add];have h1:=Bc m;have h2:=Bc n;have h3:2^bl m≤2^a:=Nat.pow_le_pow_right (by decide) hm;have h4:2^bl n≤2^b:=Nat.pow_le_pow_right (by decide) hn;exact Nat.mul_lt_mul'' (by omega) (by omega)
theorem Ad2 {x y:Dy}(hx:Few x 128 100)(hy:Few y 128 100):(Ch x y).k=0∧(Ch x y).v.Ok∧bl (Ch x y).v.m≤600:=by
 have hb:=Ga hx.bl hy.bl;have:=hx.lo;have:=hx.hi;have:=hy.lo;have:=hy.hi;obtain ⟨h1,h2⟩:=Iq (neg:=(x.neg != y.neg)) (n:=x.m*y.m) (e:=x.e+y.e) (by omega) (by omega) (by omega);exact ⟨h1,(Hf x y).1,by unfold Ch;omega⟩
theorem Aim {m n a:Nat}(hm:bl m≤a)(hn:bl n≤a):bl (m+n)≤a+1:=by
 apply E7;have h1:=Bc m;have h2:=Bc n;have h3:2^bl m≤2^a:=Nat.pow_le_pow_right (by decide) hm;have h4:2^bl n≤2^a:=Nat.pow_le_pow_right (by decide) hn;have h5:(2:Nat)^(a+1)=2^a+2^a:=Nat.two_pow_succ a;omega
theorem Xh {a b:Dy}(ha:Few a 128 100)(hb:Few b 128 100)(_h:b.e≤a.e):(J6 a b).k=0∧bl (J6 a b).v.m≤600:=by
 have:=ha.lo;have:=ha.hi;have:=hb.lo;have:=hb.hi;have hp:bl (2^(a.e-b.e).toNat)≤201:=by
  apply E7;exact Nat.pow_lt_pow_right (by decide) (by omega)
 have hm:=Ga ha.bl hp;have hs:bl (a.m*2^(a.e-b.e).toNat+b.m)≤330:=Aim (a:=329) hm (by have:=hb.bl;omega);have hd:bl (a.m*2^(a.e-b.e).toNat-b.m)≤330:=Nat.le_trans (Fw (Nat.le_trans (Nat.sub_le _ _) (Nat.le_add_right _ b.m))) hs;have hd':bl (b.m-a.m*2^(a.e-b.e).toNat)≤330:=Nat.le_trans (Fw (Nat.le_trans (Nat.sub_le _ _) (Nat.le_add_left b.m (a.m*2^(a.e-b.e).toNat)))) hs;have hbl:=ha.bl;unfold J6;rw [if_neg (by omega)];split
 ·have:=Iq (neg:=a.neg) (n:=a.m*2^(a.e-b.e).toNat+b.m) (e:=b.e) (by omega) (by omega) (by omega);exact ⟨this.1,by omega⟩
 ·split
  ·have:=Iq (neg:=a.neg) (n:=a.m*2^(a.e-b.e).toNat-b.m) (e:=b.e) (by omega) (by omega) (by omega);exact ⟨this.1,by omega⟩
  ·have:=Iq (neg:=b.neg) (n:=b.m-a.m*2^(a.e-b.e).toNat) (e:=b.e) (by omega) (by omega) (by omega);exact ⟨this.1,by omega⟩
theorem Afb {x y:Dy}(hx:Few x 128 100)(hy:Few y 128 100):(Dj x y).k=0∧(Dj x y).v.Ok∧bl (Dj x y).v.m≤600:=by
 have ok:=(Ii hx.ok hy.ok).1;have b1:=hx.bl;have b2:=hy.bl;unfold Dj at *;by_cases h1:x.m=0
 ·rw [if_pos h1] at ok ⊢;exact ⟨rfl,ok,by show bl y.m≤600;omega⟩
 ·rw [if_neg h1] at ok ⊢;by_cases h2:y.m=0
  ·rw [if_pos h2] at ok ⊢;exact ⟨rfl,ok,by show bl x.m≤600;omega⟩
  ·rw [if_neg h2] at ok ⊢;by_cases h3:x.e<y.e
   ·rw [if_pos h3] at ok ⊢;have:=Xh hy hx (by omega);exact ⟨this.1,ok,this.2⟩
   ·rw [if_neg h3] at ok ⊢;have:=Xh hx hy (by omega);exact ⟨this.1,ok,this.2⟩
def pt (d:Dy):Iv:=⟨d,d⟩
theorem Aah {d:Dy}(h:d.Ok):(pt d).Ok:=⟨h,h,Rat.le_refl⟩
theorem Rl {o:Outc Dy}(h0:o.k=0)(h:o.v.Ok){p:Nat}(hp:bl o.v.m≤p)(up:Bool):Pt o p up=⟨o.v,0⟩:=by
 unfold Pt;rw [Outc.bind_of _ _ h0,Io h hp]
theorem V5 (x:Dy)(l:List Dy)(h:∀ y∈l,y=x):Ce x l=x:=by
 rcases Q5 l x with e | e
 ·exact e
 ·exact h _ e
theorem Qy (x:Dy)(l:List Dy)(h:∀ y∈l,y=x):Bh x l=x:=by
 rcases Mv l x with e | e
 ·exact e
 ·exact h _ e
end Go.Proofs.YtabjjdicffcolaaGreatDoor
