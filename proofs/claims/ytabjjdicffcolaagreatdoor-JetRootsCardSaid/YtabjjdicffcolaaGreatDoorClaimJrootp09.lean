/- Words and contracts, part 9. -/
import Derived.Test.YtabjjdicffcolaaGreatDoorClaimJrootp02
set_option maxRecDepth 100000
set_option maxHeartbeats 0
namespace Go.Proofs.YtabjjdicffcolaaGreatDoor
def Rk (n:Nat):Nat→Nat→Nat
 | 0,x=>x
 | f+1,x=>if x≤(x+n/x)/2 then x else Rk n f ((x+n/x)/2)
def isq (n:Nat):Nat:=if n=0 then 0 else Rk n (2^((bl n+1)/2)) (2^((bl n+1)/2))
theorem Ahx {a b:Nat}(h:a*a<b*b):a<b:=by
 by_cases hab:a<b
 ·exact hab
 ·have:=Nat.mul_le_mul (show b≤a by omega) (show b≤a by omega);omega
theorem Uh (n x:Nat)(hx:0<x):n<((x+n/x)/2+1)*((x+n/x)/2+1):=by
 have a:=Nat.lt_mul_div_succ n hx;generalize n/x=q at *;generalize hy:(x+q)/2=y at *;have b:x+q+1≤2*(y+1):=by omega
 -- n < x (q + 1), and 4 x (q + 1) ≤ (x + q + 1)^2
 have c:4*(x*(q+1))≤(x+(q+1))*(x+(q+1)):=by
  rcases Nat.le_total x (q+1) with h | h
  ·obtain ⟨d,hd⟩:∃ d,q+1=x+d:=⟨q+1-x,by omega⟩;rw [hd];have e:(x+(x+d))*(x+(x+d))=4*(x*(x+d))+d*d:=by grind
   omega
  ·obtain ⟨d,hd⟩:∃ d,x=(q+1)+d:=⟨x-(q+1),by omega⟩;rw [hd];have e:(q+1+d+(q+1))*(q+1+d+(q+1))=4*((q+1+d)*(q+1))+d*d:=by grind
   omega
 have d:(x+(q+1))*(x+(q+1))≤(2*(y+1))*(2*(y+1)):=Nat.mul_le_mul (by omega) (by omega);have e:(2*(y+1))*(2*(y+1))=4*((y+1)*(y+1)):=by grind
 omega
theorem Aet (n x:Nat)(hx:0<x)(h:x≤(x+n/x)/2):x*x≤n:=by
 have:x≤n/x:=by omega
 rwa [Nat.le_div_iff_mul_le hx] at this
theorem Aae (n x:Nat)(hx:0<x)(hn:0<n):0<(x+n/x)/2:=by
 have:=Uh n x hx;by_cases h:(x+n/x)/2=0
 ·rw [h] at this;omega
 ·exact Nat.pos_of_ne_zero h
theorem Vp (n:Nat)(hn:0<n):∀ f x,0<x→x≤f→n<(x+1)*(x+1)→Rk n f x*Rk n f x≤n∧n<(Rk n f x+1)*(Rk n f x+1)
 | 0,x,hx,hf,_=>by omega
 | f + 1, x, hx, hf, h => by
   unfold Rk;by_cases hd:x≤(x+n/x)/2
   ·rw [if_pos hd];exact ⟨Aet n x hx hd,h⟩
   ·rw [if_neg hd];exact Vp n hn f _ (Aae n x hx hn) (by omega) (Uh n x hx)
theorem Ady (n:Nat):n<(2^((bl n+1)/2)+1)*(2^((bl n+1)/2)+1):=by
 have a:=Bd n;have b:2^bl n≤2^((bl n+1)/2+(bl n+1)/2):=Nat.pow_le_pow_right (by decide) (by omega);rw [Nat.pow_add] at b;have c:=Nat.mul_le_mul (Nat.le_succ (2^((bl n+1)/2))) (Nat.le_succ (2^((bl n+1)/2)));exact Nat.lt_of_lt_of_le a (Nat.le_trans b c)
theorem Mo (n:Nat):isq n*isq n≤n∧n<(isq n+1)*(isq n+1):=by
 unfold isq;by_cases h:n=0
 ·subst h;simp
 ·rw [if_neg h];exact Vp n (by omega) _ _ (Nat.pow_pos (by decide)) (Nat.le_refl _) (Ady n)
end Go.Proofs.YtabjjdicffcolaaGreatDoor
namespace Go.Proofs.YtabjjdicffcolaaGreatDoor
def D5 (d:Dy):Dy:=if d.m=0 then d else ⟨!d.neg,d.m,d.e⟩
theorem Xk (d:Dy):(D5 d).q=-d.q:=by
 unfold D5 Dy.q;by_cases h:d.m=0
 ·rw [if_pos h,h,N2,Rat.zero_mul];rfl
 ·rw [if_neg h];simp only [Xs,Rat.neg_mul]
theorem Hh {d:Dy}(h:d.Ok):(D5 d).Ok:=by
 unfold D5;by_cases h0:d.m=0
 ·rw [if_pos h0];exact h
 ·rw [if_neg h0];exact ⟨h.len,fun hz=>absurd hz h0,h.odd,h.lo,h.hi⟩
def Kw (a b:Dy):Outc Dy :=
 if ¬a.e=b.e∧4097-(bl a.m:Int)<a.e-b.e then bad 2
 else if a.neg=b.neg then Bw a.neg (a.m*2^(a.e-b.e).toNat+b.m) b.e
 else if b.m≤a.m*2^(a.e-b.e).toNat then Bw a.neg (a.m*2^(a.e-b.e).toNat-b.m) b.e
 else Bw b.neg (b.m-a.m*2^(a.e-b.e).toNat) b.e
def Dz (x y:Dy):Outc Dy :=
 if x.m=0 then good y else if y.m=0 then good x else if x.e<y.e then Kw y x else Kw x y
theorem Ah5 {a b:Dy}(h:b.e≤a.e)(hk:(Kw a b).k=0):(Kw a b).v.q=a.q+b.q:=by
 have e1:sq a.neg (a.m*2^(a.e-b.e).toNat)*pw b.e=a.q:=by
  unfold Dy.q;have:=H3 a.m h;unfold sq;cases a.neg
  ·simp only [Bool.false_eq_true,if_false];exact this.symm
  ·simp only [if_true,Rat.neg_mul];rw [this]
 unfold Kw at *;by_cases h1:¬a.e=b.e∧4097-(bl a.m:Int)<a.e-b.e
 ·rw [if_pos h1] at hk;exact absurd hk (by decide)
 ·rw [if_neg h1] at hk ⊢;generalize a.m*2^(a.e-b.e).toNat=X at *;by_cases h2:a.neg=b.neg
  ·rw [if_pos h2] at hk ⊢;rw [Lh hk,←e1];unfold Dy.q;rw [h2];unfold sq;cases b.neg
   ·simp only [Bool.false_eq_true,if_false,Rat.natCast_add,Rat.add_mul]
   ·simp only [if_true,Rat.natCast_add,Rat.neg_mul,Rat.add_mul];grind
  ·rw [if_neg h2] at hk ⊢;have e2:b.neg=!a.neg:=by cases ha:a.neg<;>cases hb:b.neg<;>simp_all
   by_cases h3:b.m≤X
   ·rw [if_pos h3] at hk ⊢;rw [Lh hk,←e1];unfold Dy.q;rw [e2,Xs];obtain ⟨c,rfl⟩:∃ c,X=b.m+c:=⟨X-b.m,by omega⟩;rw [Nat.add_sub_cancel_left];unfold sq;cases a.neg
    ·simp only [Bool.false_eq_true,if_false,Rat.natCast_add,Rat.add_mul,Rat.neg_mul];grind
    ·simp only [if_true,Rat.natCast_add,Rat.neg_mul,Rat.add_mul];grind
   ·rw [if_neg h3] at hk ⊢;rw [Lh hk,←e1];unfold Dy.q;rw [e2,Xs];obtain ⟨c,hc⟩:∃ c,b.m=X+c:=⟨b.m-X,by omega⟩;rw [hc,Nat.add_sub_cancel_left];unfold sq;cases a.neg
    ·simp only [Bool.false_eq_true,if_false,Rat.natCast_add,Rat.neg_mul];grind
    ·simp only [if_true,Rat.natCast_add,Rat.neg_mul];grind
theorem Pb {d:Dy}(h:d.m=0):d.q=0:=by unfold Dy.q;rw [h,N2,Rat.zero_mul]
theorem Pa {x y:Dy}(hk:(Dz x y).k=0):(Dz x y).v.q=x.q+y.q:=by
 unfold Dz at *;by_cases h0:x.m=0
 ·rw [if_pos h0,Pb h0,Rat.zero_add];rfl
 ·rw [if_neg h0] at hk ⊢;by_cases h1:y.m=0
  ·rw [if_pos h1,Pb h1,Rat.add_zero];rfl
  ·rw [if_neg h1] at hk ⊢;by_cases h2:x.e<y.e
   ·rw [if_pos h2] at hk ⊢;rw [Ah5 (by omega) hk,Rat.add_comm]
   ·rw [if_neg h2] at hk ⊢;exact Ah5 (by omega) hk
def Outc.Ok (o:Outc Dy):Prop:=o.v.Ok∧(o.k≠0→o.v=dz)
theorem Pj {d:Dy}(h:d.Ok):(good d).Ok:=⟨h,fun h=>absurd rfl h⟩
theorem Mh (k:Int):(bad k).Ok:=⟨Kg,fun _=>rfl⟩
theorem Xv (a b:Dy):(Kw a b).Ok:=by
 unfold Kw;split
 ·exact Mh _
 ·split
  ·exact Fm _ _ _
  ·split<;>exact Fm _ _ _
theorem J6 {x y:Dy}(hx:x.Ok)(hy:y.Ok):(Dz x y).Ok:=by
 unfold Dz;split
 ·exact Pj hy
 ·split
  ·exact Pj hx
  ·split<;>exact Xv _ _
def Bq (x y:Dy):Outc Dy:=Bw (x.neg != y.neg) (x.m*y.m) (x.e+y.e)
theorem Ls {x y:Dy}(hk:(Bq x y).k=0):(Bq x y).v.q=x.q*y.q:=by
 unfold Bq at *;rw [Lh hk,Anh,Fb];unfold Dy.q;grind
theorem Jd (x y:Dy):(Bq x y).Ok:=Fm _ _ _
def Gw (d:Dy) (n:Int):Outc Dy :=
 if d.m=0 then good d else if 2097152<n∨n < -2097152 then bad 3 else Bw d.neg d.m (d.e+n)
theorem Ahu {d:Dy}{n:Int}(hk:(Gw d n).k=0):(Gw d n).v.q=d.q*pw n:=by
 unfold Gw at *;by_cases h:d.m=0
 ·rw [if_pos h];simp only [good];rw [Pb h,Rat.zero_mul]
 ·rw [if_neg h] at hk ⊢;by_cases h1:2097152<n∨n < -2097152
  ·rw [if_pos h1] at hk;exact absurd hk (by decide)
  ·rw [if_neg h1] at hk ⊢;rw [Lh hk,Fb,←Rat.mul_assoc];rfl
theorem V7 {d:Dy}(h:d.Ok)(n:Int):(Gw d n).Ok:=by
 unfold Gw;split
 ·exact Pj h
 ·split
  ·exact Mh _
  ·exact Fm _ _ _
def Cw (d:Dy) (p:Nat) (up:Bool):Outc Dy:=Iu d.neg d.m d.e false p up
theorem Hd (d:Dy)(p:Nat)(up:Bool):(Cw d p up).Ok:=Fm _ _ _
theorem Sw {d:Dy}{p:Nat}{up:Bool}(hp:1≤p)(hk:(Cw d p up).k=0):Fq up p d.q (Cw d p up).v.q:=by
 have h:=Yl (neg:=d.neg) (m:=d.m) (e:=d.e) (rest:=false) (p:=p) (up:=up) (M:=d.m) (by simp [Mag]) (by simp) hp hk;have e:(if d.neg then -(d.m:Rat) else d.m)*pw d.e=d.q:=rfl;rw [e] at h;exact h
def Bu (a b:Dy) (p:Nat):Nat:=p+1+bl b.m-bl a.m
def Bh (a b:Dy) (p:Nat) (up:Bool):Outc Dy :=
 Iu (a.neg != b.neg) (a.m*2^Bu a b p/b.m) (a.e-b.e-Bu a b p) (decide (¬a.m*2^Bu a b p%b.m=0)) p up
theorem Zb (n m:Nat)(h:m≠0):Mag (n/m) (decide (¬n%m=0)) ((n:Rat)/m):=by
 have hm:0<(m:Rat):=Xi h;have h1:=Nat.div_add_mod n m;have h2:=Nat.mod_lt n (Nat.pos_of_ne_zero h);rw [Nat.mul_comm] at h1;by_cases hr:n%m=0
 ·have:decide (¬n%m=0)=false:=by simp [hr]
  rw [this];simp only [Mag,Bool.false_eq_true,if_false];rw [hr,Nat.add_zero] at h1;have h3:(n:Rat)=((n/m:Nat):Rat)*m:=by rw [←Rat.natCast_mul,h1]
  rw [h3];generalize ((n/m:Nat):Rat)=A;rw [Rat.mul_div_cancel (by grind)]
 ·have:decide (¬n%m=0)=true:=by simp [hr]
  rw [this];simp only [Mag,if_true];rw [Rat.lt_div_iff hm,Rat.div_lt_iff hm,←Rat.natCast_mul];have e:((n/m:Nat):Rat)+1=((n/m+1:Nat):Rat):=by rw [Rat.natCast_add];rfl
  rw [e,←Rat.natCast_mul,Cx,Cx,Nat.add_mul,Nat.one_mul];omega
theorem Px (a b p:Nat)(ha:a≠0)(hb:b≠0)(k:Nat)(hk:p+1+bl b≤bl a+k):p<bl (a*2^k/b):=by
 apply Agl;rw [Nat.le_div_iff_mul_le (Nat.pos_of_ne_zero hb)];have h1:=Dl a ha;have h2:=Bd b;have h3:2^p*b≤2^p*2^bl b:=Nat.mul_le_mul_left _ (by omega);have h4:2^(bl a-1)*2^k≤a*2^k:=Nat.mul_le_mul_right _ h1;rw [←Nat.pow_add] at h3 h4;refine Nat.le_trans h3 (Nat.le_trans (Nat.pow_le_pow_right (by decide) ?_) h4);have:=Co a ha;omega
theorem Anf (s t:Bool)(x:Rat)(m n:Nat)(hx:(m:Rat)=x*n):(if (s != t) then -x else x)*sq t n=sq s m:=by
 cases s<;>cases t<;>simp [sq,hx]<;>grind
theorem Nv {a b:Dy}{p:Nat}{up:Bool}(hp:1≤p)(hb:b.m≠0)(hk:(Bh a b p up).k=0):Fq up p (a.q/b.q) (Bh a b p up).v.q:=by
 unfold Bh at *;have hm:=Zb (a.m*2^Bu a b p) b.m hb;have h:=Yl hm ?_ hp hk
 ·have e:(if (a.neg != b.neg) then -(((a.m*2^Bu a b p:Nat):Rat)/b.m) else ((a.m*2^Bu a b p:Nat):Rat)/b.m)*pw (a.e-b.e-Bu a b p)=a.q/b.q:=by
   have hbq:b.q≠0:=by
    have:=Ts hb b.e;unfold Dy.q sq;cases b.neg<;>simp<;>grind
   have hb0:=Xi hb;rw [Rat.div_def a.q];have key:(if (a.neg != b.neg) then -(((a.m*2^Bu a b p:Nat):Rat)/b.m) else ((a.m*2^Bu a b p:Nat):Rat)/b.m)*pw (a.e-b.e-Bu a b p)*b.q=a.q:=by
    unfold Dy.q;have h1:=Anf a.neg b.neg (((a.m*2^Bu a b p:Nat):Rat)/b.m) (a.m*2^Bu a b p) b.m (by rw [Rat.div_mul_cancel (by grind)]);have h2:pw (a.e-b.e-Bu a b p)*pw b.e*pw (Bu a b p)=pw a.e:=by
     rw [←Fb,←Fb];congr 1;omega
    have h3:sq a.neg (a.m*2^Bu a b p)=sq a.neg a.m*pw (Bu a b p):=by
     rw [Ix];unfold sq;cases a.neg<;>simp [Rat.natCast_mul,Rat.neg_mul]
    rw [h3] at h1;generalize (if (a.neg != b.neg) then -(((a.m*2^Bu a b p:Nat):Rat)/b.m) else ((a.m*2^Bu a b p:Nat):Rat)/b.m)=A at *;generalize sq a.neg a.m=B at *;generalize sq b.neg b.m=C at *;have h4:=Hi (Bu a b p);have h5:=Aoq (Bu a b p);generalize pw (a.e-b.e-Bu a b p)=D at *;generalize pw (Bu a b p)=E at *;generalize pw b.e=F at *;generalize pw a.e=G at *;have h6:A*D*(C*F)=B*(D*F*E):=by
     have:A*D*(C*F)=(A*C)*(D*F):=by grind
     rw [this,h1];grind
    rw [h6,h2]
   rw [←key,Rat.mul_assoc,Rat.mul_inv_cancel _ hbq,Rat.mul_one]
  rw [e] at h;exact h
 ·intro hr;have ha:a.m≠0:=by
   intro ha;rw [ha,Nat.zero_mul,Nat.zero_mod] at hr;simp at hr
  exact Px a.m b.m p ha hb (Bu a b p) (by unfold Bu;omega)
theorem Es (a b:Dy)(p:Nat)(up:Bool):(Bh a b p up).Ok:=Fm _ _ _
end Go.Proofs.YtabjjdicffcolaaGreatDoor
namespace Go.Proofs.YtabjjdicffcolaaGreatDoor
def Kd (d:Dy) (p:Nat):Nat:=2*p+2-bl d.m
def M5 (d:Dy) (p:Nat):Nat:=if (d.e-Kd d p)%2=0 then Kd d p else Kd d p+1
def Il (d:Dy) (p:Nat) (up:Bool):Outc Dy :=
 Iu false (isq (d.m*2^M5 d p)) ((d.e-M5 d p)/2) (decide (¬isq (d.m*2^M5 d p)*isq (d.m*2^M5 d p)=d.m*2^M5 d p)) p up
theorem Ty (d:Dy)(p:Nat)(up:Bool):(Il d p up).Ok:=Fm _ _ _
theorem Tz (d:Dy)(p:Nat):(d.e-M5 d p)%2=0:=by
 unfold M5;by_cases h:(d.e-Kd d p)%2=0
 ·rw [if_pos h];exact h
 ·rw [if_neg h];omega
theorem Ahj (d:Dy)(p:Nat):Kd d p≤M5 d p:=by
 unfold M5;split<;>omega
structure Ol (p:Nat) (x d:Rat):Prop where
 fits:Fits p d
 nonneg:0≤d
 le:d*d≤x
 best:∀ y,Fits p y→0≤y→y*y≤x→y≤d
structure Si (p:Nat) (x d:Rat):Prop where
 fits:Fits p d
 nonneg:0≤d
 le:x≤d*d
 best:∀ y,Fits p y→0≤y→x≤y*y→d≤y
def U8 (up:Bool) (p:Nat) (x d:Rat):Prop:=if up then Si p x d else Ol p x d
theorem Wa {a b:Rat}(ha:0≤a)(h:a≤b):a*a≤b*b:=by
 have h1:=Rat.mul_le_mul_of_nonneg_left h ha;have h2:=Rat.mul_le_mul_of_nonneg_right h (by grind:0≤b);grind
theorem Alp {a b:Rat}(hb:0≤b)(h:a*a<b*b):a<b:=by
 by_cases hc:a<b
 ·exact hc
 ·have:=Wa hb (by grind:b≤a);grind
theorem Agm {a b:Rat}(ha:0≤a)(h:a<b):a*a<b*b:=by
 have h1:=Wa ha (by grind:a≤b);by_cases hc:a*a<b*b
 ·exact hc
 ·exfalso;have h2:a*a=b*b:=by grind
  have h3:=(Rat.mul_lt_mul_right (by grind:0<b)).2 h;have h4:=Rat.mul_le_mul_of_nonneg_left (by grind:a≤b) ha;grind
theorem Aiu (x y:Rat):∃ M,x<M∧M<x+1∧(y<x+1→y≤M):=by
 by_cases h:x<y∧y<x+1
 ·exact ⟨y,h.1,h.2,fun _=>Rat.le_refl⟩
 ·refine ⟨x+1/2,by grind,by grind,fun hy=>?_⟩;have:¬x<y:=fun hx=>h ⟨hx,hy⟩
  grind
theorem Afc (x y:Rat):∃ M,x<M∧M<x+1∧(x<y→M≤y):=by
 by_cases h:x<y∧y<x+1
 ·exact ⟨y,h.1,h.2,fun _=>Rat.le_refl⟩
 ·refine ⟨x+1/2,by grind,by grind,fun hx=>?_⟩;have:¬y<x+1:=fun hy=>h ⟨hx,hy⟩
  grind
theorem Gs (n:Nat):(0:Rat)≤n:=Cn.2 (Nat.zero_le n)
theorem U4 {m x:Nat}{p:Nat}(h1:x*x≤m)(h2:m<(x+1)*(x+1))(h0:¬x*x=m→p<bl x)(hp:1≤p) :
 Ol p m ((Eb x (decide (¬x*x=m)) p false:Rat)*pw ((bl x-p:Nat):Int)):=by
 have q1:((x:Rat))*x≤m:=by rw [←Rat.natCast_mul];exact Cn.2 h1
 have q2:(m:Rat)<(x+1)*(x+1):=by
  have:=Cx.2 h2;rw [Rat.natCast_mul,Rat.natCast_add] at this;exact this
 have hx0:=Gs x;have hnn:(0:Rat)≤(Eb x (decide (¬x*x=m)) p false:Rat)*pw ((bl x-p:Nat):Int):=Rat.mul_nonneg (Gs _) (Dg _);by_cases he:x*x=m
 ·have hd:decide (¬x*x=m)=false:=by simp [he]
  rw [hd] at hnn ⊢;have k:=Nf (m:=x) (rest:=false) (p:=p) (M:=x) (by simp [Mag]) (by simp) hp;have q3:(m:Rat)=x*x:=by rw [←Rat.natCast_mul,he]
  rw [q3];exact ⟨k.fits,hnn,Wa hnn k.le,fun y hy hy0 hyx=>k.best y hy (by
   by_cases hc:y≤x
   ·exact hc
   ·have:=Agm hx0 (by grind:(x:Rat)<y);grind)⟩
 ·have hd:decide (¬x*x=m)=true:=by simp [he]
  rw [hd] at hnn ⊢;have k:=fun M (a:(x:Rat)<M) (b:M<x+1)=>Nf (m:=x) (rest:=true) (p:=p) (M:=M) (by simp only [Mag,if_true];exact ⟨a,b⟩) (fun _=>h0 he) hp
  generalize (Eb x true p false:Rat)*pw ((bl x-p:Nat):Int)=d at *;have k1:=k (x+1/2) (by grind) (by grind);have hdx:d≤x:=by
   by_cases hc:d≤x
   ·exact hc
   ·exfalso;have k2:=k (if d<x+1/2 then (x+d)/2 else x+1/4) (by split<;>grind) (by split<;>grind);have:=k2.le;split at this<;>grind
  refine ⟨k1.fits,hnn,Rat.le_trans (Wa hnn hdx) q1,fun y hy hy0 hyx=>?_⟩;obtain ⟨M,a,b,c⟩:=Aiu x y;exact (k M a b).best y hy (c (Alp (by grind) (by grind)))
theorem Zu {m x:Nat}{p:Nat}(h1:x*x≤m)(h2:m<(x+1)*(x+1))(h0:¬x*x=m→p<bl x)(hp:1≤p) :
 Si p m ((Eb x (decide (¬x*x=m)) p true:Rat)*pw ((bl x-p:Nat):Int)):=by
 have q1:((x:Rat))*x≤m:=by rw [←Rat.natCast_mul];exact Cn.2 h1
 have q2:(m:Rat)<(x+1)*(x+1):=by
  have:=Cx.2 h2;rw [Rat.natCast_mul,Rat.natCast_add] at this;exact this
 have hx0:=Gs x;have hnn:(0:Rat)≤(Eb x (decide (¬x*x=m)) p true:Rat)*pw ((bl x-p:Nat):Int):=Rat.mul_nonneg (Gs _) (Dg _);by_cases he:x*x=m
 ·have hd:decide (¬x*x=m)=false:=by simp [he]
  rw [hd] at hnn ⊢;have k:=R5 (m:=x) (rest:=false) (p:=p) (M:=x) (by simp [Mag]) (by simp) hp;have q3:(m:Rat)=x*x:=by rw [←Rat.natCast_mul,he]
  rw [q3];exact ⟨k.fits,hnn,Wa hx0 k.le,fun y hy hy0 hyx=>k.best y hy (by
   by_cases hc:(x:Rat)≤y
   ·exact hc
   ·have:=Agm hy0 (by grind:y<(x:Rat));grind)⟩
 ·have hd:decide (¬x*x=m)=true:=by simp [he]
  rw [hd] at hnn ⊢;have k:=fun M (a:(x:Rat)<M) (b:M<x+1)=>R5 (m:=x) (rest:=true) (p:=p) (M:=M) (by simp only [Mag,if_true];exact ⟨a,b⟩) (fun _=>h0 he) hp
  have q4:(x:Rat)*x<m:=by rw [←Rat.natCast_mul];exact Cx.2 (by omega)
  generalize (Eb x true p true:Rat)*pw ((bl x-p:Nat):Int)=d at *;have k1:=k (x+1/2) (by grind) (by grind);have hdx:(x:Rat)+1≤d:=by
   by_cases hc:(x:Rat)+1≤d
   ·exact hc
   ·exfalso;have k2:=k (if x+1/2<d then (x+1+d)/2 else x+3/4) (by split<;>grind) (by split<;>grind);have:=k2.le;split at this<;>grind
  refine ⟨k1.fits,hnn,?_,fun y hy hy0 hyx=>?_⟩
  ·have:=Wa (by grind:(0:Rat)≤x+1) hdx;grind
  ·obtain ⟨M,a,b,c⟩:=Afc x y;exact (k M a b).best y hy (c (Alp hy0 (by grind)))
theorem Akk (a p:Nat)(ha:a≠0)(k:Nat)(hk:2*p+2≤bl a+k):p<bl (isq (a*2^k)):=by
 apply Agl;have h1:=Dl a ha;have h4:2^(bl a-1)*2^k≤a*2^k:=Nat.mul_le_mul_right _ h1;rw [←Nat.pow_add] at h4;have h5:2^(2*p)≤a*2^k:=Nat.le_trans (Nat.pow_le_pow_right (by decide) (by have:=Co a ha;omega)) h4;have h6:2^(2*p)=2^p*2^p:=by rw [←Nat.pow_add];congr 1;omega
 have h7:=(Mo (a*2^k)).2;have h8:=Ahx (a:=2^p) (b:=isq (a*2^k)+1) (by omega);omega
theorem Vx {d:Dy}{p:Nat}{up:Bool}(hp:1≤p)(hn:d.neg=false)(hk:(Il d p up).k=0):U8 up p d.q (Il d p up).v.q:=by
 unfold Il Iu at *;rw [Lh hk];have hev:=Tz d p;have hle:=Ahj d p;have hk0:2*p+2≤bl d.m+Kd d p:=by unfold Kd;omega
 clear hk;generalize M5 d p=k at *;obtain ⟨s1,s2⟩:=Mo (d.m*2^k);have h0:¬isq (d.m*2^k)*isq (d.m*2^k)=d.m*2^k→p<bl (isq (d.m*2^k)):=by
  intro hne;have ha:d.m≠0:=by
   intro ha;rw [ha,Nat.zero_mul] at hne;exact hne rfl
  exact Akk d.m p ha k (by omega)
 generalize isq (d.m*2^k)=x at *;have hq:d.q=((d.m*2^k:Nat):Rat)*(pw ((d.e-k)/2)*pw ((d.e-k)/2)):=by
  unfold Dy.q;rw [hn,←Fb];have:(d.e-k)/2+(d.e-k)/2=d.e-k:=by omega
  rw [this,Rat.natCast_mul,←Ix,Rat.mul_assoc,←Fb];simp only [sq,Bool.false_eq_true,if_false]
  congr 2;omega
 have hup:(up != false)=up:=by cases up<;>rfl
 rw [hq,hup];generalize (d.e-k)/2=h at *;have hh:=Hi h;have hh2:=Rat.mul_pos hh hh;have hc:=Oz h;have e0:sq false (Eb x (decide (¬x*x=d.m*2^k)) p up)*pw (h+((bl x-p:Nat):Int))=((Eb x (decide (¬x*x=d.m*2^k)) p up:Rat)*pw ((bl x-p:Nat):Int))*pw h:=by
  simp only [sq,Bool.false_eq_true,if_false];rw [Fb,Rat.mul_comm (pw h),Rat.mul_assoc]
 rw [e0];have ypos:∀ y:Rat,0≤y→0≤y*pw (-h):=fun y hy=>Rat.mul_nonneg hy (Dg _)
 have yy:∀ y:Rat,(y*pw (-h))*(y*pw (-h))*(pw h*pw h)=y*y:=by
  intro y;have:(y*pw (-h))*(y*pw (-h))*(pw h*pw h)=(y*y)*((pw h*pw (-h))*(pw h*pw (-h))):=by grind
  rw [this,hc];grind
 unfold U8;cases up
 ·simp only [Bool.false_eq_true,if_false];have k1:=U4 s1 s2 h0 hp;generalize (Eb x (decide (¬x*x=d.m*2^k)) p false:Rat)*pw ((bl x-p:Nat):Int)=r at *;refine ⟨k1.fits.pw h,Rat.mul_nonneg k1.nonneg (Dg h),?_,fun y hy hy0 hyx=>?_⟩
  ·have:=Rat.mul_le_mul_of_nonneg_right k1.le (Rat.le_of_lt hh2);grind
  ·have:=k1.best (y*pw (-h)) (hy.pw (-h)) (ypos y hy0) (by
    apply Rat.le_of_mul_le_mul_right _ hh2;rw [yy];exact hyx)
   rw [←G5 h,Nt] at this;exact this
 ·simp only [if_true];have k1:=Zu s1 s2 h0 hp;generalize (Eb x (decide (¬x*x=d.m*2^k)) p true:Rat)*pw ((bl x-p:Nat):Int)=r at *;refine ⟨k1.fits.pw h,Rat.mul_nonneg k1.nonneg (Dg h),?_,fun y hy hy0 hyx=>?_⟩
  ·have:=Rat.mul_le_mul_of_nonneg_right k1.le (Rat.le_of_lt hh2);grind
  ·have:=k1.best (y*pw (-h)) (hy.pw (-h)) (ypos y hy0) (by
    apply Rat.le_of_mul_le_mul_right _ hh2;rw [yy];exact hyx)
   rw [←G5 h,Nt] at this;exact this
end Go.Proofs.YtabjjdicffcolaaGreatDoor
namespace Go.Proofs.YtabjjdicffcolaaGreatDoor
def Mc (a b:Dy):Int :=
 if (bl a.m:Int)+a.e<bl b.m+b.e then -1 else if (bl b.m:Int)+b.e<bl a.m+a.e then 1
 else E4 (a.m*2^(a.e-min a.e b.e).toNat) (b.m*2^(b.e-min a.e b.e).toNat)
theorem Xe {m:Nat}(h:m≠0)(e:Int):pw (bl m+e-1)≤(m:Rat)*pw e∧(m:Rat)*pw e<pw (bl m+e):=by
 have h1:=Dl m h;have h2:=Bd m;have h3:=Co m h;constructor
 ·have e1:pw (bl m+e-1)=((2^(bl m-1):Nat):Rat)*pw e:=by
   rw [←Ix,←Fb];congr 1;omega
  rw [e1,G5,Cn];exact h1
 ·have e1:pw (bl m+e)=((2^bl m:Nat):Rat)*pw e:=by
   rw [←Ix,←Fb]
  rw [e1,Vv,Cx];exact h2
theorem Lc {x y:Rat}(h:x<y):Ci x y=-1:=by unfold Ci;rw [if_pos h]
theorem On {x y:Rat}(h:y<x):Ci x y=1:=by unfold Ci;rw [if_neg (by grind),if_neg (by grind)]
theorem Ac7 {a b:Dy}(ha:a.m≠0)(hb:b.m≠0):Mc a b=Ci ((a.m:Rat)*pw a.e) ((b.m:Rat)*pw b.e):=by
 obtain ⟨a1,a2⟩:=Xe ha a.e;obtain ⟨b1,b2⟩:=Xe hb b.e;unfold Mc;by_cases h1:(bl a.m:Int)+a.e<bl b.m+b.e
 ·rw [if_pos h1,Lc];have:=Ga (show (bl a.m:Int)+a.e≤bl b.m+b.e-1 by omega);grind
 ·rw [if_neg h1];by_cases h2:(bl b.m:Int)+b.e<bl a.m+a.e
  ·rw [if_pos h2,On];have:=Ga (show (bl b.m:Int)+b.e≤bl a.m+a.e-1 by omega);grind
  ·rw [if_neg h2];exact (Afo a.m b.m (Int.min_le_left _ _) (Int.min_le_right _ _)).symm
def sg (d:Dy):Int:=if d.m=0 then 0 else if d.neg then -1 else 1
theorem Aby {d:Dy}(h:sg d=1):0<d.q∧d.q=(d.m:Rat)*pw d.e∧d.m≠0:=by
 unfold sg at h;by_cases h0:d.m=0
 ·rw [if_pos h0] at h;exact absurd h (by decide)
 ·rw [if_neg h0] at h;unfold Dy.q sq;cases hn:d.neg
  ·simp only [Bool.false_eq_true,if_false];exact ⟨Ts h0 _,trivial,h0⟩
  ·rw [hn] at h;exact absurd h (by decide)
theorem Ua {d:Dy}(h:sg d=-1):d.q<0∧d.q=-((d.m:Rat)*pw d.e)∧d.m≠0:=by
 unfold sg at h;by_cases h0:d.m=0
 ·rw [if_pos h0] at h;exact absurd h (by decide)
 ·rw [if_neg h0] at h;unfold Dy.q sq;cases hn:d.neg
  ·rw [hn] at h;exact absurd h (by decide)
  ·simp only [if_true,Rat.neg_mul];have:=Ts h0 d.e;exact ⟨by grind,trivial,h0⟩
theorem Xr {d:Dy}(h:sg d=0):d.q=0:=by
 unfold sg at h;by_cases h0:d.m=0
 ·exact Pb h0
 ·rw [if_neg h0] at h;split at h<;>exact absurd h (by decide)
theorem Ks (d:Dy):sg d=-1∨sg d=0∨sg d=1:=by
 unfold sg;split
 ·exact .inr (.inl rfl)
 ·split
  ·exact .inl rfl
  ·exact .inr (.inr rfl)
theorem Ahs (d:Dy):sg d=Ci d.q 0:=by
 rcases Ks d with h | h | h
 ·rw [h,Lc (Ua h).1]
 ·rw [h,Xr h,Vd]
 ·rw [h,On (Aby h).1]
theorem Afp {a b:Dy}(h:sg a<sg b):Ci a.q b.q=-1:=by
 apply Lc;rw [Ahs,Ahs] at h;have h1:=@Rz a.q 0;have h2:=@Acb b.q 0;have h3:=@Jc a.q 0;have h4:=@Ry b.q 0;rcases Ks a with ha | ha | ha<;>rcases Ks b with hb | hb | hb<;>rw [Ahs] at ha hb<;>rw [ha,hb] at h<;>first | (exact absurd h (by decide)) | skip
 all_goals (rw [ha] at h1 h3;rw [hb] at h2 h4;simp at h1 h2 h3 h4;grind)
theorem Amc {a b:Dy}(h:sg b<sg a):Ci a.q b.q=1:=by
 have h1:=Afp h;have h2:=Yh b.q a.q;have h3:=@Rz b.q a.q;rw [h1] at h3;exact On (h3.1 (by decide))
theorem Afq {a b:Dy}(h:sg a=sg b):Ci a.q b.q=if sg a=0 then 0 else sg a*Mc a b:=by
 rcases Ks a with ha | ha | ha
 ·rw [ha,if_neg (by decide)];obtain ⟨_,a1,a2⟩:=Ua ha;obtain ⟨_,b1,b2⟩:=Ua (h▸ha);rw [a1,b1,Yh,Ac7 a2 b2];omega
 ·rw [ha,if_pos rfl,Xr ha,Xr (h▸ha),Vd]
 ·rw [ha,if_neg (by decide)];obtain ⟨_,a1,a2⟩:=Aby ha;obtain ⟨_,b1,b2⟩:=Aby (h▸ha);rw [a1,b1,Ac7 a2 b2];omega
structure Iv where
 lo:Dy
 hi:Dy
def iz:Iv:=⟨dz,dz⟩
structure RawI where
 lo:Raw
 hi:Raw
def Iv.raw (a:Iv):RawI:=⟨a.lo.raw,a.hi.raw⟩
structure Iv.Ok (a:Iv):Prop where
 lo:a.lo.Ok
 hi:a.hi.Ok
 le:a.lo.q≤a.hi.q
def Hr (a:RawI):Bool:=Hn a.lo&&Hn a.hi&&decide (Ci a.lo.dy.q a.hi.dy.q≤0)
theorem Dv {a:Iv}(h:a.Ok):Hr a.raw=true:=by
 unfold Hr Iv.raw;simp only [h.lo.may,h.hi.may,Dy.raw_dy,Bool.true_and,decide_eq_true_eq];exact Jc.2 h.le
def Outc.bind {α β:Type} (o:Outc α) (z:β) (f:α→Outc β):Outc β:=if o.k=0 then f o.v else ⟨z,o.k⟩
theorem Outc.bind_ok {α β:Type}{o:Outc α}{z:β}{f:α→Outc β}(h:(o.bind z f).k=0):o.k=0∧o.bind z f=f o.v:=by
 unfold Outc.bind at *;by_cases hk:o.k=0
 ·rw [if_pos hk] at h ⊢;exact ⟨hk,rfl⟩
 ·rw [if_neg hk] at h;exact absurd h hk
theorem Outc.bind_of {α β:Type}{o:Outc α}(z:β)(f:α→Outc β)(h:o.k=0):o.bind z f=f o.v:=by unfold Outc.bind;rw [if_pos h]
def Gg (lo hi:Outc Dy):Outc Iv:=lo.bind iz fun l=>hi.bind iz fun h=>⟨⟨l,h⟩,0⟩
theorem Ni {lo hi:Outc Dy}(h:(Gg lo hi).k=0):lo.k=0∧hi.k=0∧(Gg lo hi).v=⟨lo.v,hi.v⟩:=by
 unfold Gg at *;obtain ⟨h1,h2⟩:=Outc.bind_ok h;rw [h2] at h ⊢;obtain ⟨h3,h4⟩:=Outc.bind_ok h;rw [h4];exact ⟨h1,h3,rfl⟩
def Qs (o:Outc Dy) (p:Nat) (up:Bool):Outc Dy:=o.bind dz fun d=>Cw d p up
def Ef (a b:Iv) (p:Nat):Outc Iv:=Gg (Qs (Dz a.lo b.lo) p false) (Qs (Dz a.hi b.hi) p true)
def Ho (a b:Iv) (p:Nat):Outc Iv:=Gg (Qs (Dz a.lo (D5 b.hi)) p false) (Qs (Dz a.hi (D5 b.lo)) p true)
def Mv (a:Iv) (p:Nat):Outc Iv:=Gg (Cw (D5 a.hi) p false) (Cw (D5 a.lo) p true)
def Bv (d:Dy):List Dy→Dy
 | []=>d
 | x::l=>Bv (if Ci x.q d.q<0 then x else d) l
def Ax (d:Dy):List Dy→Dy
 | []=>d
 | x::l=>Ax (if 0<Ci x.q d.q then x else d) l
def Mn (a b c d:Outc Dy) (f:Dy→Dy→Dy→Dy→Outc Iv):Outc Iv :=
 a.bind iz fun x=>b.bind iz fun y=>c.bind iz fun z=>d.bind iz fun u=>f x y z u
def Cg (a b:Iv) (p:Nat):Outc Iv :=
 Mn (Bq a.lo b.lo) (Bq a.lo b.hi) (Bq a.hi b.lo) (Bq a.hi b.hi) fun x y z u =>
  Gg (Cw (Bv x [x,y,z,u]) p false) (Cw (Ax x [x,y,z,u]) p true)
def Di (b:Iv):Bool:=decide (Ci b.lo.q 0≤0)&&decide (Ci 0 b.hi.q≤0)
def Da (a b:Iv) (p:Nat):Outc Iv :=
 if Di b then ⟨iz,4⟩ else
 Mn (Bh a.lo b.lo p false) (Bh a.lo b.hi p false) (Bh a.hi b.lo p false) (Bh a.hi b.hi p false) fun x y z u =>
 Mn (Bh a.lo b.lo p true) (Bh a.lo b.hi p true) (Bh a.hi b.lo p true) (Bh a.hi b.hi p true) fun x' y' z' u' =>
  ⟨⟨Bv x [x,y,z,u],Ax x' [x',y',z',u']⟩,0⟩
def Iz (a:Iv) (p:Nat):Outc Iv :=
 (Bq a.lo a.lo).bind iz fun x=>(Bq a.hi a.hi).bind iz fun y =>
   Gg (Cw (if Di a then dz else Bv x [x,y]) p false) (Cw (Ax x [x,y]) p true)
def Cc (a:Iv) (p:Nat):Outc Iv :=
 if sg a.lo<0 then ⟨iz,4⟩ else Gg (Il a.lo p false) (Il a.hi p true)
end Go.Proofs.YtabjjdicffcolaaGreatDoor
namespace Go.Proofs.YtabjjdicffcolaaGreatDoor
theorem Tn {a b c:Rat}(h:a≤b)(hc:0≤c):c*a≤c*b:=Rat.mul_le_mul_of_nonneg_left h hc
theorem Afd {u a b v c d L:Rat}(hu:a≤u)(hu':u≤b)(hv:c≤v)(hv':v≤d)(h1:L≤a*c)(h2:L≤a*d)(h3:L≤b*c)(h4:L≤b*d):L≤u*v:=by
 have key:∀ x,L≤x*c→L≤x*d→L≤x*v:=by
  intro x hc hd;by_cases hx:0≤x
  ·have:=Tn hv hx;grind
  ·have:=Tn hv' (show 0≤-x by grind);grind
 have ka:=key a h1 h2;have kb:=key b h3 h4;by_cases hv0:0≤v
 ·have:=Rat.mul_le_mul_of_nonneg_right hu hv0;grind
 ·have:=Rat.mul_le_mul_of_nonneg_right hu' (show 0≤-v by grind);grind
theorem Afe {u a b v c d L:Rat}(hu:a≤u)(hu':u≤b)(hv:c≤v)(hv':v≤d)(h1:a*c≤L)(h2:a*d≤L)(h3:b*c≤L)(h4:b*d≤L):u*v≤L:=by
 have:=Afd (u:=-u) (a:=-b) (b:=-a) (v:=v) (c:=c) (d:=d) (L:=-L) (by grind) (by grind) hv hv' (by grind) (by grind) (by grind) (by grind);grind
theorem Vr (l:List Dy):∀ d:Dy,(Bv d l).q≤d.q∧∀ x∈l,(Bv d l).q≤x.q:=by
 induction l with
 | nil=>intro d;exact ⟨Rat.le_refl,fun x hx=>by cases hx⟩
 | cons y l ih =>
   intro d;unfold Bv;obtain ⟨h1,h2⟩:=ih (if Ci y.q d.q<0 then y else d);have hc:=@Rz y.q d.q;have h3:(if Ci y.q d.q<0 then y else d).q≤d.q∧(if Ci y.q d.q<0 then y else d).q≤y.q:=by
    by_cases h:Ci y.q d.q<0
    ·rw [if_pos h];have:=hc.1 h;constructor<;>grind
    ·rw [if_neg h];have:¬y.q<d.q:=fun hh=>h (hc.2 hh);constructor<;>grind
   refine ⟨by grind,fun x hx=>?_⟩;rcases List.mem_cons.1 hx with rfl | hx
   ·grind
   ·exact h2 x hx
theorem Ou (l:List Dy):∀ d:Dy,Bv d l=d∨Bv d l∈l:=by
 induction l with
 | nil=>intro d;exact .inl rfl
 | cons y l ih =>
   intro d;unfold Bv;rcases ih (if Ci y.q d.q<0 then y else d) with h | h
   ·rw [h];split
    ·exact .inr (List.mem_cons_self ..)
    ·exact .inl rfl
   ·exact .inr (List.mem_cons_of_mem _ h)
theorem Pl (l:List Dy):∀ d:Dy,d.q≤(Ax d l).q∧∀ x∈l,x.q≤(Ax d l).q:=by
 induction l with
 | nil=>intro d;exact ⟨Rat.le_refl,fun x hx=>by cases hx⟩
 | cons y l ih =>
   intro d;unfold Ax;obtain ⟨h1,h2⟩:=ih (if 0<Ci y.q d.q then y else d);have hc:=@Acb y.q d.q;have h3:d.q≤(if 0<Ci y.q d.q then y else d).q∧y.q≤(if 0<Ci y.q d.q then y else d).q:=by
    by_cases h:0<Ci y.q d.q
    ·rw [if_pos h];have:=hc.1 h;constructor<;>grind
    ·rw [if_neg h];have:¬d.q<y.q:=fun hh=>h (hc.2 hh);constructor<;>grind
   refine ⟨by grind,fun x hx=>?_⟩;rcases List.mem_cons.1 hx with rfl | hx
   ·grind
   ·exact h2 x hx
theorem Kb (l:List Dy):∀ d:Dy,Ax d l=d∨Ax d l∈l:=by
 induction l with
 | nil=>intro d;exact .inl rfl
 | cons y l ih =>
   intro d;unfold Ax;rcases ih (if 0<Ci y.q d.q then y else d) with h | h
   ·rw [h];split
    ·exact .inr (List.mem_cons_self ..)
    ·exact .inl rfl
   ·exact .inr (List.mem_cons_of_mem _ h)
theorem Qg {d:Dy}{l:List Dy}(hd:d.Ok)(hl:∀ x∈l,Dy.Ok x):(Bv d l).Ok:=by
 rcases Ou l d with h | h
 ·rw [h];exact hd
 ·exact hl _ h
theorem Li {d:Dy}{l:List Dy}(hd:d.Ok)(hl:∀ x∈l,Dy.Ok x):(Ax d l).Ok:=by
 rcases Kb l d with h | h
 ·rw [h];exact hd
 ·exact hl _ h
theorem Xa {x y z u:Dy}:(Bv x [x,y,z,u]).q≤x.q∧(Bv x [x,y,z,u]).q≤y.q∧(Bv x [x,y,z,u]).q≤z.q∧(Bv x [x,y,z,u]).q≤u.q:=by
 obtain ⟨a,b⟩:=Vr [x,y,z,u] x;exact ⟨a,b y (by simp),b z (by simp),b u (by simp)⟩
theorem Nj {x y z u:Dy}:x.q≤(Ax x [x,y,z,u]).q∧y.q≤(Ax x [x,y,z,u]).q∧z.q≤(Ax x [x,y,z,u]).q∧u.q≤(Ax x [x,y,z,u]).q:=by
 obtain ⟨a,b⟩:=Pl [x,y,z,u] x;exact ⟨a,b y (by simp),b z (by simp),b u (by simp)⟩
theorem Agg {x y:Dy}:(Bv x [x,y]).q≤x.q∧(Bv x [x,y]).q≤y.q:=by
 obtain ⟨a,b⟩:=Vr [x,y] x;exact ⟨a,b y (by simp)⟩
theorem Vm {x y:Dy}:x.q≤(Ax x [x,y]).q∧y.q≤(Ax x [x,y]).q:=by
 obtain ⟨a,b⟩:=Pl [x,y] x;exact ⟨a,b y (by simp)⟩
theorem Tg {x y z u:Dy}:Bv x [x,y,z,u]=x∨Bv x [x,y,z,u]=y∨Bv x [x,y,z,u]=z∨Bv x [x,y,z,u]=u:=by
 rcases Ou [x,y,z,u] x with h | h
 ·exact .inl h
 ·simpa using h
theorem Oc {x y z u:Dy}:Ax x [x,y,z,u]=x∨Ax x [x,y,z,u]=y∨Ax x [x,y,z,u]=z∨Ax x [x,y,z,u]=u:=by
 rcases Kb [x,y,z,u] x with h | h
 ·exact .inl h
 ·simpa using h
theorem Tf {x y:Dy}:Bv x [x,y]=x∨Bv x [x,y]=y:=by
 rcases Ou [x,y] x with h | h
 ·exact .inl h
 ·simpa using h
theorem Ob {x y:Dy}:Ax x [x,y]=x∨Ax x [x,y]=y:=by
 rcases Kb [x,y] x with h | h
 ·exact .inl h
 ·simpa using h
theorem Fg {d:Dy}{p:Nat}(hp:1≤p)(hk:(Cw d p false).k=0):IsDown p d.q (Cw d p false).v.q:=Sw hp hk
theorem Hz {d:Dy}{p:Nat}(hp:1≤p)(hk:(Cw d p true).k=0):IsUp p d.q (Cw d p true).v.q:=Sw hp hk
theorem Kp {o:Outc Dy}{p:Nat}{up:Bool}(hk:(Qs o p up).k=0):o.k=0∧Qs o p up=Cw o.v p up:=Outc.bind_ok hk
theorem U9 {a b:Iv}{p:Nat}(hp:1≤p)(hk:(Ef a b p).k=0) :
 IsDown p (a.lo.q+b.lo.q) (Ef a b p).v.lo.q∧IsUp p (a.hi.q+b.hi.q) (Ef a b p).v.hi.q:=by
 unfold Ef at *;obtain ⟨h1,h2,h3⟩:=Ni hk;obtain ⟨h4,h5⟩:=Kp h1;obtain ⟨h6,h7⟩:=Kp h2;rw [h3];simp only;rw [h5] at h1 ⊢;rw [h7] at h2 ⊢;rw [←Pa h4,←Pa h6];exact ⟨Fg hp h1,Hz hp h2⟩
theorem Aev {a b:Iv}{p:Nat}(hp:1≤p)(hk:(Ho a b p).k=0) :
 IsDown p (a.lo.q-b.hi.q) (Ho a b p).v.lo.q∧IsUp p (a.hi.q-b.lo.q) (Ho a b p).v.hi.q:=by
 unfold Ho at *;obtain ⟨h1,h2,h3⟩:=Ni hk;obtain ⟨h4,h5⟩:=Kp h1;obtain ⟨h6,h7⟩:=Kp h2;rw [h3];simp only;rw [h5] at h1 ⊢;rw [h7] at h2 ⊢;have e1:=Pa h4;have e2:=Pa h6;rw [Xk] at e1 e2;have d1:=Fg hp h1;have d2:=Hz hp h2;rw [e1] at d1;rw [e2] at d2;rw [Rat.sub_eq_add_neg,Rat.sub_eq_add_neg];exact ⟨d1,d2⟩
theorem W7 {a b c d:Outc Dy}{f:Dy→Dy→Dy→Dy→Outc Iv}(hk:(Mn a b c d f).k=0) :
 a.k=0∧b.k=0∧c.k=0∧d.k=0∧Mn a b c d f=f a.v b.v c.v d.v:=by
 unfold Mn at *;obtain ⟨h1,e1⟩:=Outc.bind_ok hk;rw [e1] at hk ⊢;obtain ⟨h2,e2⟩:=Outc.bind_ok hk;rw [e2] at hk ⊢;obtain ⟨h3,e3⟩:=Outc.bind_ok hk;rw [e3] at hk ⊢;obtain ⟨h4,e4⟩:=Outc.bind_ok hk;rw [e4];exact ⟨h1,h2,h3,h4,rfl⟩
theorem Ad5 {a b:Iv}{p:Nat}(hp:1≤p)(hk:(Cg a b p).k=0) :
 ∃ L H : Rat, IsDown p L (Cg   a b p).v.lo.q ∧ IsUp p H (Cg   a b p).v.hi.q ∧
   (L≤a.lo.q*b.lo.q∧L≤a.lo.q*b.hi.q∧L≤a.hi.q*b.lo.q∧L≤a.hi.q*b.hi.q) ∧
   (a.lo.q*b.lo.q≤H∧a.lo.q*b.hi.q≤H∧a.hi.q*b.lo.q≤H∧a.hi.q*b.hi.q≤H) ∧
   (L=a.lo.q*b.lo.q∨L=a.lo.q*b.hi.q∨L=a.hi.q*b.lo.q∨L=a.hi.q*b.hi.q) ∧
   (H=a.lo.q*b.lo.q∨H=a.lo.q*b.hi.q∨H=a.hi.q*b.lo.q∨H=a.hi.q*b.hi.q):=by
 unfold Cg at *;obtain ⟨k1,k2,k3,k4,e⟩:=W7 hk;rw [e] at hk ⊢;obtain ⟨h1,h2,h3⟩:=Ni hk;rw [h3];simp only;rw [←Ls k1,←Ls k2,←Ls k3,←Ls k4];refine ⟨_,_,Fg hp h1,Hz hp h2,Xa,Nj,?_,?_⟩
 ·rcases Tg (x:=(Bq a.lo b.lo).v) (y:=(Bq a.lo b.hi).v) (z:=(Bq a.hi b.lo).v) (u:=(Bq a.hi b.hi).v) with h | h | h | h<;>rw [h]<;>simp
 ·rcases Oc (x:=(Bq a.lo b.lo).v) (y:=(Bq a.lo b.hi).v) (z:=(Bq a.hi b.lo).v) (u:=(Bq a.hi b.hi).v) with h | h | h | h<;>rw [h]<;>simp
theorem Gz (b:Iv):Di b=true↔b.lo.q≤0∧0≤b.hi.q:=by
 unfold Di;simp only [Bool.and_eq_true,decide_eq_true_eq];rw [Jc,Jc]
theorem Aer {a:Iv}{p:Nat}(hp:1≤p)(hk:(Iz a p).k=0) :
 ∃ L H : Rat, IsDown p L (Iz   a p).v.lo.q ∧ IsUp p H (Iz   a p).v.hi.q ∧
   L≤a.lo.q*a.lo.q∧L≤a.hi.q*a.hi.q∧a.lo.q*a.lo.q≤H∧a.hi.q*a.hi.q≤H∧0≤L ∧
   (H=a.lo.q*a.lo.q∨H=a.hi.q*a.hi.q)∧((L=0∧a.lo.q≤0∧0≤a.hi.q)∨(¬(a.lo.q≤0∧0≤a.hi.q)∧(L=a.lo.q*a.lo.q∨L=a.hi.q*a.hi.q))):=by
 have sqn:∀ x:Rat,0≤x*x:=fun x=>by
  by_cases h:0≤x
  ·exact Rat.mul_nonneg h h
  ·have:=Rat.mul_nonneg (show 0≤-x by grind) (show 0≤-x by grind);grind
 unfold Iz at *;obtain ⟨k1,e1⟩:=Outc.bind_ok hk;rw [e1] at hk ⊢;obtain ⟨k2,e2⟩:=Outc.bind_ok hk;rw [e2] at hk ⊢;obtain ⟨h1,h2,h3⟩:=Ni hk;rw [h3];simp only;have hg:=Vm (x:=(Bq a.lo a.lo).v) (y:=(Bq a.hi a.hi).v);have hl:=Agg (x:=(Bq a.lo a.lo).v) (y:=(Bq a.hi a.hi).v);have q1:=Ls k1;have q2:=Ls k2;have s1:=sqn a.lo.q;have s2:=sqn a.hi.q;refine ⟨_,_,Fg hp h1,Hz hp h2,?_⟩;rw [←q1,←q2] at *;have hH:((Ax (Bq a.lo a.lo).v [(Bq a.lo a.lo).v,(Bq a.hi a.hi).v]).q=(Bq a.lo a.lo).v.q∨(Ax (Bq a.lo a.lo).v [(Bq a.lo a.lo).v,(Bq a.hi a.hi).v]).q=(Bq a.hi a.hi).v.q):=by
  rcases Ob (x:=(Bq a.lo a.lo).v) (y:=(Bq a.hi a.hi).v) with h | h<;>rw [h]<;>simp
 have hL:((Bv (Bq a.lo a.lo).v [(Bq a.lo a.lo).v,(Bq a.hi a.hi).v]).q=(Bq a.lo a.lo).v.q∨(Bv (Bq a.lo a.lo).v [(Bq a.lo a.lo).v,(Bq a.hi a.hi).v]).q=(Bq a.hi a.hi).v.q):=by
  rcases Tf (x:=(Bq a.lo a.lo).v) (y:=(Bq a.hi a.hi).v) with h | h<;>rw [h]<;>simp
 by_cases hz:Di a=true
 ·have hz':=(Gz a).1 hz;rw [if_pos hz,Wy];exact ⟨s1,s2,hg.1,hg.2,Rat.le_refl,hH,.inl ⟨rfl,hz'.1,hz'.2⟩⟩
 ·rw [if_neg hz];have hz':¬(a.lo.q≤0∧0≤a.hi.q):=fun h=>hz ((Gz a).2 h)
  refine ⟨hl.1,hl.2,hg.1,hg.2,?_,hH,.inr ⟨hz',hL⟩⟩;rcases hL with h | h<;>rw [h]<;>assumption
end Go.Proofs.YtabjjdicffcolaaGreatDoor
