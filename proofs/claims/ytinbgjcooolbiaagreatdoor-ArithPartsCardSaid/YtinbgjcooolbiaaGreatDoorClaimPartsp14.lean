/- Words and contracts, part 14. -/
import Derived.Test.YtinbgjcooolbiaaGreatDoorClaimPartsp02
set_option maxRecDepth 100000
set_option maxHeartbeats 0
namespace Go.Proofs.YtinbgjcooolbiaaGreatDoor
def Lg (n:Nat):Nat→Nat→Nat
 | 0,x=>x
 | f+1,x=>if x≤(x+n/x)/2 then x else Lg n f ((x+n/x)/2)
def isq (n:Nat):Nat:=if n=0 then 0 else Lg n (2^((bl n+1)/2)) (2^((bl n+1)/2))
theorem Mx {a b:Nat}(h:a*a<b*b):a<b:=by
 by_cases hab:a<b
 ·exact hab
 ·have:=Nat.mul_le_mul (show b≤a by omega) (show b≤a by omega);omega
theorem M0 (n x:Nat)(hx:0<x):n<((x+n/x)/2+1)*((x+n/x)/2+1):=by
 have a:=Nat.lt_mul_div_succ n hx;generalize n/x=q at *;generalize hy:(x+q)/2=y at *;have b:x+q+1≤2*(y+1):=by omega
 -- n < x (q + 1), and 4 x (q + 1) ≤ (x + q + 1)^2
 have c:4*(x*(q+1))≤(x+(q+1))*(x+(q+1)):=by
  rcases Nat.le_total x (q+1) with h | h
  ·obtain ⟨d,hd⟩:∃ d,q+1=x+d:=⟨q+1-x,by omega⟩;rw [hd];have e:(x+(x+d))*(x+(x+d))=4*(x*(x+d))+d*d:=by grind
   omega
  ·obtain ⟨d,hd⟩:∃ d,x=(q+1)+d:=⟨x-(q+1),by omega⟩;rw [hd];have e:(q+1+d+(q+1))*(q+1+d+(q+1))=4*((q+1+d)*(q+1))+d*d:=by grind
   omega
 have d:(x+(q+1))*(x+(q+1))≤(2*(y+1))*(2*(y+1)):=Nat.mul_le_mul (by omega) (by omega);have e:(2*(y+1))*(2*(y+1))=4*((y+1)*(y+1)):=by grind
 omega
theorem Vj (n x:Nat)(hx:0<x)(h:x≤(x+n/x)/2):x*x≤n:=by
 have:x≤n/x:=by omega
 rwa [Nat.le_div_iff_mul_le hx] at this
theorem Rk (n x:Nat)(hx:0<x)(hn:0<n):0<(x+n/x)/2:=by
 have:=M0 n x hx;by_cases h:(x+n/x)/2=0
 ·rw [h] at this;omega
 ·exact Nat.pos_of_ne_zero h
theorem Nw (n:Nat)(hn:0<n):∀ f x,0<x→x≤f→n<(x+1)*(x+1)→Lg n f x*Lg n f x≤n∧n<(Lg n f x+1)*(Lg n f x+1)
 | 0,x,hx,hf,_=>by omega
 | f + 1, x, hx, hf, h => by
   unfold Lg;by_cases hd:x≤(x+n/x)/2
   ·rw [if_pos hd];exact ⟨Vj n x hx hd,h⟩
   ·rw [if_neg hd];exact Nw n hn f _ (Rk n x hx hn) (by omega) (M0 n x hx)
theorem Up (n:Nat):n<(2^((bl n+1)/2)+1)*(2^((bl n+1)/2)+1):=by
 have a:=Bi n;have b:2^bl n≤2^((bl n+1)/2+(bl n+1)/2):=Nat.pow_le_pow_right (by decide) (by omega);rw [Nat.pow_add] at b;have c:=Nat.mul_le_mul (Nat.le_succ (2^((bl n+1)/2))) (Nat.le_succ (2^((bl n+1)/2)));exact Nat.lt_of_lt_of_le a (Nat.le_trans b c)
theorem Dz (n:Nat):isq n*isq n≤n∧n<(isq n+1)*(isq n+1):=by
 unfold isq;by_cases h:n=0
 ·subst h;simp
 ·rw [if_neg h];exact Nw n (by omega) _ _ (Nat.pow_pos (by decide)) (Nat.le_refl _) (Up n)
theorem Hr (n r:Nat)(h1:r*r≤n)(h2:n<(r+1)*(r+1)):isq n=r:=by
 obtain ⟨a,b⟩:=Dz n;have c:isq n<r+1:=Mx (by omega);have d:r<isq n+1:=Mx (by omega);omega
end Go.Proofs.YtinbgjcooolbiaaGreatDoor
namespace Go.Proofs.YtinbgjcooolbiaaGreatDoor
def pw (e:Int):Rat:=(2:Rat)^e
theorem Gx (e:Int):0<pw e:=Rat.zpow_pos (by decide)
theorem Fg (a b:Int):pw (a+b)=pw a*pw b:=Rat.zpow_add (by decide) a b
theorem I7:pw 0=1:=Rat.zpow_zero _
theorem Yd:pw 1=2:=Rat.zpow_one _
theorem Hy (n:Nat):pw (n:Int)=((2^n:Nat):Rat):=by
 unfold pw;rw [Rat.zpow_natCast,Rat.natCast_pow];rfl
theorem Kq (e:Int):pw e*pw (-e)=1:=by rw [←Fg,Int.add_right_neg,I7]
theorem I6 (y:Rat)(i:Int):y*pw (-i)*pw i=y:=by rw [Rat.mul_assoc,Rat.mul_comm (pw (-i)),Kq,Rat.mul_one]
theorem Eh (e:Int):0≤pw e:=Rat.le_of_lt (Gx e)
theorem Ado (e:Int):pw e≠0:=by have:=Gx e;grind
theorem Qw {a b:Int}(h:a≤b):pw b=((2^(b-a).toNat:Nat):Rat)*pw a:=by
 rw [←Hy,←Fg];congr 1;omega
theorem Pf {a b:Int}(h:a≤b):pw a≤pw b:=by
 rw [Qw h];have h1:(1:Rat)≤((2^(b-a).toNat:Nat):Rat):=by
  have:=Rat.natCast_le_natCast.2 (Nat.one_le_two_pow (n:=(b-a).toNat));exact this
 have h2:=Rat.mul_le_mul_of_nonneg_right h1 (Eh a);grind
def sq (s:Bool) (m:Nat):Rat:=if s then -(m:Rat) else m
theorem Ack (s:Bool)(m:Nat):sq (!s) m=-sq s m:=by cases s<;>simp [sq]
theorem Pn (s:Bool):sq s 0=0:=by cases s<;>simp [sq]
def Dy.q (d:Dy):Rat:=sq d.neg d.m*pw d.e
theorem Wt:dz.q=0:=by simp [Dy.q,dz,sq]
theorem B8 {a b:Nat}:(a:Rat)<(b:Rat)↔a<b:=Rat.natCast_lt_natCast
theorem Bz {a b:Nat}:(a:Rat)≤(b:Rat)↔a≤b:=Rat.natCast_le_natCast
theorem O9 {m:Nat}(h:m≠0):0<(m:Rat):=by
 have:=B8.2 (Nat.pos_of_ne_zero h);simpa using this
theorem Yf {m:Nat}(h:m≠0)(e:Int):0<(m:Rat)*pw e:=Rat.mul_pos (O9 h) (Gx e)
theorem Hu (m:Nat){e l:Int}(h:l≤e):(m:Rat)*pw e=((m*2^(e-l).toNat:Nat):Rat)*pw l:=by
 rw [Qw h,Rat.natCast_mul,Rat.mul_assoc]
theorem N3 {a b:Rat}(e:Int):a*pw e<b*pw e↔a<b:=Rat.mul_lt_mul_right (Gx e)
theorem Ff {a b:Rat}(e:Int):a*pw e≤b*pw e↔a≤b:=by
 constructor
 ·intro h;exact Rat.le_of_mul_le_mul_right h (Gx e)
 ·intro h;exact Rat.mul_le_mul_of_nonneg_right h (Eh e)
theorem Xi (m n:Nat){e f l:Int}(h:l≤e)(k:l≤f):(m:Rat)*pw e≤(n:Rat)*pw f↔m*2^(e-l).toNat≤n*2^(f-l).toNat:=by
 rw [Hu m h,Hu n k,Ff,Bz]
theorem Ab8 (m n:Nat){e f l:Int}(h:l≤e)(k:l≤f):(m:Rat)*pw e<(n:Rat)*pw f↔m*2^(e-l).toNat<n*2^(f-l).toNat:=by
 rw [Hu m h,Hu n k,N3,B8]
theorem Ab7 (m n:Nat){e f l:Int}(h:l≤e)(k:l≤f):(m:Rat)*pw e=(n:Rat)*pw f↔m*2^(e-l).toNat=n*2^(f-l).toNat:=by
 constructor
 ·intro he;have h1:=(Xi m n h k).1 (by rw [he];exact Rat.le_refl);have h2:=(Xi n m k h).1 (by rw [he];exact Rat.le_refl);omega
 ·intro he;rw [Hu m h,Hu n k,he]
def Bq (x y:Rat):Int:=if x<y then -1 else if x=y then 0 else 1
theorem P5 (x y:Rat):Bq (-x) (-y)=-Bq x y:=by
 unfold Bq;by_cases h:x<y
 ·rw [if_pos h,if_neg (by grind),if_neg (by grind)];rfl
 ·by_cases h1:x=y
  ·rw [if_neg h,if_pos h1,if_neg (by grind),if_pos (by rw [h1])];rfl
  ·rw [if_neg h,if_neg h1,if_pos (by grind)]
theorem Fk {x y:Rat}:Bq x y≤0↔x≤y:=by
 unfold Bq;by_cases h:x<y
 ·rw [if_pos h];constructor<;>intro<;>first | grind | decide
 ·by_cases h1:x=y
  ·rw [if_neg h,if_pos h1];constructor<;>intro<;>first | grind | decide
  ·rw [if_neg h,if_neg h1];constructor<;>intro h2
   ·exact absurd h2 (by decide)
   ·grind
theorem Op {x y:Rat}:0≤Bq x y↔y≤x:=by
 unfold Bq;by_cases h:x<y
 ·rw [if_pos h];constructor<;>intro h2
  ·exact absurd h2 (by decide)
  ·grind
 ·by_cases h1:x=y
  ·rw [if_neg h,if_pos h1];constructor<;>intro<;>first | grind | decide
  ·rw [if_neg h,if_neg h1];constructor<;>intro<;>first | grind | decide
theorem Gp {x y:Rat}:Bq x y<0↔x<y:=by
 have:=@Op x y;constructor
 ·intro h;by_cases hxy:x<y
  ·exact hxy
  ·exfalso;have:(0:Int)≤Bq x y:=this.2 (by grind);omega
 ·intro h;by_cases hc:Bq x y<0
  ·exact hc
  ·exfalso;have:=this.1 (by omega);grind
theorem Lm {x y:Rat}:0<Bq x y↔y<x:=by
 have:=@Fk x y;constructor
 ·intro h;by_cases hxy:y<x
  ·exact hxy
  ·exfalso;have:Bq x y≤0:=this.2 (by grind);omega
 ·intro h;by_cases hc:0<Bq x y
  ·exact hc
  ·exfalso;have:=this.1 (by omega);grind
theorem I0 (x:Rat):Bq x x=0:=by
 unfold Bq;rw [if_neg (by grind),if_pos rfl]
theorem Wd (m n:Nat){e f l:Int}(h:l≤e)(k:l≤f):Bq ((m:Rat)*pw e) ((n:Rat)*pw f)=Bp (m*2^(e-l).toNat) (n*2^(f-l).toNat):=by
 unfold Bq Bp;simp only [Ab8 m n h k,Ab7 m n h k]
def Fits (p:Nat) (y:Rat):Prop:=∃ s k j,bl k≤p∧y=sq s k*pw j
theorem Fits.neg {p:Nat}{y:Rat}(h:Fits p y):Fits p (-y):=by
 obtain ⟨s,k,j,hk,rfl⟩:=h;exact ⟨!s,k,j,hk,by rw [Ack];grind⟩
theorem Fits.mono {p p':Nat}{y:Rat}(h:Fits p y)(hp:p≤p'):Fits p' y:=by
 obtain ⟨s,k,j,hk,rfl⟩:=h;exact ⟨s,k,j,by omega,rfl⟩
theorem Fits.pw {p:Nat}{y:Rat}(h:Fits p y)(i:Int):Fits p (y*pw i):=by
 obtain ⟨s,k,j,hk,rfl⟩:=h;exact ⟨s,k,j+i,hk,by rw [Fg,Rat.mul_assoc]⟩
theorem Fits.zero (p:Nat):Fits p 0:=⟨false,0,0,by simp [bl],by rw [Pn,Rat.zero_mul]⟩
structure IsDown (p:Nat) (x d:Rat):Prop where
 fits:Fits p d
 le:d≤x
 best:∀ y,Fits p y→y≤x→y≤d
structure IsUp (p:Nat) (x d:Rat):Prop where
 fits:Fits p d
 le:x≤d
 best:∀ y,Fits p y→x≤y→d≤y
def Vu (up:Bool) (p:Nat) (x d:Rat):Prop:=if up then IsUp p x d else IsDown p x d
theorem IsDown.neg {p:Nat}{x d:Rat}(h:IsDown p x d):IsUp p (-x) (-d) :=
 ⟨h.fits.neg,by have:=h.le;grind,fun y hy hx=>by have:=h.best (-y) hy.neg (by grind);grind⟩
theorem IsUp.neg {p:Nat}{x d:Rat}(h:IsUp p x d):IsDown p (-x) (-d) :=
 ⟨h.fits.neg,by have:=h.le;grind,fun y hy hx=>by have:=h.best (-y) hy.neg (by grind);grind⟩
theorem IsDown.mono {p p':Nat}{x x' d d':Rat}(h:IsDown p x d)(h':IsDown p' x' d')(hp:p≤p')(hx:x≤x'):d≤d' :=
 h'.best d (h.fits.mono hp) (by have:=h.le;grind)
theorem IsUp.mono {p p':Nat}{x x' d d':Rat}(h:IsUp p x d)(h':IsUp p' x' d')(hp:p≤p')(hx:x'≤x):d'≤d :=
 h'.best d (h.fits.mono hp) (by have:=h.le;grind)
theorem IsDown.of_fits {p:Nat}{x:Rat}(h:Fits p x):IsDown p x x:=⟨h,Rat.le_refl,fun _ _ h=>h⟩
theorem IsUp.of_fits {p:Nat}{x:Rat}(h:Fits p x):IsUp p x x:=⟨h,Rat.le_refl,fun _ _ h=>h⟩
theorem IsDown.pw {p:Nat}{x d:Rat}(h:IsDown p x d)(i:Int):IsDown p (x*pw i) (d*pw i):=by
 refine ⟨h.fits.pw i,(Ff i).2 h.le,fun y hy hx=>?_⟩;have h2:=h.best (y*Go.Proofs.YtinbgjcooolbiaaGreatDoor.pw (-i)) (hy.pw (-i)) (by rw [←Ff i,I6];exact hx);rw [←Ff i,I6] at h2;exact h2
theorem IsUp.pw {p:Nat}{x d:Rat}(h:IsUp p x d)(i:Int):IsUp p (x*pw i) (d*pw i):=by
 have:=(h.neg.pw i).neg;simpa [Rat.neg_mul] using this
theorem Jb {p m':Nat}{x y:Rat}(hm:2^(p-1)≤m')(hp:1≤p)(hx:x<(m':Rat)+1)(hy:Fits p y)(hyx:y≤x):y≤m':=by
 obtain ⟨s,k,j,hk,rfl⟩:=hy;have hm0:(0:Rat)≤m':=Bz.2 (Nat.zero_le m');cases s
 case true =>
  have:sq true k*pw j≤0:=by
   have h1:(0:Rat)≤k:=Bz.2 (Nat.zero_le k);have h2:=Rat.mul_le_mul_of_nonneg_right h1 (Eh j);simp only [sq,if_true];grind
  grind
 case false =>
  simp only [sq,Bool.false_eq_true,if_false] at *;rcases Int.le_total 0 j with hj | hj
  ·have e:(k:Rat)*pw j=((k*2^j.toNat:Nat):Rat):=by
    have h:=Hu k hj;rw [I7] at h;simpa using h
   rw [e] at hyx ⊢;have h3:((k*2^j.toNat:Nat):Rat)<((m'+1:Nat):Rat):=by
    rw [Rat.natCast_add];have:((1:Nat):Rat)=1:=rfl;grind
   have:=B8.1 h3;exact Bz.2 (by omega)
  ·by_cases hj0:j=0
   ·subst hj0;rw [I7,Rat.mul_one] at hyx ⊢;have h3:(k:Rat)<((m'+1:Nat):Rat):=by
     rw [Rat.natCast_add];have:((1:Nat):Rat)=1:=rfl;grind
    have:=B8.1 h3;exact Bz.2 (by omega)
   ·have h1:(k:Rat)*pw j≤(k:Rat)*pw (-1):=by
     have h1:(0:Rat)≤k:=Bz.2 (Nat.zero_le k);exact Rat.mul_le_mul_of_nonneg_left (Pf (by omega)) h1
    have h2:k≤2*m':=by
     have h4:=Bi k;have h5:2^bl k≤2^p:=Nat.pow_le_pow_right (by decide) hk;have h6:2^p=2*2^(p-1):=by
      rw [←Nat.pow_succ'];congr 1;omega
     omega
    have h3:(k:Rat)≤2*(m':Rat):=by
     have:=Bz.2 h2;rw [Rat.natCast_mul] at this;exact this
    have h4:=Kq (-1);have h5:pw (-(-1:Int))=2:=Yd;rw [h5] at h4;have h6:=Gx (-1);have h7:=Rat.mul_le_mul_of_nonneg_right h3 (Eh (-1));have h8:2*(m':Rat)*pw (-1)=m':=by
     rw [Rat.mul_comm 2,Rat.mul_assoc,Rat.mul_comm 2,h4,Rat.mul_one]
    rw [h8] at h7;exact Rat.le_trans h1 h7
theorem Oz {p m':Nat}{x y:Rat}(hm:2^(p-1)≤m')(hp:1≤p)(hx:(m':Rat)<x)(hy:Fits p y)(hyx:x≤y):(m':Rat)+1≤y:=by
 by_cases h:(m':Rat)+1≤y
 ·exact h
 ·exfalso;have:=Jb hm hp (x:=y) (by grind) hy Rat.le_refl;grind
theorem Abx (m n:Nat):((m/2^n:Nat):Rat)*((2^n:Nat):Rat)≤m∧(m:Rat)<(((m/2^n:Nat):Rat)+1)*((2^n:Nat):Rat):=by
 have h0:0<2^n:=Nat.two_pow_pos n;have h1:=Nat.div_add_mod m (2^n);have h2:=Nat.mod_lt m h0;constructor
 ·rw [←Rat.natCast_mul,Bz];rw [Nat.mul_comm] at h1;omega
 ·have:(((m/2^n:Nat):Rat)+1)*((2^n:Nat):Rat)=(((m/2^n+1)*2^n:Nat):Rat):=by
   rw [Rat.natCast_mul,Rat.natCast_add];rfl
  rw [this,B8,Nat.add_mul,Nat.one_mul];rw [Nat.mul_comm] at h1;omega
theorem Hf (m n:Nat)(h:m≠0):tz m<n↔m%2^n≠0:=by
 constructor
 ·intro hlt hz;have hd:2^n ∣ m:=Nat.dvd_of_mod_eq_zero hz;have h1:=Na m h;have h2:=Ju m h;have h3:2^(tz m+1) ∣ m:=Nat.dvd_trans (Nat.pow_dvd_pow 2 hlt) hd;obtain ⟨c,hc⟩:=h3;have h4:m/2^tz m=2*c:=by
   apply Nat.div_eq_of_eq_mul_left (Nat.two_pow_pos _);have:2^(tz m+1)*c=2*c*2^tz m:=by rw [Nat.pow_succ,Nat.mul_assoc,Nat.mul_comm]
   omega
  omega
 ·intro hz;by_cases hc:tz m<n
  ·exact hc
  ·exfalso;apply hz;exact Nat.mod_eq_zero_of_dvd (Nat.dvd_trans (Nat.pow_dvd_pow 2 (by omega)) (M9 m h))
def Fv (m:Nat) (rest:Bool) (p:Nat):Bool × Nat × Nat :=
 let n:=bl m-p
 (rest||(decide (0<n)&&decide (tz m<n)),m/2^n,n)
theorem V6 (m n:Nat):bl (m/2^n)=bl m-n:=by
 by_cases h:m=0
 ·subst h;simp [bl]
 ·by_cases hn:n<bl m
  ·have h1:=Cz m h;have h2:=Bi m;have e:bl m-n=(bl m-n-1)+1:=by omega
   rw [e];refine Pv _ _ ?_ ?_
   ·rw [Nat.le_div_iff_mul_le (Nat.two_pow_pos n),←Nat.pow_add];have:bl m-n-1+n=bl m-1:=by omega
    rw [this];exact h1
   ·rw [Nat.div_lt_iff_lt_mul (Nat.two_pow_pos n),←Nat.pow_add];have:bl m-n-1+1+n=bl m:=by omega
    rw [this];exact h2
  ·have h2:=Bi m;have:m/2^n=0:=Nat.div_eq_of_lt (Nat.lt_of_lt_of_le h2 (Nat.pow_le_pow_right (by decide) (by omega)));rw [this,Ey];omega
def Mag (m:Nat) (rest:Bool) (M:Rat):Prop:=if rest then (m:Rat)<M∧M<(m:Rat)+1 else M=m
theorem P8 {m:Nat}{rest:Bool}{p:Nat}{M:Rat}(h:Mag m rest M)(h0:rest=true→p<bl m)(h1p:1≤p) :
 Mag (Fv m rest p).2.1 (Fv m rest p).1 (M*pw (-((bl m-p:Nat):Int)))∧((Fv m rest p).1=true→2^(p-1)≤(Fv m rest p).2.1)∧bl (Fv m rest p).2.1≤p:=by
 obtain ⟨n,hn⟩:∃ n,bl m-p=n:=⟨_,rfl⟩;simp only [Fv,hn];have hbl:bl (m/2^n)≤p:=by rw [V6];omega
 have hbig:0<n→2^(p-1)≤m/2^n:=by
  intro hp;have hm:m≠0:=by rintro rfl;simp [bl] at hn;omega
  have h1:=Cz m hm;rw [Nat.le_div_iff_mul_le (Nat.two_pow_pos n),←Nat.pow_add];refine Nat.le_trans (Nat.pow_le_pow_right (by decide) ?_) h1;omega
 by_cases hp:0<n
 ·have hm:m≠0:=by rintro rfl;simp [bl] at hn;omega
  have hd:decide (0<n)=true:=by simp [hp]
  rw [hd,Bool.true_and];obtain ⟨d1,d2⟩:=Abx m n;have e1:=Kq (n:Int);rw [Hy] at e1;have e2:=Gx (-(n:Int));have e3:0<((2^n:Nat):Rat):=by rw [←Hy];exact Gx _
  refine ⟨?_,fun _=>hbig hp,hbl⟩;by_cases hr:(rest||decide (tz m<n))=true
  ·rw [hr];simp only [Mag,if_true];have hstrict:((m/2^n:Nat):Rat)*((2^n:Nat):Rat)<M∧M<(((m/2^n:Nat):Rat)+1)*((2^n:Nat):Rat):=by
    cases rest
    ·simp only [Mag,Bool.false_eq_true,if_false] at h;simp only [Bool.false_or,decide_eq_true_eq] at hr;have hz:=(Hf m n hm).1 hr;subst h;refine ⟨?_,d2⟩;rw [←Rat.natCast_mul,B8];have h1:=Nat.div_add_mod m (2^n);rw [Nat.mul_comm] at h1;omega
    ·simp only [Mag,if_true] at h;refine ⟨by grind,?_⟩;have:(((m/2^n:Nat):Rat)+1)*((2^n:Nat):Rat)=(((m/2^n+1)*2^n:Nat):Rat):=by
      rw [Rat.natCast_mul,Rat.natCast_add];rfl
     rw [this] at d2 ⊢;have d3:=B8.1 d2;have d4:((m+1:Nat):Rat)≤(((m/2^n+1)*2^n:Nat):Rat):=Bz.2 d3;rw [Rat.natCast_add] at d4;have:((1:Nat):Rat)=1:=rfl;grind
   generalize ((m/2^n:Nat):Rat)=A at *;generalize ((2^n:Nat):Rat)=B at *;generalize pw (-(n:Int))=C at *;obtain ⟨s1,s2⟩:=hstrict;have t1:=(Rat.mul_lt_mul_right e2).2 s1;have t2:=(Rat.mul_lt_mul_right e2).2 s2;rw [Rat.mul_assoc,e1,Rat.mul_one] at t1 t2;exact ⟨t1,t2⟩
  ·have hr':(rest||decide (tz m<n))=false:=by simpa using hr
   rw [hr'];simp only [Bool.or_eq_false_iff,decide_eq_false_iff_not] at hr';obtain ⟨r1,r2⟩:=hr';subst r1;simp only [Mag,Bool.false_eq_true,if_false] at h ⊢;have hz:m%2^n=0:=by
    by_cases hz:m%2^n=0
    ·exact hz
    ·exact absurd ((Hf m n hm).2 hz) r2
   have h1:=Nat.div_add_mod m (2^n);rw [hz,Nat.add_zero,Nat.mul_comm] at h1;have h2:((m/2^n:Nat):Rat)*((2^n:Nat):Rat)=m:=by rw [←Rat.natCast_mul,h1]
   subst h;rw [←h2,Rat.mul_assoc,e1,Rat.mul_one]
 ·have hn0:n=0:=by omega
  subst hn0;have hr:rest=false:=by
   cases rest
   ·rfl
   ·have:=h0 rfl;omega
  subst hr;have e:pw (-((0:Nat):Int))=1:=I7;refine ⟨?_,fun h=>?_,hbl⟩
  ·rw [e,Rat.mul_one];simpa [Mag] using h
  ·simp at h
def E0 (m:Nat) (rest:Bool) (p:Nat) (away:Bool):Nat:=if (Fv m rest p).1&&away then (Fv m rest p).2.1+1 else (Fv m rest p).2.1
theorem J2 {p m:Nat}(h:bl m≤p):Fits p (m:Rat):=⟨false,m,0,h,by simp [sq,I7]⟩
theorem Ul {p m:Nat}(h:bl m≤p)(hp:1≤p):Fits p ((m:Rat)+1):=by
 have e:(m:Rat)+1=((m+1:Nat):Rat):=by rw [Rat.natCast_add];rfl
 rw [e];by_cases hb:bl (m+1)≤p
 ·exact J2 hb
 ·have h1:=Bi m;have h2:2^bl m≤2^p:=Nat.pow_le_pow_right (by decide) h;have h3:m+1=2^p:=by
   by_cases h4:m+1<2^p
   ·exact absurd (Gb _ _ h4) hb
   ·omega
  rw [h3];refine ⟨false,1,p,?_,?_⟩
  ·have:bl 1=1:=by decide
   omega
  ·rw [Hy];simp only [sq,Bool.false_eq_true,if_false];exact (Rat.one_mul _).symm
theorem I1 {m:Nat}{rest:Bool}{p:Nat}{M:Rat}(h:Mag m rest M)(h0:rest=true→p<bl m)(hp:1≤p) :
 IsDown p M ((E0 m rest p false:Rat)*pw ((bl m-p:Nat):Int)):=by
 obtain ⟨hm,hb,hl⟩:=P8 h h0 hp;have e1:=Kq (((bl m-p:Nat):Int));have key:IsDown p (M*pw (-((bl m-p:Nat):Int))) (E0 m rest p false:Rat):=by
  unfold E0;rw [Bool.and_false];simp only [Bool.false_eq_true,if_false];generalize (Fv m rest p).2.1=m' at *;generalize (Fv m rest p).1=r' at *;generalize M*pw (-((bl m-p:Nat):Int))=x at *;cases r'
  ·simp only [Mag,Bool.false_eq_true,if_false] at hm;subst hm;exact .of_fits (J2 hl)
  ·simp only [Mag,if_true] at hm;exact ⟨J2 hl,by grind,fun y hy hx=>Jb (hb rfl) hp hm.2 hy hx⟩
 have:=key.pw ((bl m-p:Nat):Int);rw [Rat.mul_assoc,Rat.mul_comm (pw _),e1,Rat.mul_one] at this;exact this
theorem Ln {m:Nat}{rest:Bool}{p:Nat}{M:Rat}(h:Mag m rest M)(h0:rest=true→p<bl m)(hp:1≤p) :
 IsUp p M ((E0 m rest p true:Rat)*pw ((bl m-p:Nat):Int)):=by
 obtain ⟨hm,hb,hl⟩:=P8 h h0 hp;have e1:=Kq (((bl m-p:Nat):Int));have key:IsUp p (M*pw (-((bl m-p:Nat):Int))) (E0 m rest p true:Rat):=by
  unfold E0;rw [Bool.and_true];generalize (Fv m rest p).2.1=m' at *;generalize (Fv m rest p).1=r' at *;generalize M*pw (-((bl m-p:Nat):Int))=x at *;cases r'
  ·simp only [Mag,Bool.false_eq_true,if_false] at hm ⊢;subst hm;exact .of_fits (J2 hl)
  ·simp only [Mag,if_true] at hm ⊢;have e:((m'+1:Nat):Rat)=(m':Rat)+1:=by rw [Rat.natCast_add];rfl
   rw [e];exact ⟨Ul hl hp,by grind,fun y hy hx=>Oz (hb rfl) hp hm.1 hy hx⟩
 have:=key.pw ((bl m-p:Nat):Int);rw [Rat.mul_assoc,Rat.mul_comm (pw _),e1,Rat.mul_one] at this;exact this
def Id (neg:Bool) (m:Nat) (e:Int) (rest:Bool) (p:Nat) (up:Bool):Outc Dy :=
 Bu neg (E0 m rest p (up != neg)) (e+((bl m-p:Nat):Int))
theorem Wx {neg:Bool}{n:Nat}{e:Int}(h:(Bu neg n e).k=0):(Bu neg n e).v.q=sq neg n*pw e:=by
 unfold Bu at *;by_cases h0:n=0
 ·rw [if_pos h0];subst h0;rw [Pn,Rat.zero_mul];exact Wt
 ·rw [if_neg h0] at h ⊢;by_cases h1:64<(limbs (n/2^tz n)).length
  ·rw [if_pos h1] at h;exact absurd h (by decide)
  ·rw [if_neg h1] at h ⊢;by_cases h2:1048576<e∨e < -1048576-tz n
   ·rw [if_pos h2] at h;exact absurd h (by decide)
   ·rw [if_neg h2] at h ⊢;by_cases h3:1048576<e+tz n
    ·rw [if_pos h3] at h;exact absurd h (by decide)
    ·rw [if_neg h3];simp only [good,Dy.q];rw [Int.add_comm,Fg,Hy,←Rat.mul_assoc]
     congr 1
     have:=Na n h0;unfold sq;cases neg
     ·simp only [Bool.false_eq_true,if_false];rw [←Rat.natCast_mul,this]
     ·simp only [if_true];rw [Rat.neg_mul,←Rat.natCast_mul,this]
theorem Wg {neg:Bool}{m:Nat}{e:Int}{rest:Bool}{p:Nat}{up:Bool}{M:Rat}(h:Mag m rest M)(h0:rest=true→p<bl m)(hp:1≤p)
 (hk:(Id neg m e rest p up).k=0):Vu up p ((if neg then -M else M)*pw e) (Id neg m e rest p up).v.q:=by
 unfold Id at *;rw [Wx hk,Int.add_comm,Fg,←Rat.mul_assoc];unfold Vu;cases neg<;>cases up
 ·exact ((I1 h h0 hp).pw e)
 ·exact ((Ln h h0 hp).pw e)
 ·have e1:(false != true)=true:=rfl;have:=((Ln h h0 hp).neg).pw e;simpa only [e1,Bool.false_eq_true,if_false,if_true,sq,Rat.neg_mul] using this
 ·have e1:(true != true)=false:=rfl;have:=((I1 h h0 hp).neg).pw e;simpa only [e1,Bool.false_eq_true,if_false,if_true,sq,Rat.neg_mul] using this
end Go.Proofs.YtinbgjcooolbiaaGreatDoor
namespace Go.Proofs.YtinbgjcooolbiaaGreatDoor
def Ll (a b:Dy):Outc Dy :=
 if ¬a.e=b.e∧4097-(bl a.m:Int)<a.e-b.e then bad 2
 else if a.neg=b.neg then Bu a.neg (a.m*2^(a.e-b.e).toNat+b.m) b.e
 else if b.m≤a.m*2^(a.e-b.e).toNat then Bu a.neg (a.m*2^(a.e-b.e).toNat-b.m) b.e
 else Bu b.neg (b.m-a.m*2^(a.e-b.e).toNat) b.e
def Ia (x y:Dy):Outc Dy :=
 if x.m=0 then good y else if y.m=0 then good x else if x.e<y.e then Ll y x else Ll x y
theorem Nb {d:Dy}(h:d.m=0):d.q=0:=by unfold Dy.q;rw [h,Pn,Rat.zero_mul]
def Outc.Ok (o:Outc Dy):Prop:=o.v.Ok∧(o.k≠0→o.v=dz)
theorem Tl {d:Dy}(h:d.Ok):(good d).Ok:=⟨h,fun h=>absurd rfl h⟩
theorem Rw (k:Int):(bad k).Ok:=⟨dz_ok,fun _=>rfl⟩
theorem Aaz (a b:Dy):(Ll a b).Ok:=by
 unfold Ll;split
 ·exact Rw _
 ·split
  ·exact Ho _ _ _
  ·split<;>exact Ho _ _ _
theorem Po {x y:Dy}(hx:x.Ok)(hy:y.Ok):(Ia x y).Ok:=by
 unfold Ia;split
 ·exact Tl hy
 ·split
  ·exact Tl hx
  ·split<;>exact Aaz _ _
def Ih (x y:Dy):Outc Dy:=Bu (x.neg != y.neg) (x.m*y.m) (x.e+y.e)
theorem O8 (x y:Dy):(Ih x y).Ok:=Ho _ _ _
def Fc (d:Dy) (p:Nat) (up:Bool):Outc Dy:=Id d.neg d.m d.e false p up
theorem Zq (d:Dy)(p:Nat)(up:Bool):(Fc d p up).Ok:=Ho _ _ _
def Ce (a b:Dy) (p:Nat):Nat:=p+1+bl b.m-bl a.m
def Bh (a b:Dy) (p:Nat) (up:Bool):Outc Dy :=
 Id (a.neg != b.neg) (a.m*2^Ce a b p/b.m) (a.e-b.e-Ce a b p) (decide (¬a.m*2^Ce a b p%b.m=0)) p up
theorem Qp (n m:Nat)(h:m≠0):Mag (n/m) (decide (¬n%m=0)) ((n:Rat)/m):=by
 have hm:0<(m:Rat):=O9 h;have h1:=Nat.div_add_mod n m;have h2:=Nat.mod_lt n (Nat.pos_of_ne_zero h);rw [Nat.mul_comm] at h1;by_cases hr:n%m=0
 ·have:decide (¬n%m=0)=false:=by simp [hr]
  rw [this];simp only [Mag,Bool.false_eq_true,if_false];rw [hr,Nat.add_zero] at h1;have h3:(n:Rat)=((n/m:Nat):Rat)*m:=by rw [←Rat.natCast_mul,h1]
  rw [h3];generalize ((n/m:Nat):Rat)=A;rw [Rat.mul_div_cancel (by grind)]
 ·have:decide (¬n%m=0)=true:=by simp [hr]
  rw [this];simp only [Mag,if_true];rw [Rat.lt_div_iff hm,Rat.div_lt_iff hm,←Rat.natCast_mul];have e:((n/m:Nat):Rat)+1=((n/m+1:Nat):Rat):=by rw [Rat.natCast_add];rfl
  rw [e,←Rat.natCast_mul,B8,B8,Nat.add_mul,Nat.one_mul];omega
theorem T7 (a b p:Nat)(ha:a≠0)(hb:b≠0)(k:Nat)(hk:p+1+bl b≤bl a+k):p<bl (a*2^k/b):=by
 apply Xf;rw [Nat.le_div_iff_mul_le (Nat.pos_of_ne_zero hb)];have h1:=Cz a ha;have h2:=Bi b;have h3:2^p*b≤2^p*2^bl b:=Nat.mul_le_mul_left _ (by omega);have h4:2^(bl a-1)*2^k≤a*2^k:=Nat.mul_le_mul_right _ h1;rw [←Nat.pow_add] at h3 h4;refine Nat.le_trans h3 (Nat.le_trans (Nat.pow_le_pow_right (by decide) ?_) h4);have:=Gc a ha;omega
theorem Acj (s t:Bool)(x:Rat)(m n:Nat)(hx:(m:Rat)=x*n):(if (s != t) then -x else x)*sq t n=sq s m:=by
 cases s<;>cases t<;>simp [sq,hx]<;>grind
theorem N8 {a b:Dy}{p:Nat}{up:Bool}(hp:1≤p)(hb:b.m≠0)(hk:(Bh a b p up).k=0):Vu up p (a.q/b.q) (Bh a b p up).v.q:=by
 unfold Bh at *;have hm:=Qp (a.m*2^Ce a b p) b.m hb;have h:=Wg hm ?_ hp hk
 ·have e:(if (a.neg != b.neg) then -(((a.m*2^Ce a b p:Nat):Rat)/b.m) else ((a.m*2^Ce a b p:Nat):Rat)/b.m)*pw (a.e-b.e-Ce a b p)=a.q/b.q:=by
   have hbq:b.q≠0:=by
    have:=Yf hb b.e;unfold Dy.q sq;cases b.neg<;>simp<;>grind
   have hb0:=O9 hb;rw [Rat.div_def a.q];have key:(if (a.neg != b.neg) then -(((a.m*2^Ce a b p:Nat):Rat)/b.m) else ((a.m*2^Ce a b p:Nat):Rat)/b.m)*pw (a.e-b.e-Ce a b p)*b.q=a.q:=by
    unfold Dy.q;have h1:=Acj a.neg b.neg (((a.m*2^Ce a b p:Nat):Rat)/b.m) (a.m*2^Ce a b p) b.m (by rw [Rat.div_mul_cancel (by grind)]);have h2:pw (a.e-b.e-Ce a b p)*pw b.e*pw (Ce a b p)=pw a.e:=by
     rw [←Fg,←Fg];congr 1;omega
    have h3:sq a.neg (a.m*2^Ce a b p)=sq a.neg a.m*pw (Ce a b p):=by
     rw [Hy];unfold sq;cases a.neg<;>simp [Rat.natCast_mul,Rat.neg_mul]
    rw [h3] at h1;generalize (if (a.neg != b.neg) then -(((a.m*2^Ce a b p:Nat):Rat)/b.m) else ((a.m*2^Ce a b p:Nat):Rat)/b.m)=A at *;generalize sq a.neg a.m=B at *;generalize sq b.neg b.m=C at *;have h4:=Gx (Ce a b p);have h5:=Ado (Ce a b p);generalize pw (a.e-b.e-Ce a b p)=D at *;generalize pw (Ce a b p)=E at *;generalize pw b.e=F at *;generalize pw a.e=G at *;have h6:A*D*(C*F)=B*(D*F*E):=by
     have:A*D*(C*F)=(A*C)*(D*F):=by grind
     rw [this,h1];grind
    rw [h6,h2]
   rw [←key,Rat.mul_assoc,Rat.mul_inv_cancel _ hbq,Rat.mul_one]
  rw [e] at h;exact h
 ·intro hr;have ha:a.m≠0:=by
   intro ha;rw [ha,Nat.zero_mul,Nat.zero_mod] at hr;simp at hr
  exact T7 a.m b.m p ha hb (Ce a b p) (by unfold Ce;omega)
theorem C8 (a b:Dy)(p:Nat)(up:Bool):(Bh a b p up).Ok:=Ho _ _ _
end Go.Proofs.YtinbgjcooolbiaaGreatDoor
namespace Go.Proofs.YtinbgjcooolbiaaGreatDoor
def Fi (d:Dy) (p:Nat):Nat:=2*p+2-bl d.m
def Ds (d:Dy) (p:Nat):Nat:=if (d.e-Fi d p)%2=0 then Fi d p else Fi d p+1
def Df (d:Dy) (p:Nat) (up:Bool):Outc Dy :=
 Id false (isq (d.m*2^Ds d p)) ((d.e-Ds d p)/2) (decide (¬isq (d.m*2^Ds d p)*isq (d.m*2^Ds d p)=d.m*2^Ds d p)) p up
theorem Mn (d:Dy)(p:Nat)(up:Bool):(Df d p up).Ok:=Ho _ _ _
theorem H4 (d:Dy)(p:Nat):(d.e-Ds d p)%2=0:=by
 unfold Ds;by_cases h:(d.e-Fi d p)%2=0
 ·rw [if_pos h];exact h
 ·rw [if_neg h];omega
theorem Ra (d:Dy)(p:Nat):Fi d p≤Ds d p:=by
 unfold Ds;split<;>omega
structure Jj (p:Nat) (x d:Rat):Prop where
 fits:Fits p d
 nonneg:0≤d
 le:d*d≤x
 best:∀ y,Fits p y→0≤y→y*y≤x→y≤d
structure Ly (p:Nat) (x d:Rat):Prop where
 fits:Fits p d
 nonneg:0≤d
 le:x≤d*d
 best:∀ y,Fits p y→0≤y→x≤y*y→d≤y
def Nm (up:Bool) (p:Nat) (x d:Rat):Prop:=if up then Ly p x d else Jj p x d
theorem Od {a b:Rat}(ha:0≤a)(h:a≤b):a*a≤b*b:=by
 have h1:=Rat.mul_le_mul_of_nonneg_left h ha;have h2:=Rat.mul_le_mul_of_nonneg_right h (by grind:0≤b);grind
theorem Abe {a b:Rat}(hb:0≤b)(h:a*a<b*b):a<b:=by
 by_cases hc:a<b
 ·exact hc
 ·have:=Od hb (by grind:b≤a);grind
theorem Xg {a b:Rat}(ha:0≤a)(h:a<b):a*a<b*b:=by
 have h1:=Od ha (by grind:a≤b);by_cases hc:a*a<b*b
 ·exact hc
 ·exfalso;have h2:a*a=b*b:=by grind
  have h3:=(Rat.mul_lt_mul_right (by grind:0<b)).2 h;have h4:=Rat.mul_le_mul_of_nonneg_left (by grind:a≤b) ha;grind
theorem Zj (x y:Rat):∃ M,x<M∧M<x+1∧(y<x+1→y≤M):=by
 by_cases h:x<y∧y<x+1
 ·exact ⟨y,h.1,h.2,fun _=>Rat.le_refl⟩
 ·refine ⟨x+1/2,by grind,by grind,fun hy=>?_⟩;have:¬x<y:=fun hx=>h ⟨hx,hy⟩
  grind
theorem Vy (x y:Rat):∃ M,x<M∧M<x+1∧(x<y→M≤y):=by
 by_cases h:x<y∧y<x+1
 ·exact ⟨y,h.1,h.2,fun _=>Rat.le_refl⟩
 ·refine ⟨x+1/2,by grind,by grind,fun hx=>?_⟩;have:¬y<x+1:=fun hy=>h ⟨hx,hy⟩
  grind
theorem Es (n:Nat):(0:Rat)≤n:=Bz.2 (Nat.zero_le n)
theorem Ni {m x:Nat}{p:Nat}(h1:x*x≤m)(h2:m<(x+1)*(x+1))(h0:¬x*x=m→p<bl x)(hp:1≤p) :
 Jj p m ((E0 x (decide (¬x*x=m)) p false:Rat)*pw ((bl x-p:Nat):Int)):=by
 have q1:((x:Rat))*x≤m:=by rw [←Rat.natCast_mul];exact Bz.2 h1
 have q2:(m:Rat)<(x+1)*(x+1):=by
  have:=B8.2 h2;rw [Rat.natCast_mul,Rat.natCast_add] at this;exact this
 have hx0:=Es x;have hnn:(0:Rat)≤(E0 x (decide (¬x*x=m)) p false:Rat)*pw ((bl x-p:Nat):Int):=Rat.mul_nonneg (Es _) (Eh _);by_cases he:x*x=m
 ·have hd:decide (¬x*x=m)=false:=by simp [he]
  rw [hd] at hnn ⊢;have k:=I1 (m:=x) (rest:=false) (p:=p) (M:=x) (by simp [Mag]) (by simp) hp;have q3:(m:Rat)=x*x:=by rw [←Rat.natCast_mul,he]
  rw [q3];exact ⟨k.fits,hnn,Od hnn k.le,fun y hy hy0 hyx=>k.best y hy (by
   by_cases hc:y≤x
   ·exact hc
   ·have:=Xg hx0 (by grind:(x:Rat)<y);grind)⟩
 ·have hd:decide (¬x*x=m)=true:=by simp [he]
  rw [hd] at hnn ⊢;have k:=fun M (a:(x:Rat)<M) (b:M<x+1)=>I1 (m:=x) (rest:=true) (p:=p) (M:=M) (by simp only [Mag,if_true];exact ⟨a,b⟩) (fun _=>h0 he) hp
  generalize (E0 x true p false:Rat)*pw ((bl x-p:Nat):Int)=d at *;have k1:=k (x+1/2) (by grind) (by grind);have hdx:d≤x:=by
   by_cases hc:d≤x
   ·exact hc
   ·exfalso;have k2:=k (if d<x+1/2 then (x+d)/2 else x+1/4) (by split<;>grind) (by split<;>grind);have:=k2.le;split at this<;>grind
  refine ⟨k1.fits,hnn,Rat.le_trans (Od hnn hdx) q1,fun y hy hy0 hyx=>?_⟩;obtain ⟨M,a,b,c⟩:=Zj x y;exact (k M a b).best y hy (c (Abe (by grind) (by grind)))
theorem Rb {m x:Nat}{p:Nat}(h1:x*x≤m)(h2:m<(x+1)*(x+1))(h0:¬x*x=m→p<bl x)(hp:1≤p) :
 Ly p m ((E0 x (decide (¬x*x=m)) p true:Rat)*pw ((bl x-p:Nat):Int)):=by
 have q1:((x:Rat))*x≤m:=by rw [←Rat.natCast_mul];exact Bz.2 h1
 have q2:(m:Rat)<(x+1)*(x+1):=by
  have:=B8.2 h2;rw [Rat.natCast_mul,Rat.natCast_add] at this;exact this
 have hx0:=Es x;have hnn:(0:Rat)≤(E0 x (decide (¬x*x=m)) p true:Rat)*pw ((bl x-p:Nat):Int):=Rat.mul_nonneg (Es _) (Eh _);by_cases he:x*x=m
 ·have hd:decide (¬x*x=m)=false:=by simp [he]
  rw [hd] at hnn ⊢;have k:=Ln (m:=x) (rest:=false) (p:=p) (M:=x) (by simp [Mag]) (by simp) hp;have q3:(m:Rat)=x*x:=by rw [←Rat.natCast_mul,he]
  rw [q3];exact ⟨k.fits,hnn,Od hx0 k.le,fun y hy hy0 hyx=>k.best y hy (by
   by_cases hc:(x:Rat)≤y
   ·exact hc
   ·have:=Xg hy0 (by grind:y<(x:Rat));grind)⟩
 ·have hd:decide (¬x*x=m)=true:=by simp [he]
  rw [hd] at hnn ⊢;have k:=fun M (a:(x:Rat)<M) (b:M<x+1)=>Ln (m:=x) (rest:=true) (p:=p) (M:=M) (by simp only [Mag,if_true];exact ⟨a,b⟩) (fun _=>h0 he) hp
  have q4:(x:Rat)*x<m:=by rw [←Rat.natCast_mul];exact B8.2 (by omega)
  generalize (E0 x true p true:Rat)*pw ((bl x-p:Nat):Int)=d at *;have k1:=k (x+1/2) (by grind) (by grind);have hdx:(x:Rat)+1≤d:=by
   by_cases hc:(x:Rat)+1≤d
   ·exact hc
   ·exfalso;have k2:=k (if x+1/2<d then (x+1+d)/2 else x+3/4) (by split<;>grind) (by split<;>grind);have:=k2.le;split at this<;>grind
  refine ⟨k1.fits,hnn,?_,fun y hy hy0 hyx=>?_⟩
  ·have:=Od (by grind:(0:Rat)≤x+1) hdx;grind
  ·obtain ⟨M,a,b,c⟩:=Vy x y;exact (k M a b).best y hy (c (Abe hy0 (by grind)))
theorem T9 (a p:Nat)(ha:a≠0)(k:Nat)(hk:2*p+2≤bl a+k):p<bl (isq (a*2^k)):=by
 apply Xf;have h1:=Cz a ha;have h4:2^(bl a-1)*2^k≤a*2^k:=Nat.mul_le_mul_right _ h1;rw [←Nat.pow_add] at h4;have h5:2^(2*p)≤a*2^k:=Nat.le_trans (Nat.pow_le_pow_right (by decide) (by have:=Gc a ha;omega)) h4;have h6:2^(2*p)=2^p*2^p:=by rw [←Nat.pow_add];congr 1;omega
 have h7:=(Dz (a*2^k)).2;have h8:=Mx (a:=2^p) (b:=isq (a*2^k)+1) (by omega);omega
theorem N9 {d:Dy}{p:Nat}{up:Bool}(hp:1≤p)(hn:d.neg=false)(hk:(Df d p up).k=0):Nm up p d.q (Df d p up).v.q:=by
 unfold Df Id at *;rw [Wx hk];have hev:=H4 d p;have hle:=Ra d p;have hk0:2*p+2≤bl d.m+Fi d p:=by unfold Fi;omega
 clear hk;generalize Ds d p=k at *;obtain ⟨s1,s2⟩:=Dz (d.m*2^k);have h0:¬isq (d.m*2^k)*isq (d.m*2^k)=d.m*2^k→p<bl (isq (d.m*2^k)):=by
  intro hne;have ha:d.m≠0:=by
   intro ha;rw [ha,Nat.zero_mul] at hne;exact hne rfl
  exact T9 d.m p ha k (by omega)
 generalize isq (d.m*2^k)=x at *;have hq:d.q=((d.m*2^k:Nat):Rat)*(pw ((d.e-k)/2)*pw ((d.e-k)/2)):=by
  unfold Dy.q;rw [hn,←Fg];have:(d.e-k)/2+(d.e-k)/2=d.e-k:=by omega
  rw [this,Rat.natCast_mul,←Hy,Rat.mul_assoc,←Fg];simp only [sq,Bool.false_eq_true,if_false]
  congr 2;omega
 have hup:(up != false)=up:=by cases up<;>rfl
 rw [hq,hup];generalize (d.e-k)/2=h at *;have hh:=Gx h;have hh2:=Rat.mul_pos hh hh;have hc:=Kq h;have e0:sq false (E0 x (decide (¬x*x=d.m*2^k)) p up)*pw (h+((bl x-p:Nat):Int))=((E0 x (decide (¬x*x=d.m*2^k)) p up:Rat)*pw ((bl x-p:Nat):Int))*pw h:=by
  simp only [sq,Bool.false_eq_true,if_false];rw [Fg,Rat.mul_comm (pw h),Rat.mul_assoc]
 rw [e0];have ypos:∀ y:Rat,0≤y→0≤y*pw (-h):=fun y hy=>Rat.mul_nonneg hy (Eh _)
 have yy:∀ y:Rat,(y*pw (-h))*(y*pw (-h))*(pw h*pw h)=y*y:=by
  intro y;have:(y*pw (-h))*(y*pw (-h))*(pw h*pw h)=(y*y)*((pw h*pw (-h))*(pw h*pw (-h))):=by grind
  rw [this,hc];grind
 unfold Nm;cases up
 ·simp only [Bool.false_eq_true,if_false];have k1:=Ni s1 s2 h0 hp;generalize (E0 x (decide (¬x*x=d.m*2^k)) p false:Rat)*pw ((bl x-p:Nat):Int)=r at *;refine ⟨k1.fits.pw h,Rat.mul_nonneg k1.nonneg (Eh h),?_,fun y hy hy0 hyx=>?_⟩
  ·have:=Rat.mul_le_mul_of_nonneg_right k1.le (Rat.le_of_lt hh2);grind
  ·have:=k1.best (y*pw (-h)) (hy.pw (-h)) (ypos y hy0) (by
    apply Rat.le_of_mul_le_mul_right _ hh2;rw [yy];exact hyx)
   rw [←Ff h,I6] at this;exact this
 ·simp only [if_true];have k1:=Rb s1 s2 h0 hp;generalize (E0 x (decide (¬x*x=d.m*2^k)) p true:Rat)*pw ((bl x-p:Nat):Int)=r at *;refine ⟨k1.fits.pw h,Rat.mul_nonneg k1.nonneg (Eh h),?_,fun y hy hy0 hyx=>?_⟩
  ·have:=Rat.mul_le_mul_of_nonneg_right k1.le (Rat.le_of_lt hh2);grind
  ·have:=k1.best (y*pw (-h)) (hy.pw (-h)) (ypos y hy0) (by
    apply Rat.le_of_mul_le_mul_right _ hh2;rw [yy];exact hyx)
   rw [←Ff h,I6] at this;exact this
end Go.Proofs.YtinbgjcooolbiaaGreatDoor
