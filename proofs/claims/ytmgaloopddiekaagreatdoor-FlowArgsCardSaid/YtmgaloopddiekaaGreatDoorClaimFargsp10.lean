/- Words and contracts, part 10. -/
import Derived.Test.YtmgaloopddiekaaGreatDoorClaimFargsp02
set_option maxRecDepth 100000
set_option maxHeartbeats 0
namespace Go.Proofs.YtmgaloopddiekaaGreatDoor
def W3 (n:Nat):Nat→Nat→Nat
 | 0,x=>x
 | f+1,x=>if x≤(x+n/x)/2 then x else W3 n f ((x+n/x)/2)
def isq (n:Nat):Nat:=if n=0 then 0 else W3 n (2^((bl n+1)/2)) (2^((bl n+1)/2))
theorem Ad5 {a b:Nat}(h:a*a<b*b):a<b:=by
 by_cases hab:a<b
 ·exact hab
 ·have:=Nat.mul_le_mul (show b≤a by omega) (show b≤a by omega);omega
theorem Qh (n x:Nat)(hx:0<x):n<((x+n/x)/2+1)*((x+n/x)/2+1):=by
 have a:=Nat.lt_mul_div_succ n hx;generalize n/x=q at *;generalize hy:(x+q)/2=y at *;have b:x+q+1≤2*(y+1):=by omega
 -- n < x (q + 1), and 4 x (q + 1) ≤ (x + q + 1)^2
 have c:4*(x*(q+1))≤(x+(q+1))*(x+(q+1)):=by
  rcases Nat.le_total x (q+1) with h | h
  ·obtain ⟨d,hd⟩:∃ d,q+1=x+d:=⟨q+1-x,by omega⟩;rw [hd];have e:(x+(x+d))*(x+(x+d))=4*(x*(x+d))+d*d:=by grind
   omega
  ·obtain ⟨d,hd⟩:∃ d,x=(q+1)+d:=⟨x-(q+1),by omega⟩;rw [hd];have e:(q+1+d+(q+1))*(q+1+d+(q+1))=4*((q+1+d)*(q+1))+d*d:=by grind
   omega
 have d:(x+(q+1))*(x+(q+1))≤(2*(y+1))*(2*(y+1)):=Nat.mul_le_mul (by omega) (by omega);have e:(2*(y+1))*(2*(y+1))=4*((y+1)*(y+1)):=by grind
 omega
theorem Aar (n x:Nat)(hx:0<x)(h:x≤(x+n/x)/2):x*x≤n:=by
 have:x≤n/x:=by omega
 rwa [Nat.le_div_iff_mul_le hx] at this
theorem Aeb (n x:Nat)(hx:0<x)(hn:0<n):0<(x+n/x)/2:=by
 have:=Qh n x hx;by_cases h:(x+n/x)/2=0
 ·rw [h] at this;omega
 ·exact Nat.pos_of_ne_zero h
theorem Re (n:Nat)(hn:0<n):∀ f x,0<x→x≤f→n<(x+1)*(x+1)→W3 n f x*W3 n f x≤n∧n<(W3 n f x+1)*(W3 n f x+1)
 | 0,x,hx,hf,_=>by omega
 | f + 1, x, hx, hf, h => by
   unfold W3;by_cases hd:x≤(x+n/x)/2
   ·rw [if_pos hd];exact ⟨Aar n x hx hd,h⟩
   ·rw [if_neg hd];exact Re n hn f _ (Aeb n x hx hn) (by omega) (Qh n x hx)
theorem Zo (n:Nat):n<(2^((bl n+1)/2)+1)*(2^((bl n+1)/2)+1):=by
 have a:=Cm n;have b:2^bl n≤2^((bl n+1)/2+(bl n+1)/2):=Nat.pow_le_pow_right (by decide) (by omega);rw [Nat.pow_add] at b;have c:=Nat.mul_le_mul (Nat.le_succ (2^((bl n+1)/2))) (Nat.le_succ (2^((bl n+1)/2)));exact Nat.lt_of_lt_of_le a (Nat.le_trans b c)
theorem Uq (n:Nat):isq n*isq n≤n∧n<(isq n+1)*(isq n+1):=by
 unfold isq;by_cases h:n=0
 ·subst h;simp
 ·rw [if_neg h];exact Re n (by omega) _ _ (Nat.pow_pos (by decide)) (Nat.le_refl _) (Zo n)
end Go.Proofs.YtmgaloopddiekaaGreatDoor
namespace Go.Proofs.YtmgaloopddiekaaGreatDoor
def pw (e:Int):Rat:=(2:Rat)^e
theorem Ja (e:Int):0<pw e:=Rat.zpow_pos (by decide)
theorem Gz (a b:Int):pw (a+b)=pw a*pw b:=Rat.zpow_add (by decide) a b
theorem M9:pw 0=1:=Rat.zpow_zero _
theorem Aic:pw 1=2:=Rat.zpow_one _
theorem J5 (n:Nat):pw (n:Int)=((2^n:Nat):Rat):=by
 unfold pw;rw [Rat.zpow_natCast,Rat.natCast_pow];rfl
theorem Nr (e:Int):pw e*pw (-e)=1:=by rw [←Gz,Int.add_right_neg,M9]
theorem Lh (y:Rat)(i:Int):y*pw (-i)*pw i=y:=by rw [Rat.mul_assoc,Rat.mul_comm (pw (-i)),Nr,Rat.mul_one]
theorem Fm (e:Int):0≤pw e:=Rat.le_of_lt (Ja e)
theorem Ajr (e:Int):pw e≠0:=by have:=Ja e;grind
theorem U6 {a b:Int}(h:a≤b):pw b=((2^(b-a).toNat:Nat):Rat)*pw a:=by
 rw [←J5,←Gz];congr 1;omega
theorem Sx {a b:Int}(h:a≤b):pw a≤pw b:=by
 rw [U6 h];have h1:(1:Rat)≤((2^(b-a).toNat:Nat):Rat):=by
  have:=Rat.natCast_le_natCast.2 (Nat.one_le_two_pow (n:=(b-a).toNat));exact this
 have h2:=Rat.mul_le_mul_of_nonneg_right h1 (Fm a);grind
def sq (s:Bool) (m:Nat):Rat:=if s then -(m:Rat) else m
theorem Te (s:Bool)(m:Nat):sq (!s) m=-sq s m:=by cases s<;>simp [sq]
theorem Oy (s:Bool):sq s 0=0:=by cases s<;>simp [sq]
theorem Aij (s t:Bool)(m n:Nat):sq (s != t) (m*n)=sq s m*sq t n:=by
 cases s<;>cases t<;>simp [sq,Rat.natCast_mul]<;>grind
def Dy.q (d:Dy):Rat:=sq d.neg d.m*pw d.e
theorem Afc:dz.q=0:=by simp [Dy.q,dz,sq]
theorem Cx {a b:Nat}:(a:Rat)<(b:Rat)↔a<b:=Rat.natCast_lt_natCast
theorem Cw {a b:Nat}:(a:Rat)≤(b:Rat)↔a≤b:=Rat.natCast_le_natCast
theorem St {m:Nat}(h:m≠0):0<(m:Rat):=by
 have:=Cx.2 (Nat.pos_of_ne_zero h);simpa using this
theorem Adn {m:Nat}(h:m≠0)(e:Int):0<(m:Rat)*pw e:=Rat.mul_pos (St h) (Ja e)
theorem I0 (m:Nat){e l:Int}(h:l≤e):(m:Rat)*pw e=((m*2^(e-l).toNat:Nat):Rat)*pw l:=by
 rw [U6 h,Rat.natCast_mul,Rat.mul_assoc]
theorem Rk {a b:Rat}(e:Int):a*pw e<b*pw e↔a<b:=Rat.mul_lt_mul_right (Ja e)
theorem Gy {a b:Rat}(e:Int):a*pw e≤b*pw e↔a≤b:=by
 constructor
 ·intro h;exact Rat.le_of_mul_le_mul_right h (Ja e)
 ·intro h;exact Rat.mul_le_mul_of_nonneg_right h (Fm e)
theorem Acp (m n:Nat){e f l:Int}(h:l≤e)(k:l≤f):(m:Rat)*pw e≤(n:Rat)*pw f↔m*2^(e-l).toNat≤n*2^(f-l).toNat:=by
 rw [I0 m h,I0 n k,Gy,Cw]
theorem Ah4 (m n:Nat){e f l:Int}(h:l≤e)(k:l≤f):(m:Rat)*pw e<(n:Rat)*pw f↔m*2^(e-l).toNat<n*2^(f-l).toNat:=by
 rw [I0 m h,I0 n k,Rk,Cx]
theorem Ah3 (m n:Nat){e f l:Int}(h:l≤e)(k:l≤f):(m:Rat)*pw e=(n:Rat)*pw f↔m*2^(e-l).toNat=n*2^(f-l).toNat:=by
 constructor
 ·intro he;have h1:=(Acp m n h k).1 (by rw [he];exact Rat.le_refl);have h2:=(Acp n m k h).1 (by rw [he];exact Rat.le_refl);omega
 ·intro he;rw [I0 m h,I0 n k,he]
def Ce (x y:Rat):Int:=if x<y then -1 else if x=y then 0 else 1
theorem Ty (x y:Rat):Ce (-x) (-y)=-Ce x y:=by
 unfold Ce;by_cases h:x<y
 ·rw [if_pos h,if_neg (by grind),if_neg (by grind)];rfl
 ·by_cases h1:x=y
  ·rw [if_neg h,if_pos h1,if_neg (by grind),if_pos (by rw [h1])];rfl
  ·rw [if_neg h,if_neg h1,if_pos (by grind)]
theorem K8 {x y:Rat}:Ce x y≤0↔x≤y:=by
 unfold Ce;by_cases h:x<y
 ·rw [if_pos h];constructor<;>intro<;>first | grind | decide
 ·by_cases h1:x=y
  ·rw [if_neg h,if_pos h1];constructor<;>intro<;>first | grind | decide
  ·rw [if_neg h,if_neg h1];constructor<;>intro h2
   ·exact absurd h2 (by decide)
   ·grind
theorem Yc {x y:Rat}:0≤Ce x y↔y≤x:=by
 unfold Ce;by_cases h:x<y
 ·rw [if_pos h];constructor<;>intro h2
  ·exact absurd h2 (by decide)
  ·grind
 ·by_cases h1:x=y
  ·rw [if_neg h,if_pos h1];constructor<;>intro<;>first | grind | decide
  ·rw [if_neg h,if_neg h1];constructor<;>intro<;>first | grind | decide
theorem Mn {x y:Rat}:Ce x y<0↔x<y:=by
 have:=@Yc x y;constructor
 ·intro h;by_cases hxy:x<y
  ·exact hxy
  ·exfalso;have:(0:Int)≤Ce x y:=this.2 (by grind);omega
 ·intro h;by_cases hc:Ce x y<0
  ·exact hc
  ·exfalso;have:=this.1 (by omega);grind
theorem Sk {x y:Rat}:0<Ce x y↔y<x:=by
 have:=@K8 x y;constructor
 ·intro h;by_cases hxy:y<x
  ·exact hxy
  ·exfalso;have:Ce x y≤0:=this.2 (by grind);omega
 ·intro h;by_cases hc:0<Ce x y
  ·exact hc
  ·exfalso;have:=this.1 (by omega);grind
theorem Q7 (x:Rat):Ce x x=0:=by
 unfold Ce;rw [if_neg (by grind),if_pos rfl]
theorem Abl (m n:Nat){e f l:Int}(h:l≤e)(k:l≤f):Ce ((m:Rat)*pw e) ((n:Rat)*pw f)=Ea (m*2^(e-l).toNat) (n*2^(f-l).toNat):=by
 unfold Ce Ea;simp only [Ah4 m n h k,Ah3 m n h k]
def Fits (p:Nat) (y:Rat):Prop:=∃ s k j,bl k≤p∧y=sq s k*pw j
theorem Fits.neg {p:Nat}{y:Rat}(h:Fits p y):Fits p (-y):=by
 obtain ⟨s,k,j,hk,rfl⟩:=h;exact ⟨!s,k,j,hk,by rw [Te];grind⟩
theorem Fits.mono {p p':Nat}{y:Rat}(h:Fits p y)(hp:p≤p'):Fits p' y:=by
 obtain ⟨s,k,j,hk,rfl⟩:=h;exact ⟨s,k,j,by omega,rfl⟩
theorem Fits.pw {p:Nat}{y:Rat}(h:Fits p y)(i:Int):Fits p (y*pw i):=by
 obtain ⟨s,k,j,hk,rfl⟩:=h;exact ⟨s,k,j+i,hk,by rw [Gz,Rat.mul_assoc]⟩
theorem Fits.zero (p:Nat):Fits p 0:=⟨false,0,0,by simp [bl],by rw [Oy,Rat.zero_mul]⟩
structure IsDown (p:Nat) (x d:Rat):Prop where
 fits:Fits p d
 le:d≤x
 best:∀ y,Fits p y→y≤x→y≤d
structure IsUp (p:Nat) (x d:Rat):Prop where
 fits:Fits p d
 le:x≤d
 best:∀ y,Fits p y→x≤y→d≤y
def Xz (up:Bool) (p:Nat) (x d:Rat):Prop:=if up then IsUp p x d else IsDown p x d
theorem IsDown.neg {p:Nat}{x d:Rat}(h:IsDown p x d):IsUp p (-x) (-d) :=
 ⟨h.fits.neg,by have:=h.le;grind,fun y hy hx=>by have:=h.best (-y) hy.neg (by grind);grind⟩
theorem IsUp.neg {p:Nat}{x d:Rat}(h:IsUp p x d):IsDown p (-x) (-d) :=
 ⟨h.fits.neg,by have:=h.le;grind,fun y hy hx=>by have:=h.best (-y) hy.neg (by grind);grind⟩
theorem IsDown.mono {p p':Nat}{x x' d d':Rat}(h:IsDown p x d)(h':IsDown p' x' d')(hp:p≤p')(hx:x≤x'):d≤d' :=
 h'.best d (h.fits.mono hp) (by have:=h.le;grind)
theorem IsUp.mono {p p':Nat}{x x' d d':Rat}(h:IsUp p x d)(h':IsUp p' x' d')(hp:p≤p')(hx:x'≤x):d'≤d :=
 h'.best d (h.fits.mono hp) (by have:=h.le;grind)
theorem IsDown.of_fits {p:Nat}{x:Rat}(h:Fits p x):IsDown p x x:=⟨h,Rat.le_refl,fun _ _ h=>h⟩
theorem IsUp.of_fits {p:Nat}{x:Rat}(h:Fits p x):IsUp p x x:=⟨h,Rat.le_refl,fun _ _ h=>h⟩
theorem IsDown.pw {p:Nat}{x d:Rat}(h:IsDown p x d)(i:Int):IsDown p (x*pw i) (d*pw i):=by
 refine ⟨h.fits.pw i,(Gy i).2 h.le,fun y hy hx=>?_⟩;have h2:=h.best (y*Go.Proofs.YtmgaloopddiekaaGreatDoor.pw (-i)) (hy.pw (-i)) (by rw [←Gy i,Lh];exact hx);rw [←Gy i,Lh] at h2;exact h2
theorem IsUp.pw {p:Nat}{x d:Rat}(h:IsUp p x d)(i:Int):IsUp p (x*pw i) (d*pw i):=by
 have:=(h.neg.pw i).neg;simpa [Rat.neg_mul] using this
theorem Lp {p m':Nat}{x y:Rat}(hm:2^(p-1)≤m')(hp:1≤p)(hx:x<(m':Rat)+1)(hy:Fits p y)(hyx:y≤x):y≤m':=by
 obtain ⟨s,k,j,hk,rfl⟩:=hy;have hm0:(0:Rat)≤m':=Cw.2 (Nat.zero_le m');cases s
 case true =>
  have:sq true k*pw j≤0:=by
   have h1:(0:Rat)≤k:=Cw.2 (Nat.zero_le k);have h2:=Rat.mul_le_mul_of_nonneg_right h1 (Fm j);simp only [sq,if_true];grind
  grind
 case false =>
  simp only [sq,Bool.false_eq_true,if_false] at *;rcases Int.le_total 0 j with hj | hj
  ·have e:(k:Rat)*pw j=((k*2^j.toNat:Nat):Rat):=by
    have h:=I0 k hj;rw [M9] at h;simpa using h
   rw [e] at hyx ⊢;have h3:((k*2^j.toNat:Nat):Rat)<((m'+1:Nat):Rat):=by
    rw [Rat.natCast_add];have:((1:Nat):Rat)=1:=rfl;grind
   have:=Cx.1 h3;exact Cw.2 (by omega)
  ·by_cases hj0:j=0
   ·subst hj0;rw [M9,Rat.mul_one] at hyx ⊢;have h3:(k:Rat)<((m'+1:Nat):Rat):=by
     rw [Rat.natCast_add];have:((1:Nat):Rat)=1:=rfl;grind
    have:=Cx.1 h3;exact Cw.2 (by omega)
   ·have h1:(k:Rat)*pw j≤(k:Rat)*pw (-1):=by
     have h1:(0:Rat)≤k:=Cw.2 (Nat.zero_le k);exact Rat.mul_le_mul_of_nonneg_left (Sx (by omega)) h1
    have h2:k≤2*m':=by
     have h4:=Cm k;have h5:2^bl k≤2^p:=Nat.pow_le_pow_right (by decide) hk;have h6:2^p=2*2^(p-1):=by
      rw [←Nat.pow_succ'];congr 1;omega
     omega
    have h3:(k:Rat)≤2*(m':Rat):=by
     have:=Cw.2 h2;rw [Rat.natCast_mul] at this;exact this
    have h4:=Nr (-1);have h5:pw (-(-1:Int))=2:=Aic;rw [h5] at h4;have h6:=Ja (-1);have h7:=Rat.mul_le_mul_of_nonneg_right h3 (Fm (-1));have h8:2*(m':Rat)*pw (-1)=m':=by
     rw [Rat.mul_comm 2,Rat.mul_assoc,Rat.mul_comm 2,h4,Rat.mul_one]
    rw [h8] at h7;exact Rat.le_trans h1 h7
theorem So {p m':Nat}{x y:Rat}(hm:2^(p-1)≤m')(hp:1≤p)(hx:(m':Rat)<x)(hy:Fits p y)(hyx:x≤y):(m':Rat)+1≤y:=by
 by_cases h:(m':Rat)+1≤y
 ·exact h
 ·exfalso;have:=Lp hm hp (x:=y) (by grind) hy Rat.le_refl;grind
theorem Ahr (m n:Nat):((m/2^n:Nat):Rat)*((2^n:Nat):Rat)≤m∧(m:Rat)<(((m/2^n:Nat):Rat)+1)*((2^n:Nat):Rat):=by
 have h0:0<2^n:=Nat.two_pow_pos n;have h1:=Nat.div_add_mod m (2^n);have h2:=Nat.mod_lt m h0;constructor
 ·rw [←Rat.natCast_mul,Cw];rw [Nat.mul_comm] at h1;omega
 ·have:(((m/2^n:Nat):Rat)+1)*((2^n:Nat):Rat)=(((m/2^n+1)*2^n:Nat):Rat):=by
   rw [Rat.natCast_mul,Rat.natCast_add];rfl
  rw [this,Cx,Nat.add_mul,Nat.one_mul];rw [Nat.mul_comm] at h1;omega
theorem Ry (m n:Nat)(h:m≠0):tz m<n↔m%2^n≠0:=by
 constructor
 ·intro hlt hz;have hd:2^n ∣ m:=Nat.dvd_of_mod_eq_zero hz;have h1:=Qn m h;have h2:=Qo m h;have h3:2^(tz m+1) ∣ m:=Nat.dvd_trans (Nat.pow_dvd_pow 2 hlt) hd;obtain ⟨c,hc⟩:=h3;have h4:m/2^tz m=2*c:=by
   apply Nat.div_eq_of_eq_mul_left (Nat.two_pow_pos _);have:2^(tz m+1)*c=2*c*2^tz m:=by rw [Nat.pow_succ,Nat.mul_assoc,Nat.mul_comm]
   omega
  omega
 ·intro hz;by_cases hc:tz m<n
  ·exact hc
  ·exfalso;apply hz;exact Nat.mod_eq_zero_of_dvd (Nat.dvd_trans (Nat.pow_dvd_pow 2 (by omega)) (Tg m h))
def Jg (m:Nat) (rest:Bool) (p:Nat):Bool × Nat × Nat :=
 let n:=bl m-p
 (rest||(decide (0<n)&&decide (tz m<n)),m/2^n,n)
theorem Ahj (m n:Nat):bl (m/2^n)=bl m-n:=by
 by_cases h:m=0
 ·subst h;simp [bl]
 ·by_cases hn:n<bl m
  ·have h1:=D0 m h;have h2:=Cm m;have e:bl m-n=(bl m-n-1)+1:=by omega
   rw [e];refine Tm _ _ ?_ ?_
   ·rw [Nat.le_div_iff_mul_le (Nat.two_pow_pos n),←Nat.pow_add];have:bl m-n-1+n=bl m-1:=by omega
    rw [this];exact h1
   ·rw [Nat.div_lt_iff_lt_mul (Nat.two_pow_pos n),←Nat.pow_add];have:bl m-n-1+1+n=bl m:=by omega
    rw [this];exact h2
  ·have h2:=Cm m;have:m/2^n=0:=Nat.div_eq_of_lt (Nat.lt_of_lt_of_le h2 (Nat.pow_le_pow_right (by decide) (by omega)));rw [this,Oq];omega
def Mag (m:Nat) (rest:Bool) (M:Rat):Prop:=if rest then (m:Rat)<M∧M<(m:Rat)+1 else M=m
theorem Uc {m:Nat}{rest:Bool}{p:Nat}{M:Rat}(h:Mag m rest M)(h0:rest=true→p<bl m)(h1p:1≤p) :
 Mag (Jg m rest p).2.1 (Jg m rest p).1 (M*pw (-((bl m-p:Nat):Int)))∧((Jg m rest p).1=true→2^(p-1)≤(Jg m rest p).2.1)∧bl (Jg m rest p).2.1≤p:=by
 obtain ⟨n,hn⟩:∃ n,bl m-p=n:=⟨_,rfl⟩;simp only [Jg,hn];have hbl:bl (m/2^n)≤p:=by rw [Ahj];omega
 have hbig:0<n→2^(p-1)≤m/2^n:=by
  intro hp;have hm:m≠0:=by rintro rfl;simp [bl] at hn;omega
  have h1:=D0 m hm;rw [Nat.le_div_iff_mul_le (Nat.two_pow_pos n),←Nat.pow_add];refine Nat.le_trans (Nat.pow_le_pow_right (by decide) ?_) h1;omega
 by_cases hp:0<n
 ·have hm:m≠0:=by rintro rfl;simp [bl] at hn;omega
  have hd:decide (0<n)=true:=by simp [hp]
  rw [hd,Bool.true_and];obtain ⟨d1,d2⟩:=Ahr m n;have e1:=Nr (n:Int);rw [J5] at e1;have e2:=Ja (-(n:Int));have e3:0<((2^n:Nat):Rat):=by rw [←J5];exact Ja _
  refine ⟨?_,fun _=>hbig hp,hbl⟩;by_cases hr:(rest||decide (tz m<n))=true
  ·rw [hr];simp only [Mag,if_true];have hstrict:((m/2^n:Nat):Rat)*((2^n:Nat):Rat)<M∧M<(((m/2^n:Nat):Rat)+1)*((2^n:Nat):Rat):=by
    cases rest
    ·simp only [Mag,Bool.false_eq_true,if_false] at h;simp only [Bool.false_or,decide_eq_true_eq] at hr;have hz:=(Ry m n hm).1 hr;subst h;refine ⟨?_,d2⟩;rw [←Rat.natCast_mul,Cx];have h1:=Nat.div_add_mod m (2^n);rw [Nat.mul_comm] at h1;omega
    ·simp only [Mag,if_true] at h;refine ⟨by grind,?_⟩;have:(((m/2^n:Nat):Rat)+1)*((2^n:Nat):Rat)=(((m/2^n+1)*2^n:Nat):Rat):=by
      rw [Rat.natCast_mul,Rat.natCast_add];rfl
     rw [this] at d2 ⊢;have d3:=Cx.1 d2;have d4:((m+1:Nat):Rat)≤(((m/2^n+1)*2^n:Nat):Rat):=Cw.2 d3;rw [Rat.natCast_add] at d4;have:((1:Nat):Rat)=1:=rfl;grind
   generalize ((m/2^n:Nat):Rat)=A at *;generalize ((2^n:Nat):Rat)=B at *;generalize pw (-(n:Int))=C at *;obtain ⟨s1,s2⟩:=hstrict;have t1:=(Rat.mul_lt_mul_right e2).2 s1;have t2:=(Rat.mul_lt_mul_right e2).2 s2;rw [Rat.mul_assoc,e1,Rat.mul_one] at t1 t2;exact ⟨t1,t2⟩
  ·have hr':(rest||decide (tz m<n))=false:=by simpa using hr
   rw [hr'];simp only [Bool.or_eq_false_iff,decide_eq_false_iff_not] at hr';obtain ⟨r1,r2⟩:=hr';subst r1;simp only [Mag,Bool.false_eq_true,if_false] at h ⊢;have hz:m%2^n=0:=by
    by_cases hz:m%2^n=0
    ·exact hz
    ·exact absurd ((Ry m n hm).2 hz) r2
   have h1:=Nat.div_add_mod m (2^n);rw [hz,Nat.add_zero,Nat.mul_comm] at h1;have h2:((m/2^n:Nat):Rat)*((2^n:Nat):Rat)=m:=by rw [←Rat.natCast_mul,h1]
   subst h;rw [←h2,Rat.mul_assoc,e1,Rat.mul_one]
 ·have hn0:n=0:=by omega
  subst hn0;have hr:rest=false:=by
   cases rest
   ·rfl
   ·have:=h0 rfl;omega
  subst hr;have e:pw (-((0:Nat):Int))=1:=M9;refine ⟨?_,fun h=>?_,hbl⟩
  ·rw [e,Rat.mul_one];simpa [Mag] using h
  ·simp at h
def Jx (m:Nat) (rest:Bool) (p:Nat) (away:Bool):Nat:=if (Jg m rest p).1&&away then (Jg m rest p).2.1+1 else (Jg m rest p).2.1
theorem Ms {p m:Nat}(h:bl m≤p):Fits p (m:Rat):=⟨false,m,0,h,by simp [sq,M9]⟩
theorem Zi {p m:Nat}(h:bl m≤p)(hp:1≤p):Fits p ((m:Rat)+1):=by
 have e:(m:Rat)+1=((m+1:Nat):Rat):=by rw [Rat.natCast_add];rfl
 rw [e];by_cases hb:bl (m+1)≤p
 ·exact Ms hb
 ·have h1:=Cm m;have h2:2^bl m≤2^p:=Nat.pow_le_pow_right (by decide) h;have h3:m+1=2^p:=by
   by_cases h4:m+1<2^p
   ·exact absurd (N3 _ _ h4) hb
   ·omega
  rw [h3];refine ⟨false,1,p,?_,?_⟩
  ·have:bl 1=1:=by decide
   omega
  ·rw [J5];simp only [sq,Bool.false_eq_true,if_false];exact (Rat.one_mul _).symm
theorem La {m:Nat}{rest:Bool}{p:Nat}{M:Rat}(h:Mag m rest M)(h0:rest=true→p<bl m)(hp:1≤p) :
 IsDown p M ((Jx m rest p false:Rat)*pw ((bl m-p:Nat):Int)):=by
 obtain ⟨hm,hb,hl⟩:=Uc h h0 hp;have e1:=Nr (((bl m-p:Nat):Int));have key:IsDown p (M*pw (-((bl m-p:Nat):Int))) (Jx m rest p false:Rat):=by
  unfold Jx;rw [Bool.and_false];simp only [Bool.false_eq_true,if_false];generalize (Jg m rest p).2.1=m' at *;generalize (Jg m rest p).1=r' at *;generalize M*pw (-((bl m-p:Nat):Int))=x at *;cases r'
  ·simp only [Mag,Bool.false_eq_true,if_false] at hm;subst hm;exact .of_fits (Ms hl)
  ·simp only [Mag,if_true] at hm;exact ⟨Ms hl,by grind,fun y hy hx=>Lp (hb rfl) hp hm.2 hy hx⟩
 have:=key.pw ((bl m-p:Nat):Int);rw [Rat.mul_assoc,Rat.mul_comm (pw _),e1,Rat.mul_one] at this;exact this
theorem Ou {m:Nat}{rest:Bool}{p:Nat}{M:Rat}(h:Mag m rest M)(h0:rest=true→p<bl m)(hp:1≤p) :
 IsUp p M ((Jx m rest p true:Rat)*pw ((bl m-p:Nat):Int)):=by
 obtain ⟨hm,hb,hl⟩:=Uc h h0 hp;have e1:=Nr (((bl m-p:Nat):Int));have key:IsUp p (M*pw (-((bl m-p:Nat):Int))) (Jx m rest p true:Rat):=by
  unfold Jx;rw [Bool.and_true];generalize (Jg m rest p).2.1=m' at *;generalize (Jg m rest p).1=r' at *;generalize M*pw (-((bl m-p:Nat):Int))=x at *;cases r'
  ·simp only [Mag,Bool.false_eq_true,if_false] at hm ⊢;subst hm;exact .of_fits (Ms hl)
  ·simp only [Mag,if_true] at hm ⊢;have e:((m'+1:Nat):Rat)=(m':Rat)+1:=by rw [Rat.natCast_add];rfl
   rw [e];exact ⟨Zi hl hp,by grind,fun y hy hx=>So (hb rfl) hp hm.1 hy hx⟩
 have:=key.pw ((bl m-p:Nat):Int);rw [Rat.mul_assoc,Rat.mul_comm (pw _),e1,Rat.mul_one] at this;exact this
def Ph (neg:Bool) (m:Nat) (e:Int) (rest:Bool) (p:Nat) (up:Bool):Outc Dy :=
 Cr neg (Jx m rest p (up != neg)) (e+((bl m-p:Nat):Int))
theorem Nk {neg:Bool}{n:Nat}{e:Int}(h:(Cr neg n e).k=0):(Cr neg n e).v.q=sq neg n*pw e:=by
 unfold Cr at *;by_cases h0:n=0
 ·rw [if_pos h0];subst h0;rw [Oy,Rat.zero_mul];exact Afc
 ·rw [if_neg h0] at h ⊢;by_cases h1:64<(limbs (n/2^tz n)).length
  ·rw [if_pos h1] at h;exact absurd h (by decide)
  ·rw [if_neg h1] at h ⊢;by_cases h2:1048576<e∨e < -1048576-tz n
   ·rw [if_pos h2] at h;exact absurd h (by decide)
   ·rw [if_neg h2] at h ⊢;by_cases h3:1048576<e+tz n
    ·rw [if_pos h3] at h;exact absurd h (by decide)
    ·rw [if_neg h3];simp only [good,Dy.q];rw [Int.add_comm,Gz,J5,←Rat.mul_assoc]
     congr 1
     have:=Qn n h0;unfold sq;cases neg
     ·simp only [Bool.false_eq_true,if_false];rw [←Rat.natCast_mul,this]
     ·simp only [if_true];rw [Rat.neg_mul,←Rat.natCast_mul,this]
theorem Ub {neg:Bool}{m:Nat}{e:Int}{rest:Bool}{p:Nat}{up:Bool}{M:Rat}(h:Mag m rest M)(h0:rest=true→p<bl m)(hp:1≤p)
 (hk:(Ph neg m e rest p up).k=0):Xz up p ((if neg then -M else M)*pw e) (Ph neg m e rest p up).v.q:=by
 unfold Ph at *;rw [Nk hk,Int.add_comm,Gz,←Rat.mul_assoc];unfold Xz;cases neg<;>cases up
 ·exact ((La h h0 hp).pw e)
 ·exact ((Ou h h0 hp).pw e)
 ·have e1:(false != true)=true:=rfl;have:=((Ou h h0 hp).neg).pw e;simpa only [e1,Bool.false_eq_true,if_false,if_true,sq,Rat.neg_mul] using this
 ·have e1:(true != true)=false:=rfl;have:=((La h h0 hp).neg).pw e;simpa only [e1,Bool.false_eq_true,if_false,if_true,sq,Rat.neg_mul] using this
end Go.Proofs.YtmgaloopddiekaaGreatDoor
namespace Go.Proofs.YtmgaloopddiekaaGreatDoor
def Fg (d:Dy):Dy:=if d.m=0 then d else ⟨!d.neg,d.m,d.e⟩
theorem Ac9 (d:Dy):(Fg d).q=-d.q:=by
 unfold Fg Dy.q;by_cases h:d.m=0
 ·rw [if_pos h,h,Oy,Rat.zero_mul];rfl
 ·rw [if_neg h];simp only [Te,Rat.neg_mul]
theorem M4 {d:Dy}(h:d.Ok):(Fg d).Ok:=by
 unfold Fg;by_cases h0:d.m=0
 ·rw [if_pos h0];exact h
 ·rw [if_neg h0];exact ⟨h.len,fun hz=>absurd hz h0,h.odd,h.lo,h.hi⟩
def Md (a b:Dy):Outc Dy :=
 if ¬a.e=b.e∧4097-(bl a.m:Int)<a.e-b.e then bad 2
 else if a.neg=b.neg then Cr a.neg (a.m*2^(a.e-b.e).toNat+b.m) b.e
 else if b.m≤a.m*2^(a.e-b.e).toNat then Cr a.neg (a.m*2^(a.e-b.e).toNat-b.m) b.e
 else Cr b.neg (b.m-a.m*2^(a.e-b.e).toNat) b.e
def Du (x y:Dy):Outc Dy :=
 if x.m=0 then good y else if y.m=0 then good x else if x.e<y.e then Md y x else Md x y
theorem Aef {a b:Dy}(h:b.e≤a.e)(hk:(Md a b).k=0):(Md a b).v.q=a.q+b.q:=by
 have e1:sq a.neg (a.m*2^(a.e-b.e).toNat)*pw b.e=a.q:=by
  unfold Dy.q;have:=I0 a.m h;unfold sq;cases a.neg
  ·simp only [Bool.false_eq_true,if_false];exact this.symm
  ·simp only [if_true,Rat.neg_mul];rw [this]
 unfold Md at *;by_cases h1:¬a.e=b.e∧4097-(bl a.m:Int)<a.e-b.e
 ·rw [if_pos h1] at hk;exact absurd hk (by decide)
 ·rw [if_neg h1] at hk ⊢;generalize a.m*2^(a.e-b.e).toNat=X at *;by_cases h2:a.neg=b.neg
  ·rw [if_pos h2] at hk ⊢;rw [Nk hk,←e1];unfold Dy.q;rw [h2];unfold sq;cases b.neg
   ·simp only [Bool.false_eq_true,if_false,Rat.natCast_add,Rat.add_mul]
   ·simp only [if_true,Rat.natCast_add,Rat.neg_mul,Rat.add_mul];grind
  ·rw [if_neg h2] at hk ⊢;have e2:b.neg=!a.neg:=by cases ha:a.neg<;>cases hb:b.neg<;>simp_all
   by_cases h3:b.m≤X
   ·rw [if_pos h3] at hk ⊢;rw [Nk hk,←e1];unfold Dy.q;rw [e2,Te];obtain ⟨c,rfl⟩:∃ c,X=b.m+c:=⟨X-b.m,by omega⟩;rw [Nat.add_sub_cancel_left];unfold sq;cases a.neg
    ·simp only [Bool.false_eq_true,if_false,Rat.natCast_add,Rat.add_mul,Rat.neg_mul];grind
    ·simp only [if_true,Rat.natCast_add,Rat.neg_mul,Rat.add_mul];grind
   ·rw [if_neg h3] at hk ⊢;rw [Nk hk,←e1];unfold Dy.q;rw [e2,Te];obtain ⟨c,hc⟩:∃ c,b.m=X+c:=⟨b.m-X,by omega⟩;rw [hc,Nat.add_sub_cancel_left];unfold sq;cases a.neg
    ·simp only [Bool.false_eq_true,if_false,Rat.natCast_add,Rat.neg_mul];grind
    ·simp only [if_true,Rat.natCast_add,Rat.neg_mul];grind
theorem Qq {d:Dy}(h:d.m=0):d.q=0:=by unfold Dy.q;rw [h,Oy,Rat.zero_mul]
theorem Xt {x y:Dy}(hk:(Du x y).k=0):(Du x y).v.q=x.q+y.q:=by
 unfold Du at *;by_cases h0:x.m=0
 ·rw [if_pos h0,Qq h0,Rat.zero_add];rfl
 ·rw [if_neg h0] at hk ⊢;by_cases h1:y.m=0
  ·rw [if_pos h1,Qq h1,Rat.add_zero];rfl
  ·rw [if_neg h1] at hk ⊢;by_cases h2:x.e<y.e
   ·rw [if_pos h2] at hk ⊢;rw [Aef (by omega) hk,Rat.add_comm]
   ·rw [if_neg h2] at hk ⊢;exact Aef (by omega) hk
def Outc.Ok (o:Outc Dy):Prop:=o.v.Ok∧(o.k≠0→o.v=dz)
theorem Yp {d:Dy}(h:d.Ok):(good d).Ok:=⟨h,fun h=>absurd rfl h⟩
theorem V8 (k:Int):(bad k).Ok:=⟨Mq,fun _=>rfl⟩
theorem Agr (a b:Dy):(Md a b).Ok:=by
 unfold Md;split
 ·exact V8 _
 ·split
  ·exact Gh _ _ _
  ·split<;>exact Gh _ _ _
theorem Nf {x y:Dy}(hx:x.Ok)(hy:y.Ok):(Du x y).Ok:=by
 unfold Du;split
 ·exact Yp hy
 ·split
  ·exact Yp hx
  ·split<;>exact Agr _ _
def D7 (x y:Dy):Outc Dy:=Cr (x.neg != y.neg) (x.m*y.m) (x.e+y.e)
theorem Ah8 {x y:Dy}(hk:(D7 x y).k=0):(D7 x y).v.q=x.q*y.q:=by
 unfold D7 at *;rw [Nk hk,Aij,Gz];unfold Dy.q;grind
theorem Ld (x y:Dy):(D7 x y).Ok:=Gh _ _ _
def Eh (d:Dy) (p:Nat) (up:Bool):Outc Dy:=Ph d.neg d.m d.e false p up
theorem G8 (d:Dy)(p:Nat)(up:Bool):(Eh d p up).Ok:=Gh _ _ _
theorem Ue {d:Dy}{p:Nat}{up:Bool}(hp:1≤p)(hk:(Eh d p up).k=0):Xz up p d.q (Eh d p up).v.q:=by
 have h:=Ub (neg:=d.neg) (m:=d.m) (e:=d.e) (rest:=false) (p:=p) (up:=up) (M:=d.m) (by simp [Mag]) (by simp) hp hk;have e:(if d.neg then -(d.m:Rat) else d.m)*pw d.e=d.q:=rfl;rw [e] at h;exact h
def Ee (a b:Dy) (p:Nat):Nat:=p+1+bl b.m-bl a.m
def Cg (a b:Dy) (p:Nat) (up:Bool):Outc Dy :=
 Ph (a.neg != b.neg) (a.m*2^Ee a b p/b.m) (a.e-b.e-Ee a b p) (decide (¬a.m*2^Ee a b p%b.m=0)) p up
theorem Uw (n m:Nat)(h:m≠0):Mag (n/m) (decide (¬n%m=0)) ((n:Rat)/m):=by
 have hm:0<(m:Rat):=St h;have h1:=Nat.div_add_mod n m;have h2:=Nat.mod_lt n (Nat.pos_of_ne_zero h);rw [Nat.mul_comm] at h1;by_cases hr:n%m=0
 ·have:decide (¬n%m=0)=false:=by simp [hr]
  rw [this];simp only [Mag,Bool.false_eq_true,if_false];rw [hr,Nat.add_zero] at h1;have h3:(n:Rat)=((n/m:Nat):Rat)*m:=by rw [←Rat.natCast_mul,h1]
  rw [h3];generalize ((n/m:Nat):Rat)=A;rw [Rat.mul_div_cancel (by grind)]
 ·have:decide (¬n%m=0)=true:=by simp [hr]
  rw [this];simp only [Mag,if_true];rw [Rat.lt_div_iff hm,Rat.div_lt_iff hm,←Rat.natCast_mul];have e:((n/m:Nat):Rat)+1=((n/m+1:Nat):Rat):=by rw [Rat.natCast_add];rfl
  rw [e,←Rat.natCast_mul,Cx,Cx,Nat.add_mul,Nat.one_mul];omega
theorem Agg (a b p:Nat)(ha:a≠0)(hb:b≠0)(k:Nat)(hk:p+1+bl b≤bl a+k):p<bl (a*2^k/b):=by
 apply Acm;rw [Nat.le_div_iff_mul_le (Nat.pos_of_ne_zero hb)];have h1:=D0 a ha;have h2:=Cm b;have h3:2^p*b≤2^p*2^bl b:=Nat.mul_le_mul_left _ (by omega);have h4:2^(bl a-1)*2^k≤a*2^k:=Nat.mul_le_mul_right _ h1;rw [←Nat.pow_add] at h3 h4;refine Nat.le_trans h3 (Nat.le_trans (Nat.pow_le_pow_right (by decide) ?_) h4);have:=Id a ha;omega
theorem Aii (s t:Bool)(x:Rat)(m n:Nat)(hx:(m:Rat)=x*n):(if (s != t) then -x else x)*sq t n=sq s m:=by
 cases s<;>cases t<;>simp [sq,hx]<;>grind
theorem Ro {a b:Dy}{p:Nat}{up:Bool}(hp:1≤p)(hb:b.m≠0)(hk:(Cg a b p up).k=0):Xz up p (a.q/b.q) (Cg a b p up).v.q:=by
 unfold Cg at *;have hm:=Uw (a.m*2^Ee a b p) b.m hb;have h:=Ub hm ?_ hp hk
 ·have e:(if (a.neg != b.neg) then -(((a.m*2^Ee a b p:Nat):Rat)/b.m) else ((a.m*2^Ee a b p:Nat):Rat)/b.m)*pw (a.e-b.e-Ee a b p)=a.q/b.q:=by
   have hbq:b.q≠0:=by
    have:=Adn hb b.e;unfold Dy.q sq;cases b.neg<;>simp<;>grind
   have hb0:=St hb;rw [Rat.div_def a.q];have key:(if (a.neg != b.neg) then -(((a.m*2^Ee a b p:Nat):Rat)/b.m) else ((a.m*2^Ee a b p:Nat):Rat)/b.m)*pw (a.e-b.e-Ee a b p)*b.q=a.q:=by
    unfold Dy.q;have h1:=Aii a.neg b.neg (((a.m*2^Ee a b p:Nat):Rat)/b.m) (a.m*2^Ee a b p) b.m (by rw [Rat.div_mul_cancel (by grind)]);have h2:pw (a.e-b.e-Ee a b p)*pw b.e*pw (Ee a b p)=pw a.e:=by
     rw [←Gz,←Gz];congr 1;omega
    have h3:sq a.neg (a.m*2^Ee a b p)=sq a.neg a.m*pw (Ee a b p):=by
     rw [J5];unfold sq;cases a.neg<;>simp [Rat.natCast_mul,Rat.neg_mul]
    rw [h3] at h1;generalize (if (a.neg != b.neg) then -(((a.m*2^Ee a b p:Nat):Rat)/b.m) else ((a.m*2^Ee a b p:Nat):Rat)/b.m)=A at *;generalize sq a.neg a.m=B at *;generalize sq b.neg b.m=C at *;have h4:=Ja (Ee a b p);have h5:=Ajr (Ee a b p);generalize pw (a.e-b.e-Ee a b p)=D at *;generalize pw (Ee a b p)=E at *;generalize pw b.e=F at *;generalize pw a.e=G at *;have h6:A*D*(C*F)=B*(D*F*E):=by
     have:A*D*(C*F)=(A*C)*(D*F):=by grind
     rw [this,h1];grind
    rw [h6,h2]
   rw [←key,Rat.mul_assoc,Rat.mul_inv_cancel _ hbq,Rat.mul_one]
  rw [e] at h;exact h
 ·intro hr;have ha:a.m≠0:=by
   intro ha;rw [ha,Nat.zero_mul,Nat.zero_mod] at hr;simp at hr
  exact Agg a.m b.m p ha hb (Ee a b p) (by unfold Ee;omega)
theorem Ed (a b:Dy)(p:Nat)(up:Bool):(Cg a b p up).Ok:=Gh _ _ _
end Go.Proofs.YtmgaloopddiekaaGreatDoor
namespace Go.Proofs.YtmgaloopddiekaaGreatDoor
def L9 (d:Dy) (p:Nat):Nat:=2*p+2-bl d.m
def Lw (d:Dy) (p:Nat):Nat:=if (d.e-L9 d p)%2=0 then L9 d p else L9 d p+1
def Lv (d:Dy) (p:Nat) (up:Bool):Outc Dy :=
 Ph false (isq (d.m*2^Lw d p)) ((d.e-Lw d p)/2) (decide (¬isq (d.m*2^Lw d p)*isq (d.m*2^Lw d p)=d.m*2^Lw d p)) p up
theorem Vi (d:Dy)(p:Nat)(up:Bool):(Lv d p up).Ok:=Gh _ _ _
theorem Xl (d:Dy)(p:Nat):(d.e-Lw d p)%2=0:=by
 unfold Lw;by_cases h:(d.e-L9 d p)%2=0
 ·rw [if_pos h];exact h
 ·rw [if_neg h];omega
theorem Adv (d:Dy)(p:Nat):L9 d p≤Lw d p:=by
 unfold Lw;split<;>omega
structure L4 (p:Nat) (x d:Rat):Prop where
 fits:Fits p d
 nonneg:0≤d
 le:d*d≤x
 best:∀ y,Fits p y→0≤y→y*y≤x→y≤d
structure O0 (p:Nat) (x d:Rat):Prop where
 fits:Fits p d
 nonneg:0≤d
 le:x≤d*d
 best:∀ y,Fits p y→0≤y→x≤y*y→d≤y
def Q0 (up:Bool) (p:Nat) (x d:Rat):Prop:=if up then O0 p x d else L4 p x d
theorem Rt {a b:Rat}(ha:0≤a)(h:a≤b):a*a≤b*b:=by
 have h1:=Rat.mul_le_mul_of_nonneg_left h ha;have h2:=Rat.mul_le_mul_of_nonneg_right h (by grind:0≤b);grind
theorem Aha {a b:Rat}(hb:0≤b)(h:a*a<b*b):a<b:=by
 by_cases hc:a<b
 ·exact hc
 ·have:=Rt hb (by grind:b≤a);grind
theorem Acn {a b:Rat}(ha:0≤a)(h:a<b):a*a<b*b:=by
 have h1:=Rt ha (by grind:a≤b);by_cases hc:a*a<b*b
 ·exact hc
 ·exfalso;have h2:a*a=b*b:=by grind
  have h3:=(Rat.mul_lt_mul_right (by grind:0<b)).2 h;have h4:=Rat.mul_le_mul_of_nonneg_left (by grind:a≤b) ha;grind
theorem Ae1 (x y:Rat):∃ M,x<M∧M<x+1∧(y<x+1→y≤M):=by
 by_cases h:x<y∧y<x+1
 ·exact ⟨y,h.1,h.2,fun _=>Rat.le_refl⟩
 ·refine ⟨x+1/2,by grind,by grind,fun hy=>?_⟩;have:¬x<y:=fun hx=>h ⟨hx,hy⟩
  grind
theorem Aa8 (x y:Rat):∃ M,x<M∧M<x+1∧(x<y→M≤y):=by
 by_cases h:x<y∧y<x+1
 ·exact ⟨y,h.1,h.2,fun _=>Rat.le_refl⟩
 ·refine ⟨x+1/2,by grind,by grind,fun hx=>?_⟩;have:¬y<x+1:=fun hy=>h ⟨hx,hy⟩
  grind
theorem Fz (n:Nat):(0:Rat)≤n:=Cw.2 (Nat.zero_le n)
theorem Qx {m x:Nat}{p:Nat}(h1:x*x≤m)(h2:m<(x+1)*(x+1))(h0:¬x*x=m→p<bl x)(hp:1≤p) :
 L4 p m ((Jx x (decide (¬x*x=m)) p false:Rat)*pw ((bl x-p:Nat):Int)):=by
 have q1:((x:Rat))*x≤m:=by rw [←Rat.natCast_mul];exact Cw.2 h1
 have q2:(m:Rat)<(x+1)*(x+1):=by
  have:=Cx.2 h2;rw [Rat.natCast_mul,Rat.natCast_add] at this;exact this
 have hx0:=Fz x;have hnn:(0:Rat)≤(Jx x (decide (¬x*x=m)) p false:Rat)*pw ((bl x-p:Nat):Int):=Rat.mul_nonneg (Fz _) (Fm _);by_cases he:x*x=m
 ·have hd:decide (¬x*x=m)=false:=by simp [he]
  rw [hd] at hnn ⊢;have k:=La (m:=x) (rest:=false) (p:=p) (M:=x) (by simp [Mag]) (by simp) hp;have q3:(m:Rat)=x*x:=by rw [←Rat.natCast_mul,he]
  rw [q3];exact ⟨k.fits,hnn,Rt hnn k.le,fun y hy hy0 hyx=>k.best y hy (by
   by_cases hc:y≤x
   ·exact hc
   ·have:=Acn hx0 (by grind:(x:Rat)<y);grind)⟩
 ·have hd:decide (¬x*x=m)=true:=by simp [he]
  rw [hd] at hnn ⊢;have k:=fun M (a:(x:Rat)<M) (b:M<x+1)=>La (m:=x) (rest:=true) (p:=p) (M:=M) (by simp only [Mag,if_true];exact ⟨a,b⟩) (fun _=>h0 he) hp
  generalize (Jx x true p false:Rat)*pw ((bl x-p:Nat):Int)=d at *;have k1:=k (x+1/2) (by grind) (by grind);have hdx:d≤x:=by
   by_cases hc:d≤x
   ·exact hc
   ·exfalso;have k2:=k (if d<x+1/2 then (x+d)/2 else x+1/4) (by split<;>grind) (by split<;>grind);have:=k2.le;split at this<;>grind
  refine ⟨k1.fits,hnn,Rat.le_trans (Rt hnn hdx) q1,fun y hy hy0 hyx=>?_⟩;obtain ⟨M,a,b,c⟩:=Ae1 x y;exact (k M a b).best y hy (c (Aha (by grind) (by grind)))
theorem Vj {m x:Nat}{p:Nat}(h1:x*x≤m)(h2:m<(x+1)*(x+1))(h0:¬x*x=m→p<bl x)(hp:1≤p) :
 O0 p m ((Jx x (decide (¬x*x=m)) p true:Rat)*pw ((bl x-p:Nat):Int)):=by
 have q1:((x:Rat))*x≤m:=by rw [←Rat.natCast_mul];exact Cw.2 h1
 have q2:(m:Rat)<(x+1)*(x+1):=by
  have:=Cx.2 h2;rw [Rat.natCast_mul,Rat.natCast_add] at this;exact this
 have hx0:=Fz x;have hnn:(0:Rat)≤(Jx x (decide (¬x*x=m)) p true:Rat)*pw ((bl x-p:Nat):Int):=Rat.mul_nonneg (Fz _) (Fm _);by_cases he:x*x=m
 ·have hd:decide (¬x*x=m)=false:=by simp [he]
  rw [hd] at hnn ⊢;have k:=Ou (m:=x) (rest:=false) (p:=p) (M:=x) (by simp [Mag]) (by simp) hp;have q3:(m:Rat)=x*x:=by rw [←Rat.natCast_mul,he]
  rw [q3];exact ⟨k.fits,hnn,Rt hx0 k.le,fun y hy hy0 hyx=>k.best y hy (by
   by_cases hc:(x:Rat)≤y
   ·exact hc
   ·have:=Acn hy0 (by grind:y<(x:Rat));grind)⟩
 ·have hd:decide (¬x*x=m)=true:=by simp [he]
  rw [hd] at hnn ⊢;have k:=fun M (a:(x:Rat)<M) (b:M<x+1)=>Ou (m:=x) (rest:=true) (p:=p) (M:=M) (by simp only [Mag,if_true];exact ⟨a,b⟩) (fun _=>h0 he) hp
  have q4:(x:Rat)*x<m:=by rw [←Rat.natCast_mul];exact Cx.2 (by omega)
  generalize (Jx x true p true:Rat)*pw ((bl x-p:Nat):Int)=d at *;have k1:=k (x+1/2) (by grind) (by grind);have hdx:(x:Rat)+1≤d:=by
   by_cases hc:(x:Rat)+1≤d
   ·exact hc
   ·exfalso;have k2:=k (if x+1/2<d then (x+1+d)/2 else x+3/4) (by split<;>grind) (by split<;>grind);have:=k2.le;split at this<;>grind
  refine ⟨k1.fits,hnn,?_,fun y hy hy0 hyx=>?_⟩
  ·have:=Rt (by grind:(0:Rat)≤x+1) hdx;grind
  ·obtain ⟨M,a,b,c⟩:=Aa8 x y;exact (k M a b).best y hy (c (Aha hy0 (by grind)))
theorem Agi (a p:Nat)(ha:a≠0)(k:Nat)(hk:2*p+2≤bl a+k):p<bl (isq (a*2^k)):=by
 apply Acm;have h1:=D0 a ha;have h4:2^(bl a-1)*2^k≤a*2^k:=Nat.mul_le_mul_right _ h1;rw [←Nat.pow_add] at h4;have h5:2^(2*p)≤a*2^k:=Nat.le_trans (Nat.pow_le_pow_right (by decide) (by have:=Id a ha;omega)) h4;have h6:2^(2*p)=2^p*2^p:=by rw [←Nat.pow_add];congr 1;omega
 have h7:=(Uq (a*2^k)).2;have h8:=Ad5 (a:=2^p) (b:=isq (a*2^k)+1) (by omega);omega
theorem Rp {d:Dy}{p:Nat}{up:Bool}(hp:1≤p)(hn:d.neg=false)(hk:(Lv d p up).k=0):Q0 up p d.q (Lv d p up).v.q:=by
 unfold Lv Ph at *;rw [Nk hk];have hev:=Xl d p;have hle:=Adv d p;have hk0:2*p+2≤bl d.m+L9 d p:=by unfold L9;omega
 clear hk;generalize Lw d p=k at *;obtain ⟨s1,s2⟩:=Uq (d.m*2^k);have h0:¬isq (d.m*2^k)*isq (d.m*2^k)=d.m*2^k→p<bl (isq (d.m*2^k)):=by
  intro hne;have ha:d.m≠0:=by
   intro ha;rw [ha,Nat.zero_mul] at hne;exact hne rfl
  exact Agi d.m p ha k (by omega)
 generalize isq (d.m*2^k)=x at *;have hq:d.q=((d.m*2^k:Nat):Rat)*(pw ((d.e-k)/2)*pw ((d.e-k)/2)):=by
  unfold Dy.q;rw [hn,←Gz];have:(d.e-k)/2+(d.e-k)/2=d.e-k:=by omega
  rw [this,Rat.natCast_mul,←J5,Rat.mul_assoc,←Gz];simp only [sq,Bool.false_eq_true,if_false]
  congr 2;omega
 have hup:(up != false)=up:=by cases up<;>rfl
 rw [hq,hup];generalize (d.e-k)/2=h at *;have hh:=Ja h;have hh2:=Rat.mul_pos hh hh;have hc:=Nr h;have e0:sq false (Jx x (decide (¬x*x=d.m*2^k)) p up)*pw (h+((bl x-p:Nat):Int))=((Jx x (decide (¬x*x=d.m*2^k)) p up:Rat)*pw ((bl x-p:Nat):Int))*pw h:=by
  simp only [sq,Bool.false_eq_true,if_false];rw [Gz,Rat.mul_comm (pw h),Rat.mul_assoc]
 rw [e0];have ypos:∀ y:Rat,0≤y→0≤y*pw (-h):=fun y hy=>Rat.mul_nonneg hy (Fm _)
 have yy:∀ y:Rat,(y*pw (-h))*(y*pw (-h))*(pw h*pw h)=y*y:=by
  intro y;have:(y*pw (-h))*(y*pw (-h))*(pw h*pw h)=(y*y)*((pw h*pw (-h))*(pw h*pw (-h))):=by grind
  rw [this,hc];grind
 unfold Q0;cases up
 ·simp only [Bool.false_eq_true,if_false];have k1:=Qx s1 s2 h0 hp;generalize (Jx x (decide (¬x*x=d.m*2^k)) p false:Rat)*pw ((bl x-p:Nat):Int)=r at *;refine ⟨k1.fits.pw h,Rat.mul_nonneg k1.nonneg (Fm h),?_,fun y hy hy0 hyx=>?_⟩
  ·have:=Rat.mul_le_mul_of_nonneg_right k1.le (Rat.le_of_lt hh2);grind
  ·have:=k1.best (y*pw (-h)) (hy.pw (-h)) (ypos y hy0) (by
    apply Rat.le_of_mul_le_mul_right _ hh2;rw [yy];exact hyx)
   rw [←Gy h,Lh] at this;exact this
 ·simp only [if_true];have k1:=Vj s1 s2 h0 hp;generalize (Jx x (decide (¬x*x=d.m*2^k)) p true:Rat)*pw ((bl x-p:Nat):Int)=r at *;refine ⟨k1.fits.pw h,Rat.mul_nonneg k1.nonneg (Fm h),?_,fun y hy hy0 hyx=>?_⟩
  ·have:=Rat.mul_le_mul_of_nonneg_right k1.le (Rat.le_of_lt hh2);grind
  ·have:=k1.best (y*pw (-h)) (hy.pw (-h)) (ypos y hy0) (by
    apply Rat.le_of_mul_le_mul_right _ hh2;rw [yy];exact hyx)
   rw [←Gy h,Lh] at this;exact this
end Go.Proofs.YtmgaloopddiekaaGreatDoor
