/- Words and contracts, part 5. -/
import Derived.Test.YtinbgjcooolbiaaGreatDoorClaimAsksp02
set_option maxRecDepth 100000
set_option maxHeartbeats 0
namespace Go.Proofs.YtinbgjcooolbiaaGreatDoor
def Lv (n:Nat):Nat→Nat→Nat
 | 0,x=>x
 | f+1,x=>if x≤(x+n/x)/2 then x else Lv n f ((x+n/x)/2)
def isq (n:Nat):Nat:=if n=0 then 0 else Lv n (2^((bl n+1)/2)) (2^((bl n+1)/2))
theorem Ng (n x:Nat)(hx:0<x):n<((x+n/x)/2+1)*((x+n/x)/2+1):=by
 have a:=Nat.lt_mul_div_succ n hx;generalize n/x=q at *;generalize hy:(x+q)/2=y at *;have b:x+q+1≤2*(y+1):=by omega
 -- n < x (q + 1), and 4 x (q + 1) ≤ (x + q + 1)^2
 have c:4*(x*(q+1))≤(x+(q+1))*(x+(q+1)):=by
  rcases Nat.le_total x (q+1) with h | h
  ·obtain ⟨d,hd⟩:∃ d,q+1=x+d:=⟨q+1-x,by omega⟩;rw [hd];have e:(x+(x+d))*(x+(x+d))=4*(x*(x+d))+d*d:=by grind
   omega
  ·obtain ⟨d,hd⟩:∃ d,x=(q+1)+d:=⟨x-(q+1),by omega⟩;rw [hd];have e:(q+1+d+(q+1))*(q+1+d+(q+1))=4*((q+1+d)*(q+1))+d*d:=by grind
   omega
 have d:(x+(q+1))*(x+(q+1))≤(2*(y+1))*(2*(y+1)):=Nat.mul_le_mul (by omega) (by omega);have e:(2*(y+1))*(2*(y+1))=4*((y+1)*(y+1)):=by grind
 omega
theorem Vg (n x:Nat)(hx:0<x)(h:x≤(x+n/x)/2):x*x≤n:=by
 have:x≤n/x:=by omega
 rwa [Nat.le_div_iff_mul_le hx] at this
theorem Rp (n x:Nat)(hx:0<x)(hn:0<n):0<(x+n/x)/2:=by
 have:=Ng n x hx;by_cases h:(x+n/x)/2=0
 ·rw [h] at this;omega
 ·exact Nat.pos_of_ne_zero h
theorem N9 (n:Nat)(hn:0<n):∀ f x,0<x→x≤f→n<(x+1)*(x+1)→Lv n f x*Lv n f x≤n∧n<(Lv n f x+1)*(Lv n f x+1)
 | 0,x,hx,hf,_=>by omega
 | f + 1, x, hx, hf, h => by
   unfold Lv;by_cases hd:x≤(x+n/x)/2
   ·rw [if_pos hd];exact ⟨Vg n x hx hd,h⟩
   ·rw [if_neg hd];exact N9 n hn f _ (Rp n x hx hn) (by omega) (Ng n x hx)
theorem Ur (n:Nat):n<(2^((bl n+1)/2)+1)*(2^((bl n+1)/2)+1):=by
 have a:=Bg n;have b:2^bl n≤2^((bl n+1)/2+(bl n+1)/2):=Nat.pow_le_pow_right (by decide) (by omega);rw [Nat.pow_add] at b;have c:=Nat.mul_le_mul (Nat.le_succ (2^((bl n+1)/2))) (Nat.le_succ (2^((bl n+1)/2)));exact Nat.lt_of_lt_of_le a (Nat.le_trans b c)
theorem Mu (n:Nat):isq n*isq n≤n∧n<(isq n+1)*(isq n+1):=by
 unfold isq;by_cases h:n=0
 ·subst h;simp
 ·rw [if_neg h];exact N9 n (by omega) _ _ (Nat.pow_pos (by decide)) (Nat.le_refl _) (Ur n)
end Go.Proofs.YtinbgjcooolbiaaGreatDoor
namespace Go.Proofs.YtinbgjcooolbiaaGreatDoor
def pw (e:Int):Rat:=(2:Rat)^e
theorem Jy (e:Int):0<pw e:=Rat.zpow_pos (by decide)
theorem H7 (a b:Int):pw (a+b)=pw a*pw b:=Rat.zpow_add (by decide) a b
theorem I9:pw 0=1:=Rat.zpow_zero _
theorem Xn:pw 1=2:=Rat.zpow_one _
theorem Jx (n:Nat):pw (n:Int)=((2^n:Nat):Rat):=by
 unfold pw;rw [Rat.zpow_natCast,Rat.natCast_pow];rfl
theorem M3 (e:Int):pw e*pw (-e)=1:=by rw [←H7,Int.add_right_neg,I9]
theorem Ol (y:Rat)(i:Int):y*pw (-i)*pw i=y:=by rw [Rat.mul_assoc,Rat.mul_comm (pw (-i)),M3,Rat.mul_one]
theorem I8 (e:Int):0≤pw e:=Rat.le_of_lt (Jy e)
theorem Q5 {a b:Int}(h:a≤b):pw b=((2^(b-a).toNat:Nat):Rat)*pw a:=by
 rw [←Jx,←H7];congr 1;omega
theorem Pq {a b:Int}(h:a≤b):pw a≤pw b:=by
 rw [Q5 h];have h1:(1:Rat)≤((2^(b-a).toNat:Nat):Rat):=by
  have:=Rat.natCast_le_natCast.2 (Nat.one_le_two_pow (n:=(b-a).toNat));exact this
 have h2:=Rat.mul_le_mul_of_nonneg_right h1 (I8 a);grind
def sq (s:Bool) (m:Nat):Rat:=if s then -(m:Rat) else m
theorem Py (s:Bool)(m:Nat):sq (!s) m=-sq s m:=by cases s<;>simp [sq]
theorem Mc (s:Bool):sq s 0=0:=by cases s<;>simp [sq]
theorem Ace (s t:Bool)(m n:Nat):sq (s != t) (m*n)=sq s m*sq t n:=by
 cases s<;>cases t<;>simp [sq,Rat.natCast_mul]<;>grind
def Dy.q (d:Dy):Rat:=sq d.neg d.m*pw d.e
theorem Ul:dz.q=0:=by simp [Dy.q,dz,sq]
theorem Dn {a b:Nat}:(a:Rat)<(b:Rat)↔a<b:=Rat.natCast_lt_natCast
theorem Cy {a b:Nat}:(a:Rat)≤(b:Rat)↔a≤b:=Rat.natCast_le_natCast
theorem Zy {m:Nat}(h:m≠0):0<(m:Rat):=by
 have:=Dn.2 (Nat.pos_of_ne_zero h);simpa using this
theorem Aba {m:Nat}(h:m≠0)(e:Int):0<(m:Rat)*pw e:=Rat.mul_pos (Zy h) (Jy e)
theorem Gr (m:Nat){e l:Int}(h:l≤e):(m:Rat)*pw e=((m*2^(e-l).toNat:Nat):Rat)*pw l:=by
 rw [Q5 h,Rat.natCast_mul,Rat.mul_assoc]
theorem Og {a b:Rat}(e:Int):a*pw e<b*pw e↔a<b:=Rat.mul_lt_mul_right (Jy e)
theorem Hf {a b:Rat}(e:Int):a*pw e≤b*pw e↔a≤b:=by
 constructor
 ·intro h;exact Rat.le_of_mul_le_mul_right h (Jy e)
 ·intro h;exact Rat.mul_le_mul_of_nonneg_right h (I8 e)
theorem W0 (m n:Nat){e f l:Int}(h:l≤e)(k:l≤f):(m:Rat)*pw e≤(n:Rat)*pw f↔m*2^(e-l).toNat≤n*2^(f-l).toNat:=by
 rw [Gr m h,Gr n k,Hf,Cy]
theorem Ab5 (m n:Nat){e f l:Int}(h:l≤e)(k:l≤f):(m:Rat)*pw e<(n:Rat)*pw f↔m*2^(e-l).toNat<n*2^(f-l).toNat:=by
 rw [Gr m h,Gr n k,Og,Dn]
theorem Ab4 (m n:Nat){e f l:Int}(h:l≤e)(k:l≤f):(m:Rat)*pw e=(n:Rat)*pw f↔m*2^(e-l).toNat=n*2^(f-l).toNat:=by
 constructor
 ·intro he;have h1:=(W0 m n h k).1 (by rw [he];exact Rat.le_refl);have h2:=(W0 n m k h).1 (by rw [he];exact Rat.le_refl);omega
 ·intro he;rw [Gr m h,Gr n k,he]
def Bn (x y:Rat):Int:=if x<y then -1 else if x=y then 0 else 1
theorem Qd (x y:Rat):Bn (-x) (-y)=-Bn x y:=by
 unfold Bn;by_cases h:x<y
 ·rw [if_pos h,if_neg (by grind),if_neg (by grind)];rfl
 ·by_cases h1:x=y
  ·rw [if_neg h,if_pos h1,if_neg (by grind),if_pos (by rw [h1])];rfl
  ·rw [if_neg h,if_neg h1,if_pos (by grind)]
theorem Gm {x y:Rat}:Bn x y≤0↔x≤y:=by
 unfold Bn;by_cases h:x<y
 ·rw [if_pos h];constructor<;>intro<;>first | grind | decide
 ·by_cases h1:x=y
  ·rw [if_neg h,if_pos h1];constructor<;>intro<;>first | grind | decide
  ·rw [if_neg h,if_neg h1];constructor<;>intro h2
   ·exact absurd h2 (by decide)
   ·grind
theorem O9 {x y:Rat}:0≤Bn x y↔y≤x:=by
 unfold Bn;by_cases h:x<y
 ·rw [if_pos h];constructor<;>intro h2
  ·exact absurd h2 (by decide)
  ·grind
 ·by_cases h1:x=y
  ·rw [if_neg h,if_pos h1];constructor<;>intro<;>first | grind | decide
  ·rw [if_neg h,if_neg h1];constructor<;>intro<;>first | grind | decide
theorem Gn {x y:Rat}:Bn x y<0↔x<y:=by
 have:=@O9 x y;constructor
 ·intro h;by_cases hxy:x<y
  ·exact hxy
  ·exfalso;have:(0:Int)≤Bn x y:=this.2 (by grind);omega
 ·intro h;by_cases hc:Bn x y<0
  ·exact hc
  ·exfalso;have:=this.1 (by omega);grind
theorem I0 {x y:Rat}:0<Bn x y↔y<x:=by
 have:=@Gm x y;constructor
 ·intro h;by_cases hxy:y<x
  ·exact hxy
  ·exfalso;have:Bn x y≤0:=this.2 (by grind);omega
 ·intro h;by_cases hc:0<Bn x y
  ·exact hc
  ·exfalso;have:=this.1 (by omega);grind
theorem I1 (x:Rat):Bn x x=0:=by
 unfold Bn;rw [if_neg (by grind),if_pos rfl]
theorem V8 (m n:Nat){e f l:Int}(h:l≤e)(k:l≤f):Bn ((m:Rat)*pw e) ((n:Rat)*pw f)=Bw (m*2^(e-l).toNat) (n*2^(f-l).toNat):=by
 unfold Bn Bw;simp only [Ab5 m n h k,Ab4 m n h k]
def Fits (p:Nat) (y:Rat):Prop:=∃ s k j,bl k≤p∧y=sq s k*pw j
theorem Fits.neg {p:Nat}{y:Rat}(h:Fits p y):Fits p (-y):=by
 obtain ⟨s,k,j,hk,rfl⟩:=h;exact ⟨!s,k,j,hk,by rw [Py];grind⟩
theorem Fits.mono {p p':Nat}{y:Rat}(h:Fits p y)(hp:p≤p'):Fits p' y:=by
 obtain ⟨s,k,j,hk,rfl⟩:=h;exact ⟨s,k,j,by omega,rfl⟩
theorem Fits.pw {p:Nat}{y:Rat}(h:Fits p y)(i:Int):Fits p (y*pw i):=by
 obtain ⟨s,k,j,hk,rfl⟩:=h;exact ⟨s,k,j+i,hk,by rw [H7,Rat.mul_assoc]⟩
theorem Fits.zero (p:Nat):Fits p 0:=⟨false,0,0,by simp [bl],by rw [Mc,Rat.zero_mul]⟩
structure IsDown (p:Nat) (x d:Rat):Prop where
 fits:Fits p d
 le:d≤x
 best:∀ y,Fits p y→y≤x→y≤d
structure IsUp (p:Nat) (x d:Rat):Prop where
 fits:Fits p d
 le:x≤d
 best:∀ y,Fits p y→x≤y→d≤y
def Vs (up:Bool) (p:Nat) (x d:Rat):Prop:=if up then IsUp p x d else IsDown p x d
theorem IsDown.neg {p:Nat}{x d:Rat}(h:IsDown p x d):IsUp p (-x) (-d) :=
 ⟨h.fits.neg,by have:=h.le;grind,fun y hy hx=>by have:=h.best (-y) hy.neg (by grind);grind⟩
theorem IsUp.neg {p:Nat}{x d:Rat}(h:IsUp p x d):IsDown p (-x) (-d) :=
 ⟨h.fits.neg,by have:=h.le;grind,fun y hy hx=>by have:=h.best (-y) hy.neg (by grind);grind⟩
theorem IsDown.mono {p p':Nat}{x x' d d':Rat}(h:IsDown p x d)(h':IsDown p' x' d')(hp:p≤p')(hx:x≤x'):d≤d' :=
 h'.best d (h.fits.mono hp) (by have:=h.le;grind)
theorem IsUp.mono {p p':Nat}{x x' d d':Rat}(h:IsUp p x d)(h':IsUp p' x' d')(hp:p≤p')(hx:x'≤x):d'≤d :=
 h'.best d (h.fits.mono hp) (by have:=h.le;grind)
theorem IsDown.of_fits {p:Nat}{x:Rat}(h:Fits p x):IsDown p x x:=⟨h,Rat.le_refl,fun _ _ h=>h⟩
theorem IsUp.of_fits {p:Nat}{x:Rat}(h:Fits p x):IsUp p x x:=⟨h,Rat.le_refl,fun _ _ h=>h⟩
theorem IsDown.pw {p:Nat}{x d:Rat}(h:IsDown p x d)(i:Int):IsDown p (x*pw i) (d*pw i):=by
 refine ⟨h.fits.pw i,(Hf i).2 h.le,fun y hy hx=>?_⟩;have h2:=h.best (y*Go.Proofs.YtinbgjcooolbiaaGreatDoor.pw (-i)) (hy.pw (-i)) (by rw [←Hf i,Ol];exact hx);rw [←Hf i,Ol] at h2;exact h2
theorem IsUp.pw {p:Nat}{x d:Rat}(h:IsUp p x d)(i:Int):IsUp p (x*pw i) (d*pw i):=by
 have:=(h.neg.pw i).neg;simpa [Rat.neg_mul] using this
theorem Jg {p m':Nat}{x y:Rat}(hm:2^(p-1)≤m')(hp:1≤p)(hx:x<(m':Rat)+1)(hy:Fits p y)(hyx:y≤x):y≤m':=by
 obtain ⟨s,k,j,hk,rfl⟩:=hy;have hm0:(0:Rat)≤m':=Cy.2 (Nat.zero_le m');cases s
 case true =>
  have:sq true k*pw j≤0:=by
   have h1:(0:Rat)≤k:=Cy.2 (Nat.zero_le k);have h2:=Rat.mul_le_mul_of_nonneg_right h1 (I8 j);simp only [sq,if_true];grind
  grind
 case false =>
  simp only [sq,Bool.false_eq_true,if_false] at *;rcases Int.le_total 0 j with hj | hj
  ·have e:(k:Rat)*pw j=((k*2^j.toNat:Nat):Rat):=by
    have h:=Gr k hj;rw [I9] at h;simpa using h
   rw [e] at hyx ⊢;have h3:((k*2^j.toNat:Nat):Rat)<((m'+1:Nat):Rat):=by
    rw [Rat.natCast_add];have:((1:Nat):Rat)=1:=rfl;grind
   have:=Dn.1 h3;exact Cy.2 (by omega)
  ·by_cases hj0:j=0
   ·subst hj0;rw [I9,Rat.mul_one] at hyx ⊢;have h3:(k:Rat)<((m'+1:Nat):Rat):=by
     rw [Rat.natCast_add];have:((1:Nat):Rat)=1:=rfl;grind
    have:=Dn.1 h3;exact Cy.2 (by omega)
   ·have h1:(k:Rat)*pw j≤(k:Rat)*pw (-1):=by
     have h1:(0:Rat)≤k:=Cy.2 (Nat.zero_le k);exact Rat.mul_le_mul_of_nonneg_left (Pq (by omega)) h1
    have h2:k≤2*m':=by
     have h4:=Bg k;have h5:2^bl k≤2^p:=Nat.pow_le_pow_right (by decide) hk;have h6:2^p=2*2^(p-1):=by
      rw [←Nat.pow_succ'];congr 1;omega
     omega
    have h3:(k:Rat)≤2*(m':Rat):=by
     have:=Cy.2 h2;rw [Rat.natCast_mul] at this;exact this
    have h4:=M3 (-1);have h5:pw (-(-1:Int))=2:=Xn;rw [h5] at h4;have h6:=Jy (-1);have h7:=Rat.mul_le_mul_of_nonneg_right h3 (I8 (-1));have h8:2*(m':Rat)*pw (-1)=m':=by
     rw [Rat.mul_comm 2,Rat.mul_assoc,Rat.mul_comm 2,h4,Rat.mul_one]
    rw [h8] at h7;exact Rat.le_trans h1 h7
theorem Pf {p m':Nat}{x y:Rat}(hm:2^(p-1)≤m')(hp:1≤p)(hx:(m':Rat)<x)(hy:Fits p y)(hyx:x≤y):(m':Rat)+1≤y:=by
 by_cases h:(m':Rat)+1≤y
 ·exact h
 ·exfalso;have:=Jg hm hp (x:=y) (by grind) hy Rat.le_refl;grind
theorem Abx (m n:Nat):((m/2^n:Nat):Rat)*((2^n:Nat):Rat)≤m∧(m:Rat)<(((m/2^n:Nat):Rat)+1)*((2^n:Nat):Rat):=by
 have h0:0<2^n:=Nat.two_pow_pos n;have h1:=Nat.div_add_mod m (2^n);have h2:=Nat.mod_lt m h0;constructor
 ·rw [←Rat.natCast_mul,Cy];rw [Nat.mul_comm] at h1;omega
 ·have:(((m/2^n:Nat):Rat)+1)*((2^n:Nat):Rat)=(((m/2^n+1)*2^n:Nat):Rat):=by
   rw [Rat.natCast_mul,Rat.natCast_add];rfl
  rw [this,Dn,Nat.add_mul,Nat.one_mul];rw [Nat.mul_comm] at h1;omega
theorem Lh (m n:Nat)(h:m≠0):tz m<n↔m%2^n≠0:=by
 constructor
 ·intro hlt hz;have hd:2^n ∣ m:=Nat.dvd_of_mod_eq_zero hz;have h1:=No m h;have h2:=Li m h;have h3:2^(tz m+1) ∣ m:=Nat.dvd_trans (Nat.pow_dvd_pow 2 hlt) hd;obtain ⟨c,hc⟩:=h3;have h4:m/2^tz m=2*c:=by
   apply Nat.div_eq_of_eq_mul_left (Nat.two_pow_pos _);have:2^(tz m+1)*c=2*c*2^tz m:=by rw [Nat.pow_succ,Nat.mul_assoc,Nat.mul_comm]
   omega
  omega
 ·intro hz;by_cases hc:tz m<n
  ·exact hc
  ·exfalso;apply hz;exact Nat.mod_eq_zero_of_dvd (Nat.dvd_trans (Nat.pow_dvd_pow 2 (by omega)) (Nn m h))
def Ga (m:Nat) (rest:Bool) (p:Nat):Bool × Nat × Nat :=
 let n:=bl m-p
 (rest||(decide (0<n)&&decide (tz m<n)),m/2^n,n)
theorem Vy (m n:Nat):bl (m/2^n)=bl m-n:=by
 by_cases h:m=0
 ·subst h;simp [bl]
 ·by_cases hn:n<bl m
  ·have h1:=Dk m h;have h2:=Bg m;have e:bl m-n=(bl m-n-1)+1:=by omega
   rw [e];refine P8 _ _ ?_ ?_
   ·rw [Nat.le_div_iff_mul_le (Nat.two_pow_pos n),←Nat.pow_add];have:bl m-n-1+n=bl m-1:=by omega
    rw [this];exact h1
   ·rw [Nat.div_lt_iff_lt_mul (Nat.two_pow_pos n),←Nat.pow_add];have:bl m-n-1+1+n=bl m:=by omega
    rw [this];exact h2
  ·have h2:=Bg m;have:m/2^n=0:=Nat.div_eq_of_lt (Nat.lt_of_lt_of_le h2 (Nat.pow_le_pow_right (by decide) (by omega)));rw [this,Hq];omega
def Mag (m:Nat) (rest:Bool) (M:Rat):Prop:=if rest then (m:Rat)<M∧M<(m:Rat)+1 else M=m
theorem Qf {m:Nat}{rest:Bool}{p:Nat}{M:Rat}(h:Mag m rest M)(h0:rest=true→p<bl m)(h1p:1≤p) :
 Mag (Ga m rest p).2.1 (Ga m rest p).1 (M*pw (-((bl m-p:Nat):Int)))∧((Ga m rest p).1=true→2^(p-1)≤(Ga m rest p).2.1)∧bl (Ga m rest p).2.1≤p:=by
 obtain ⟨n,hn⟩:∃ n,bl m-p=n:=⟨_,rfl⟩;simp only [Ga,hn];have hbl:bl (m/2^n)≤p:=by rw [Vy];omega
 have hbig:0<n→2^(p-1)≤m/2^n:=by
  intro hp;have hm:m≠0:=by rintro rfl;simp [bl] at hn;omega
  have h1:=Dk m hm;rw [Nat.le_div_iff_mul_le (Nat.two_pow_pos n),←Nat.pow_add];refine Nat.le_trans (Nat.pow_le_pow_right (by decide) ?_) h1;omega
 by_cases hp:0<n
 ·have hm:m≠0:=by rintro rfl;simp [bl] at hn;omega
  have hd:decide (0<n)=true:=by simp [hp]
  rw [hd,Bool.true_and];obtain ⟨d1,d2⟩:=Abx m n;have e1:=M3 (n:Int);rw [Jx] at e1;have e2:=Jy (-(n:Int));have e3:0<((2^n:Nat):Rat):=by rw [←Jx];exact Jy _
  refine ⟨?_,fun _=>hbig hp,hbl⟩;by_cases hr:(rest||decide (tz m<n))=true
  ·rw [hr];simp only [Mag,if_true];have hstrict:((m/2^n:Nat):Rat)*((2^n:Nat):Rat)<M∧M<(((m/2^n:Nat):Rat)+1)*((2^n:Nat):Rat):=by
    cases rest
    ·simp only [Mag,Bool.false_eq_true,if_false] at h;simp only [Bool.false_or,decide_eq_true_eq] at hr;have hz:=(Lh m n hm).1 hr;subst h;refine ⟨?_,d2⟩;rw [←Rat.natCast_mul,Dn];have h1:=Nat.div_add_mod m (2^n);rw [Nat.mul_comm] at h1;omega
    ·simp only [Mag,if_true] at h;refine ⟨by grind,?_⟩;have:(((m/2^n:Nat):Rat)+1)*((2^n:Nat):Rat)=(((m/2^n+1)*2^n:Nat):Rat):=by
      rw [Rat.natCast_mul,Rat.natCast_add];rfl
     rw [this] at d2 ⊢;have d3:=Dn.1 d2;have d4:((m+1:Nat):Rat)≤(((m/2^n+1)*2^n:Nat):Rat):=Cy.2 d3;rw [Rat.natCast_add] at d4;have:((1:Nat):Rat)=1:=rfl;grind
   generalize ((m/2^n:Nat):Rat)=A at *;generalize ((2^n:Nat):Rat)=B at *;generalize pw (-(n:Int))=C at *;obtain ⟨s1,s2⟩:=hstrict;have t1:=(Rat.mul_lt_mul_right e2).2 s1;have t2:=(Rat.mul_lt_mul_right e2).2 s2;rw [Rat.mul_assoc,e1,Rat.mul_one] at t1 t2;exact ⟨t1,t2⟩
  ·have hr':(rest||decide (tz m<n))=false:=by simpa using hr
   rw [hr'];simp only [Bool.or_eq_false_iff,decide_eq_false_iff_not] at hr';obtain ⟨r1,r2⟩:=hr';subst r1;simp only [Mag,Bool.false_eq_true,if_false] at h ⊢;have hz:m%2^n=0:=by
    by_cases hz:m%2^n=0
    ·exact hz
    ·exact absurd ((Lh m n hm).2 hz) r2
   have h1:=Nat.div_add_mod m (2^n);rw [hz,Nat.add_zero,Nat.mul_comm] at h1;have h2:((m/2^n:Nat):Rat)*((2^n:Nat):Rat)=m:=by rw [←Rat.natCast_mul,h1]
   subst h;rw [←h2,Rat.mul_assoc,e1,Rat.mul_one]
 ·have hn0:n=0:=by omega
  subst hn0;have hr:rest=false:=by
   cases rest
   ·rfl
   ·have:=h0 rfl;omega
  subst hr;have e:pw (-((0:Nat):Int))=1:=I9;refine ⟨?_,fun h=>?_,hbl⟩
  ·rw [e,Rat.mul_one];simpa [Mag] using h
  ·simp at h
def Ku (m:Nat) (rest:Bool) (p:Nat) (away:Bool):Nat:=if (Ga m rest p).1&&away then (Ga m rest p).2.1+1 else (Ga m rest p).2.1
theorem Ke {p m:Nat}(h:bl m≤p):Fits p (m:Rat):=⟨false,m,0,h,by simp [sq,I9]⟩
theorem Um {p m:Nat}(h:bl m≤p)(hp:1≤p):Fits p ((m:Rat)+1):=by
 have e:(m:Rat)+1=((m+1:Nat):Rat):=by rw [Rat.natCast_add];rfl
 rw [e];by_cases hb:bl (m+1)≤p
 ·exact Ke hb
 ·have h1:=Bg m;have h2:2^bl m≤2^p:=Nat.pow_le_pow_right (by decide) h;have h3:m+1=2^p:=by
   by_cases h4:m+1<2^p
   ·exact absurd (G8 _ _ h4) hb
   ·omega
  rw [h3];refine ⟨false,1,p,?_,?_⟩
  ·have:bl 1=1:=by decide
   omega
  ·rw [Jx];simp only [sq,Bool.false_eq_true,if_false];exact (Rat.one_mul _).symm
theorem N7 {m:Nat}{rest:Bool}{p:Nat}{M:Rat}(h:Mag m rest M)(h0:rest=true→p<bl m)(hp:1≤p) :
 IsDown p M ((Ku m rest p false:Rat)*pw ((bl m-p:Nat):Int)):=by
 obtain ⟨hm,hb,hl⟩:=Qf h h0 hp;have e1:=M3 (((bl m-p:Nat):Int));have key:IsDown p (M*pw (-((bl m-p:Nat):Int))) (Ku m rest p false:Rat):=by
  unfold Ku;rw [Bool.and_false];simp only [Bool.false_eq_true,if_false];generalize (Ga m rest p).2.1=m' at *;generalize (Ga m rest p).1=r' at *;generalize M*pw (-((bl m-p:Nat):Int))=x at *;cases r'
  ·simp only [Mag,Bool.false_eq_true,if_false] at hm;subst hm;exact .of_fits (Ke hl)
  ·simp only [Mag,if_true] at hm;exact ⟨Ke hl,by grind,fun y hy hx=>Jg (hb rfl) hp hm.2 hy hx⟩
 have:=key.pw ((bl m-p:Nat):Int);rw [Rat.mul_assoc,Rat.mul_comm (pw _),e1,Rat.mul_one] at this;exact this
theorem Tl {m:Nat}{rest:Bool}{p:Nat}{M:Rat}(h:Mag m rest M)(h0:rest=true→p<bl m)(hp:1≤p) :
 IsUp p M ((Ku m rest p true:Rat)*pw ((bl m-p:Nat):Int)):=by
 obtain ⟨hm,hb,hl⟩:=Qf h h0 hp;have e1:=M3 (((bl m-p:Nat):Int));have key:IsUp p (M*pw (-((bl m-p:Nat):Int))) (Ku m rest p true:Rat):=by
  unfold Ku;rw [Bool.and_true];generalize (Ga m rest p).2.1=m' at *;generalize (Ga m rest p).1=r' at *;generalize M*pw (-((bl m-p:Nat):Int))=x at *;cases r'
  ·simp only [Mag,Bool.false_eq_true,if_false] at hm ⊢;subst hm;exact .of_fits (Ke hl)
  ·simp only [Mag,if_true] at hm ⊢;have e:((m'+1:Nat):Rat)=(m':Rat)+1:=by rw [Rat.natCast_add];rfl
   rw [e];exact ⟨Um hl hp,by grind,fun y hy hx=>Pf (hb rfl) hp hm.1 hy hx⟩
 have:=key.pw ((bl m-p:Nat):Int);rw [Rat.mul_assoc,Rat.mul_comm (pw _),e1,Rat.mul_one] at this;exact this
def Kt (neg:Bool) (m:Nat) (e:Int) (rest:Bool) (p:Nat) (up:Bool):Outc Dy :=
 Ci neg (Ku m rest p (up != neg)) (e+((bl m-p:Nat):Int))
theorem Mr {neg:Bool}{n:Nat}{e:Int}(h:(Ci neg n e).k=0):(Ci neg n e).v.q=sq neg n*pw e:=by
 unfold Ci at *;by_cases h0:n=0
 ·rw [if_pos h0];subst h0;rw [Mc,Rat.zero_mul];exact Ul
 ·rw [if_neg h0] at h ⊢;by_cases h1:64<(limbs (n/2^tz n)).length
  ·rw [if_pos h1] at h;exact absurd h (by decide)
  ·rw [if_neg h1] at h ⊢;by_cases h2:1048576<e∨e < -1048576-tz n
   ·rw [if_pos h2] at h;exact absurd h (by decide)
   ·rw [if_neg h2] at h ⊢;by_cases h3:1048576<e+tz n
    ·rw [if_pos h3] at h;exact absurd h (by decide)
    ·rw [if_neg h3];simp only [good,Dy.q];rw [Int.add_comm,H7,Jx,←Rat.mul_assoc]
     congr 1
     have:=No n h0;unfold sq;cases neg
     ·simp only [Bool.false_eq_true,if_false];rw [←Rat.natCast_mul,this]
     ·simp only [if_true];rw [Rat.neg_mul,←Rat.natCast_mul,this]
theorem Wc {neg:Bool}{m:Nat}{e:Int}{rest:Bool}{p:Nat}{up:Bool}{M:Rat}(h:Mag m rest M)(h0:rest=true→p<bl m)(hp:1≤p)
 (hk:(Kt neg m e rest p up).k=0):Vs up p ((if neg then -M else M)*pw e) (Kt neg m e rest p up).v.q:=by
 unfold Kt at *;rw [Mr hk,Int.add_comm,H7,←Rat.mul_assoc];unfold Vs;cases neg<;>cases up
 ·exact ((N7 h h0 hp).pw e)
 ·exact ((Tl h h0 hp).pw e)
 ·have e1:(false != true)=true:=rfl;have:=((Tl h h0 hp).neg).pw e;simpa only [e1,Bool.false_eq_true,if_false,if_true,sq,Rat.neg_mul] using this
 ·have e1:(true != true)=false:=rfl;have:=((N7 h h0 hp).neg).pw e;simpa only [e1,Bool.false_eq_true,if_false,if_true,sq,Rat.neg_mul] using this
end Go.Proofs.YtinbgjcooolbiaaGreatDoor
namespace Go.Proofs.YtinbgjcooolbiaaGreatDoor
def Cv (d:Dy):Dy:=if d.m=0 then d else ⟨!d.neg,d.m,d.e⟩
theorem Sr (d:Dy):(Cv d).q=-d.q:=by
 unfold Cv Dy.q;by_cases h:d.m=0
 ·rw [if_pos h,h,Mc,Rat.zero_mul];rfl
 ·rw [if_neg h];simp only [Py,Rat.neg_mul]
theorem Ff {d:Dy}(h:d.Ok):(Cv d).Ok:=by
 unfold Cv;by_cases h0:d.m=0
 ·rw [if_pos h0];exact h
 ·rw [if_neg h0];exact ⟨h.len,fun hz=>absurd hz h0,h.odd,h.lo,h.hi⟩
def It (a b:Dy):Outc Dy :=
 if ¬a.e=b.e∧4097-(bl a.m:Int)<a.e-b.e then bad 2
 else if a.neg=b.neg then Ci a.neg (a.m*2^(a.e-b.e).toNat+b.m) b.e
 else if b.m≤a.m*2^(a.e-b.e).toNat then Ci a.neg (a.m*2^(a.e-b.e).toNat-b.m) b.e
 else Ci b.neg (b.m-a.m*2^(a.e-b.e).toNat) b.e
def Dl (x y:Dy):Outc Dy :=
 if x.m=0 then good y else if y.m=0 then good x else if x.e<y.e then It y x else It x y
theorem Yg {a b:Dy}(h:b.e≤a.e)(hk:(It a b).k=0):(It a b).v.q=a.q+b.q:=by
 have e1:sq a.neg (a.m*2^(a.e-b.e).toNat)*pw b.e=a.q:=by
  unfold Dy.q;have:=Gr a.m h;unfold sq;cases a.neg
  ·simp only [Bool.false_eq_true,if_false];exact this.symm
  ·simp only [if_true,Rat.neg_mul];rw [this]
 unfold It at *;by_cases h1:¬a.e=b.e∧4097-(bl a.m:Int)<a.e-b.e
 ·rw [if_pos h1] at hk;exact absurd hk (by decide)
 ·rw [if_neg h1] at hk ⊢;generalize a.m*2^(a.e-b.e).toNat=X at *;by_cases h2:a.neg=b.neg
  ·rw [if_pos h2] at hk ⊢;rw [Mr hk,←e1];unfold Dy.q;rw [h2];unfold sq;cases b.neg
   ·simp only [Bool.false_eq_true,if_false,Rat.natCast_add,Rat.add_mul]
   ·simp only [if_true,Rat.natCast_add,Rat.neg_mul,Rat.add_mul];grind
  ·rw [if_neg h2] at hk ⊢;have e2:b.neg=!a.neg:=by cases ha:a.neg<;>cases hb:b.neg<;>simp_all
   by_cases h3:b.m≤X
   ·rw [if_pos h3] at hk ⊢;rw [Mr hk,←e1];unfold Dy.q;rw [e2,Py];obtain ⟨c,rfl⟩:∃ c,X=b.m+c:=⟨X-b.m,by omega⟩;rw [Nat.add_sub_cancel_left];unfold sq;cases a.neg
    ·simp only [Bool.false_eq_true,if_false,Rat.natCast_add,Rat.add_mul,Rat.neg_mul];grind
    ·simp only [if_true,Rat.natCast_add,Rat.neg_mul,Rat.add_mul];grind
   ·rw [if_neg h3] at hk ⊢;rw [Mr hk,←e1];unfold Dy.q;rw [e2,Py];obtain ⟨c,hc⟩:∃ c,b.m=X+c:=⟨b.m-X,by omega⟩;rw [hc,Nat.add_sub_cancel_left];unfold sq;cases a.neg
    ·simp only [Bool.false_eq_true,if_false,Rat.natCast_add,Rat.neg_mul];grind
    ·simp only [if_true,Rat.natCast_add,Rat.neg_mul];grind
theorem Np {d:Dy}(h:d.m=0):d.q=0:=by unfold Dy.q;rw [h,Mc,Rat.zero_mul]
theorem Yh {x y:Dy}(hk:(Dl x y).k=0):(Dl x y).v.q=x.q+y.q:=by
 unfold Dl at *;by_cases h0:x.m=0
 ·rw [if_pos h0,Np h0,Rat.zero_add];rfl
 ·rw [if_neg h0] at hk ⊢;by_cases h1:y.m=0
  ·rw [if_pos h1,Np h1,Rat.add_zero];rfl
  ·rw [if_neg h1] at hk ⊢;by_cases h2:x.e<y.e
   ·rw [if_pos h2] at hk ⊢;rw [Yg (by omega) hk,Rat.add_comm]
   ·rw [if_neg h2] at hk ⊢;exact Yg (by omega) hk
def Outc.Ok (o:Outc Dy):Prop:=o.v.Ok∧(o.k≠0→o.v=dz)
theorem Tq {d:Dy}(h:d.Ok):(good d).Ok:=⟨h,fun h=>absurd rfl h⟩
theorem Ox (k:Int):(bad k).Ok:=⟨dz_ok,fun _=>rfl⟩
theorem Aay (a b:Dy):(It a b).Ok:=by
 unfold It;split
 ·exact Ox _
 ·split
  ·exact Hu _ _ _
  ·split<;>exact Hu _ _ _
theorem Gx {x y:Dy}(hx:x.Ok)(hy:y.Ok):(Dl x y).Ok:=by
 unfold Dl;split
 ·exact Tq hy
 ·split
  ·exact Tq hx
  ·split<;>exact Aay _ _
def Bz (x y:Dy):Outc Dy:=Ci (x.neg != y.neg) (x.m*y.m) (x.e+y.e)
theorem Ab9 {x y:Dy}(hk:(Bz x y).k=0):(Bz x y).v.q=x.q*y.q:=by
 unfold Bz at *;rw [Mr hk,Ace,H7];unfold Dy.q;grind
theorem Fe (x y:Dy):(Bz x y).Ok:=Hu _ _ _
def Bv (d:Dy) (p:Nat) (up:Bool):Outc Dy:=Kt d.neg d.m d.e false p up
theorem Gp (d:Dy)(p:Nat)(up:Bool):(Bv d p up).Ok:=Hu _ _ _
theorem Qi {d:Dy}{p:Nat}{up:Bool}(hp:1≤p)(hk:(Bv d p up).k=0):Vs up p d.q (Bv d p up).v.q:=by
 have h:=Wc (neg:=d.neg) (m:=d.m) (e:=d.e) (rest:=false) (p:=p) (up:=up) (M:=d.m) (by simp [Mag]) (by simp) hp hk;have e:(if d.neg then -(d.m:Rat) else d.m)*pw d.e=d.q:=rfl;rw [e] at h;exact h
def Om (a b:Dy) (p:Nat):Nat:=p+1+bl b.m-bl a.m
def B8 (a b:Dy) (p:Nat) (up:Bool):Outc Dy :=
 Kt (a.neg != b.neg) (a.m*2^Om a b p/b.m) (a.e-b.e-Om a b p) (decide (¬a.m*2^Om a b p%b.m=0)) p up
theorem E4 (a b:Dy)(p:Nat)(up:Bool):(B8 a b p up).Ok:=Hu _ _ _
end Go.Proofs.YtinbgjcooolbiaaGreatDoor
namespace Go.Proofs.YtinbgjcooolbiaaGreatDoor
def Jz (d:Dy) (p:Nat):Nat:=2*p+2-bl d.m
def Lr (d:Dy) (p:Nat):Nat:=if (d.e-Jz d p)%2=0 then Jz d p else Jz d p+1
def Jm (d:Dy) (p:Nat) (up:Bool):Outc Dy :=
 Kt false (isq (d.m*2^Lr d p)) ((d.e-Lr d p)/2) (decide (¬isq (d.m*2^Lr d p)*isq (d.m*2^Lr d p)=d.m*2^Lr d p)) p up
theorem Xv (d:Dy)(p:Nat)(up:Bool):(Jm d p up).Ok:=Hu _ _ _
theorem S7 (d:Dy)(p:Nat):(d.e-Lr d p)%2=0:=by
 unfold Lr;by_cases h:(d.e-Jz d p)%2=0
 ·rw [if_pos h];exact h
 ·rw [if_neg h];omega
theorem between (x y:Rat):∃ M,x<M∧M<x+1∧(y<x+1→y≤M):=by
 by_cases h:x<y∧y<x+1
 ·exact ⟨y,h.1,h.2,fun _=>Rat.le_refl⟩
 ·refine ⟨x+1/2,by grind,by grind,fun hy=>?_⟩;have:¬x<y:=fun hx=>h ⟨hx,hy⟩
  grind
end Go.Proofs.YtinbgjcooolbiaaGreatDoor
namespace Go.Proofs.YtinbgjcooolbiaaGreatDoor
def Eq (a b:Dy):Int :=
 if (bl a.m:Int)+a.e<bl b.m+b.e then -1 else if (bl b.m:Int)+b.e<bl a.m+a.e then 1
 else Bw (a.m*2^(a.e-min a.e b.e).toNat) (b.m*2^(b.e-min a.e b.e).toNat)
theorem Wz {m:Nat}(h:m≠0)(e:Int):pw (bl m+e-1)≤(m:Rat)*pw e∧(m:Rat)*pw e<pw (bl m+e):=by
 have h1:=Dk m h;have h2:=Bg m;have h3:=Gz m h;constructor
 ·have e1:pw (bl m+e-1)=((2^(bl m-1):Nat):Rat)*pw e:=by
   rw [←Jx,←H7];congr 1;omega
  rw [e1,Hf,Cy];exact h1
 ·have e1:pw (bl m+e)=((2^bl m:Nat):Rat)*pw e:=by
   rw [←Jx,←H7]
  rw [e1,Og,Dn];exact h2
theorem Jr {x y:Rat}(h:x<y):Bn x y=-1:=by unfold Bn;rw [if_pos h]
theorem Jq {x y:Rat}(h:y<x):Bn x y=1:=by unfold Bn;rw [if_neg (by grind),if_neg (by grind)]
theorem Uc {a b:Dy}(ha:a.m≠0)(hb:b.m≠0):Eq a b=Bn ((a.m:Rat)*pw a.e) ((b.m:Rat)*pw b.e):=by
 obtain ⟨a1,a2⟩:=Wz ha a.e;obtain ⟨b1,b2⟩:=Wz hb b.e;unfold Eq;by_cases h1:(bl a.m:Int)+a.e<bl b.m+b.e
 ·rw [if_pos h1,Jr];have:=Pq (show (bl a.m:Int)+a.e≤bl b.m+b.e-1 by omega);grind
 ·rw [if_neg h1];by_cases h2:(bl b.m:Int)+b.e<bl a.m+a.e
  ·rw [if_pos h2,Jq];have:=Pq (show (bl b.m:Int)+b.e≤bl a.m+a.e-1 by omega);grind
  ·rw [if_neg h2];exact (V8 a.m b.m (Int.min_le_left _ _) (Int.min_le_right _ _)).symm
def sg (d:Dy):Int:=if d.m=0 then 0 else if d.neg then -1 else 1
theorem Pw {d:Dy}(h:sg d=1):0<d.q∧d.q=(d.m:Rat)*pw d.e∧d.m≠0:=by
 unfold sg at h;by_cases h0:d.m=0
 ·rw [if_pos h0] at h;exact absurd h (by decide)
 ·rw [if_neg h0] at h;unfold Dy.q sq;cases hn:d.neg
  ·simp only [Bool.false_eq_true,if_false];exact ⟨Aba h0 _,trivial,h0⟩
  ·rw [hn] at h;exact absurd h (by decide)
theorem Nb {d:Dy}(h:sg d=-1):d.q<0∧d.q=-((d.m:Rat)*pw d.e)∧d.m≠0:=by
 unfold sg at h;by_cases h0:d.m=0
 ·rw [if_pos h0] at h;exact absurd h (by decide)
 ·rw [if_neg h0] at h;unfold Dy.q sq;cases hn:d.neg
  ·rw [hn] at h;exact absurd h (by decide)
  ·simp only [if_true,Rat.neg_mul];have:=Aba h0 d.e;exact ⟨by grind,trivial,h0⟩
theorem Px {d:Dy}(h:sg d=0):d.q=0:=by
 unfold sg at h;by_cases h0:d.m=0
 ·exact Np h0
 ·rw [if_neg h0] at h;split at h<;>exact absurd h (by decide)
theorem Fq (d:Dy):sg d=-1∨sg d=0∨sg d=1:=by
 unfold sg;split
 ·exact .inr (.inl rfl)
 ·split
  ·exact .inl rfl
  ·exact .inr (.inr rfl)
theorem Aan (d:Dy):sg d=Bn d.q 0:=by
 rcases Fq d with h | h | h
 ·rw [h,Jr (Nb h).1]
 ·rw [h,Px h,I1]
 ·rw [h,Jq (Pw h).1]
theorem R8 {a b:Dy}(h:sg a<sg b):Bn a.q b.q=-1:=by
 apply Jr;rw [Aan,Aan] at h;have h1:=@Gn a.q 0;have h2:=@I0 b.q 0;have h3:=@Gm a.q 0;have h4:=@O9 b.q 0;rcases Fq a with ha | ha | ha<;>rcases Fq b with hb | hb | hb<;>rw [Aan] at ha hb<;>rw [ha,hb] at h<;>first | (exact absurd h (by decide)) | skip
 all_goals (rw [ha] at h1 h3;rw [hb] at h2 h4;simp at h1 h2 h3 h4;grind)
theorem Wb {a b:Dy}(h:sg b<sg a):Bn a.q b.q=1:=by
 have h1:=R8 h;have h2:=Qd b.q a.q;have h3:=@Gn b.q a.q;rw [h1] at h3;exact Jq (h3.1 (by decide))
theorem Qe {a b:Dy}(h:sg a=sg b):Bn a.q b.q=if sg a=0 then 0 else sg a*Eq a b:=by
 rcases Fq a with ha | ha | ha
 ·rw [ha,if_neg (by decide)];obtain ⟨_,a1,a2⟩:=Nb ha;obtain ⟨_,b1,b2⟩:=Nb (h▸ha);rw [a1,b1,Qd,Uc a2 b2];omega
 ·rw [ha,if_pos rfl,Px ha,Px (h▸ha),I1]
 ·rw [ha,if_neg (by decide)];obtain ⟨_,a1,a2⟩:=Pw ha;obtain ⟨_,b1,b2⟩:=Pw (h▸ha);rw [a1,b1,Uc a2 b2];omega
structure Iv where
 lo:Dy
 hi:Dy
def iz:Iv:=⟨dz,dz⟩
structure RawI where
 lo:Raw
 hi:Raw
def Iv.raw (a:Iv):RawI:=⟨a.lo.raw,a.hi.raw⟩
structure Iv.Ok (a:Iv):Prop where
 lo:a.lo.Ok
 hi:a.hi.Ok
 le:a.lo.q≤a.hi.q
def Dj (a:RawI):Bool:=Em a.lo&&Em a.hi&&decide (Bn a.lo.dy.q a.hi.dy.q≤0)
theorem Eg {a:Iv}(h:a.Ok):Dj a.raw=true:=by
 unfold Dj Iv.raw;simp only [h.lo.may,h.hi.may,Dy.raw_dy,Bool.true_and,decide_eq_true_eq];exact Gm.2 h.le
def Outc.bind {α β:Type} (o:Outc α) (z:β) (f:α→Outc β):Outc β:=if o.k=0 then f o.v else ⟨z,o.k⟩
theorem Outc.bind_ok {α β:Type}{o:Outc α}{z:β}{f:α→Outc β}(h:(o.bind z f).k=0):o.k=0∧o.bind z f=f o.v:=by
 unfold Outc.bind at *;by_cases hk:o.k=0
 ·rw [if_pos hk] at h ⊢;exact ⟨hk,rfl⟩
 ·rw [if_neg hk] at h;exact absurd h hk
theorem Outc.bind_of {α β:Type}{o:Outc α}(z:β)(f:α→Outc β)(h:o.k=0):o.bind z f=f o.v:=by unfold Outc.bind;rw [if_pos h]
def D0 (lo hi:Outc Dy):Outc Iv:=lo.bind iz fun l=>hi.bind iz fun h=>⟨⟨l,h⟩,0⟩
def Ig (o:Outc Dy) (p:Nat) (up:Bool):Outc Dy:=o.bind dz fun d=>Bv d p up
def Hn (a b:Iv) (p:Nat):Outc Iv:=D0 (Ig (Dl a.lo b.lo) p false) (Ig (Dl a.hi b.hi) p true)
def Lf (a b:Iv) (p:Nat):Outc Iv:=D0 (Ig (Dl a.lo (Cv b.hi)) p false) (Ig (Dl a.hi (Cv b.lo)) p true)
def K6 (a:Iv) (p:Nat):Outc Iv:=D0 (Bv (Cv a.hi) p false) (Bv (Cv a.lo) p true)
def Bp (d:Dy):List Dy→Dy
 | []=>d
 | x::l=>Bp (if Bn x.q d.q<0 then x else d) l
def Av (d:Dy):List Dy→Dy
 | []=>d
 | x::l=>Av (if 0<Bn x.q d.q then x else d) l
def four (a b c d:Outc Dy) (f:Dy→Dy→Dy→Dy→Outc Iv):Outc Iv :=
 a.bind iz fun x=>b.bind iz fun y=>c.bind iz fun z=>d.bind iz fun u=>f x y z u
def H4 (a b:Iv) (p:Nat):Outc Iv :=
 four (Bz a.lo b.lo) (Bz a.lo b.hi) (Bz a.hi b.lo) (Bz a.hi b.hi) fun x y z u =>
  D0 (Bv (Bp x [x,y,z,u]) p false) (Bv (Av x [x,y,z,u]) p true)
def Cm (b:Iv):Bool:=decide (Bn b.lo.q 0≤0)&&decide (Bn 0 b.hi.q≤0)
def Jc (a b:Iv) (p:Nat):Outc Iv :=
 if Cm b then ⟨iz,4⟩ else
 four (B8 a.lo b.lo p false) (B8 a.lo b.hi p false) (B8 a.hi b.lo p false) (B8 a.hi b.hi p false) fun x y z u =>
 four (B8 a.lo b.lo p true) (B8 a.lo b.hi p true) (B8 a.hi b.lo p true) (B8 a.hi b.hi p true) fun x' y' z' u' =>
  ⟨⟨Bp x [x,y,z,u],Av x' [x',y',z',u']⟩,0⟩
def F3 (a:Iv) (p:Nat):Outc Iv :=
 (Bz a.lo a.lo).bind iz fun x=>(Bz a.hi a.hi).bind iz fun y =>
   D0 (Bv (if Cm a then dz else Bp x [x,y]) p false) (Bv (Av x [x,y]) p true)
def Gv (a:Iv) (p:Nat):Outc Iv :=
 if sg a.lo<0 then ⟨iz,4⟩ else D0 (Jm a.lo p false) (Jm a.hi p true)
end Go.Proofs.YtinbgjcooolbiaaGreatDoor
