/- Words and contracts, part 11. -/
import Derived.Test.YtmgaloopddiekaaGreatDoorClaimFargsp10
set_option maxRecDepth 100000
set_option maxHeartbeats 0
namespace Go.Proofs.YtmgaloopddiekaaGreatDoor
def shS (xs:List Nat) (b:Nat):Nat→List Nat × Nat
 | 0=>(List.replicate xs.length 0,0)
 | d + 1 => let s := shS xs b d
   (s.1.set (xs.length-1-d) ((s.2*18446744073709551616+nth xs (xs.length-1-d))/b),(s.2*18446744073709551616+nth xs (xs.length-1-d))%b)
theorem Jt (xs:List Nat)(b d:Nat):shS xs b (d+1)=((shS xs b d).1.set (xs.length-1-d) (((shS xs b d).2*18446744073709551616+nth xs (xs.length-1-d))/b),((shS xs b d).2*18446744073709551616+nth xs (xs.length-1-d))%b):=rfl
theorem D9 (xs:List Nat)(b:Nat):∀ d,(shS xs b d).1.length=xs.length
 | 0=>by simp [shS]
 | d+1=>by rw [Jt,List.length_set,D9 xs b d]
theorem Qf (xs:List Nat)(b:Nat)(hb:0<b):∀ d,(shS xs b d).2<b
 | 0=>by simpa [shS] using hb
 | d+1=>by rw [Jt];exact Nat.mod_lt _ hb
theorem Mb (r x b:Nat)(hr:r<b)(hx:x<18446744073709551616):(r*18446744073709551616+x)/b<18446744073709551616:=by
 rw [Nat.div_lt_iff_lt_mul (by omega)];omega
theorem Js (xs:List Nat)(h:Small xs)(b:Nat)(hb:0<b):∀ d,Small (shS xs b d).1
 | 0=>Dz _
 | d + 1 => by
   rw [Jt];exact Da (Js xs h b hb d) _ _ (Mb _ _ _ (Qf xs b hb d) (nth_lt h _))
theorem Y5 (xs:List Nat)(b:Nat):∀ d i,d≤xs.length→i<xs.length-d→nth (shS xs b d).1 i=0
 | 0,i,_,_=>Ev _ i
 | d + 1, i, hd, hi => by
   rw [Jt]
   show nth ((shS xs b d).1.set _ _) i=0
   rw [Hz _ _ _ _ (by rw [D9];omega),if_neg (by omega)];exact Y5 xs b d i (by omega) (by omega)
theorem Nd (xs:List Nat)(h:Small xs)(b:Nat):∀ d,d≤xs.length→val (shS xs b d).1*b+18446744073709551616^(xs.length-d)*(shS xs b d).2+val (xs.take (xs.length-d))=val xs
 | 0, _ => by
   rw [shS,Nat.sub_zero,List.take_of_length_le (Nat.le_refl _)];simp [Fx]
 | d + 1, hd => by
   have ih:=Nd xs h b d (by omega);have hz:=Y5 xs b d (xs.length-1-d) (by omega) (by omega);have hl:=D9 xs b d;rw [Jt];generalize shS xs b d=s at *;obtain ⟨o,r⟩:=s;simp only at *;have e:xs.length-d=(xs.length-1-d)+1:=by omega
   have e':xs.length-(d+1)=xs.length-1-d:=by omega
   rw [e,Nat.pow_succ,B7 xs _ (by omega)] at ih;rw [e'];generalize xs.length-1-d=i at *;have v:=F0 o i ((r*18446744073709551616+nth xs i)/b) (by omega);rw [hz,Nat.mul_zero,Nat.add_zero] at v;rw [v,Nat.add_mul];have a:=Nat.div_add_mod (r*18446744073709551616+nth xs i) b;generalize (r*18446744073709551616+nth xs i)/b=q at *;generalize (r*18446744073709551616+nth xs i)%b=t at *;generalize 18446744073709551616^i=p at *;have e2:p*q*b+p*t=p*18446744073709551616*r+p*nth xs i:=by
    rw [Nat.mul_assoc,←Nat.mul_add,Nat.mul_comm q,a,Nat.mul_add,Nat.mul_comm r,Nat.mul_assoc]
   omega
theorem Agl (xs:List Nat)(h:Small xs)(b:Nat)(hb:0<b):val (shS xs b xs.length).1=val xs/b∧(shS xs b xs.length).2=val xs%b:=by
 have a:=Nd xs h b xs.length (Nat.le_refl _);have r:=Qf xs b hb xs.length;rw [Nat.sub_self,Nat.pow_zero,Nat.one_mul,List.take_zero,val,Nat.add_zero] at a;rw [←a];constructor
 ·rw [Nat.add_comm,Nat.add_mul_div_right _ _ hb,Nat.div_eq_of_lt r,Nat.zero_add]
 ·rw [Nat.add_comm,Nat.add_mul_mod_self_right,Nat.mod_eq_of_lt r]
structure Xy (U3 V2 v1 v2 u2 x r:Nat):Prop where
 sum:U3=x*(v1*18446744073709551616)+r*18446744073709551616+u2
 two:V2=v1*18446744073709551616+v2
theorem Wx {U3 V2 v1 v2 u2 x r:Nat}(h:Xy U3 V2 v1 v2 u2 x r)(hx:x<18446744073709551616)(h2:v2<18446744073709551616)(hc:x*v2≤r*18446744073709551616+u2∨18446744073709551616≤r):x*V2≤U3:=by
 rw [h.sum,h.two,Nat.mul_add];have:x*v2≤18446744073709551616*18446744073709551616:=Nat.mul_le_mul (by omega) (by omega);rcases hc with hc | hc
 ·omega
 ·omega
theorem Ww {U3 V2 v1 v2 u2 x r:Nat}(h:Xy U3 V2 v1 v2 u2 x r)(hc:r*18446744073709551616+u2<x*v2):U3<x*V2∧Xy U3 V2 v1 v2 u2 (x-1) (r+v1):=by
 have hx:1≤x:=by
  by_cases e:x=0
  ·subst e;omega
  ·omega
 obtain ⟨k,rfl⟩:∃ k,x=k+1:=⟨x-1,by omega⟩;refine ⟨?_,⟨?_,h.two⟩⟩
 ·rw [h.sum,h.two,Nat.mul_add];omega
 ·rw [Nat.add_sub_cancel,h.sum,Nat.add_mul,Nat.add_mul];omega
theorem Zk (U3 V2 P u' v' x:Nat)(_hu:u'<P)(hv:v'<P)(hx:x<18446744073709551616)(h1:x*V2≤U3)(hV:18446744073709551616≤V2)(hq:(U3*P+u')/(V2*P+v')≤x):x=(U3*P+u')/(V2*P+v')∨x=(U3*P+u')/(V2*P+v')+1:=by
 have hp:0<P:=by omega
 have hV0:0<V2*P+v':=by
  have:18446744073709551616*P≤V2*P:=Nat.mul_le_mul_right _ hV;omega
 have a:(x-1)≤(U3*P+u')/(V2*P+v'):=by
  rw [Nat.le_div_iff_mul_le hV0];by_cases e:x=0
  ·subst e;simp
  ·obtain ⟨k,rfl⟩:∃ k,x=k+1:=⟨x-1,by omega⟩;rw [Nat.add_sub_cancel,Nat.mul_add];have b:(k+1)*V2*P≤U3*P:=Nat.mul_le_mul_right _ h1;rw [Nat.add_mul,Nat.add_mul,Nat.one_mul] at b;have c:18446744073709551616*P≤V2*P:=Nat.mul_le_mul_right _ hV;have d:k*v'≤18446744073709551616*P:=Nat.mul_le_mul (by omega) (by omega);have e:k*(V2*P)=k*V2*P:=(Nat.mul_assoc _ _ _).symm;omega
 generalize (U3*P+u')/(V2*P+v')=q at *;omega
theorem Wv (U3 V2 P u' v' x:Nat)(hu:u'<P)(h:U3<x*V2)(hV:0<V2):(U3*P+u')/(V2*P+v')≤x-1:=by
 have hp:0<P:=by omega
 have hV0:0<V2*P+v':=by
  have:=Nat.mul_pos hV hp;omega
 have:(U3*P+u')/(V2*P+v')<x:=by
  rw [Nat.div_lt_iff_lt_mul hV0,Nat.mul_add];have a:(U3+1)*P≤x*V2*P:=Nat.mul_le_mul_right _ h;rw [Nat.add_mul,Nat.mul_assoc] at a;omega
 exact Nat.le_sub_one_of_lt this
theorem Ul (U2 u2 v1 v2 P u' v':Nat)(hu2:u2<18446744073709551616)(hu:u'<P)(hv1:0<v1) :
 ((U2*18446744073709551616+u2)*P+u')/((v1*18446744073709551616+v2)*P+v')≤U2/v1:=by
 have hp:0<P:=by omega
 have c0:=Nat.div_mul_le_self ((U2*18446744073709551616+u2)*P+u') ((v1*18446744073709551616+v2)*P+v');generalize ((U2*18446744073709551616+u2)*P+u')/((v1*18446744073709551616+v2)*P+v')=a at *;rw [Nat.le_div_iff_mul_le hv1];have c1:a*v1*(18446744073709551616*P)<(U2+1)*(18446744073709551616*P):=by
  have e1:a*((v1*18446744073709551616+v2)*P+v')=a*v1*(18446744073709551616*P)+a*(v2*P)+a*v':=by
   rw [Nat.mul_add,Nat.add_mul,Nat.mul_add,Nat.mul_assoc v1,←Nat.mul_assoc a v1]
  have e2:(U2*18446744073709551616+u2)*P=U2*(18446744073709551616*P)+u2*P:=by rw [Nat.add_mul,Nat.mul_assoc]
  have e3:(u2+1)*P≤18446744073709551616*P:=Nat.mul_le_mul_right _ hu2;rw [e1,e2] at c0;rw [Nat.add_mul U2,Nat.one_mul];rw [Nat.add_mul] at e3;generalize 18446744073709551616*P=Q at *;omega
 have:=Nat.lt_of_mul_lt_mul_right c1;omega
def msS (wl:List Nat) (x:Nat) (vs:List Nat):Nat→List Nat × Nat × Nat
 | 0=>(wl,0,0)
 | k + 1 => let s := msS wl x vs k
   (s.1.set k ((nth s.1 k+18446744073709551616-(x*nth vs k+s.2.1)%18446744073709551616-s.2.2)%18446744073709551616),(x*nth vs k+s.2.1)/18446744073709551616,
     if nth s.1 k<(x*nth vs k+s.2.1)%18446744073709551616+s.2.2 then 1 else 0)
theorem Jp (wl:List Nat)(x:Nat)(vs:List Nat)(k:Nat):msS wl x vs (k+1)=((msS wl x vs k).1.set k ((nth (msS wl x vs k).1 k+18446744073709551616-(x*nth vs k+(msS wl x vs k).2.1)%18446744073709551616-(msS wl x vs k).2.2)%18446744073709551616),(x*nth vs k+(msS wl x vs k).2.1)/18446744073709551616,
 if nth (msS wl x vs k).1 k<(x*nth vs k+(msS wl x vs k).2.1)%18446744073709551616+(msS wl x vs k).2.2 then 1 else 0):=rfl
theorem Gx (wl:List Nat)(x:Nat)(vs:List Nat):∀ k,(msS wl x vs k).1.length=wl.length
 | 0=>rfl
 | k+1=>by rw [Jp,List.length_set,Gx wl x vs k]
theorem H8 (wl:List Nat)(x:Nat)(vs:List Nat)(h:Small wl):∀ k,Small (msS wl x vs k).1
 | 0=>h
 | k+1=>by rw [Jp];exact Da (H8 wl x vs h k) _ _ (Nat.mod_lt _ (by decide))
theorem Rj (wl:List Nat)(x:Nat)(vs:List Nat)(hx:x<18446744073709551616)(h':Small vs):∀ k,(msS wl x vs k).2.1<18446744073709551616
 | 0=>by simp [msS]
 | k + 1 => by
   rw [Jp];have:=Lf x (nth vs k) (msS wl x vs k).2.1 0 hx (nth_lt h' k) (Rj wl x vs hx h' k) (by decide);rwa [Nat.add_zero] at this
theorem J2 (wl:List Nat)(x:Nat)(vs:List Nat):∀ k,(msS wl x vs k).2.2≤1
 | 0=>by simp [msS]
 | k + 1 => by
   rw [Jp]
   show (if _ then 1 else 0)≤1
   split<;>omega
theorem Qk (p x y c:Nat)(hx:x<18446744073709551616)(hy:y<18446744073709551616)(hc:c≤1) :
 p*((x+18446744073709551616-y-c)%18446744073709551616)+p*y+p*c=p*x+p*18446744073709551616*(if x<y+c then 1 else 0):=by
 by_cases hlt:x<y+c
 ·rw [if_pos hlt,Nat.mod_eq_of_lt (by omega),Nat.mul_one,←Nat.mul_add,←Nat.mul_add,←Nat.mul_add]
  congr 1;omega
 ·have e0:(x+18446744073709551616-y-c)%18446744073709551616=x-y-c:=by omega
  rw [if_neg hlt,e0,Nat.mul_zero,Nat.add_zero,←Nat.mul_add,←Nat.mul_add]
  congr 1;omega
theorem Ss (wl:List Nat)(x:Nat)(vs:List Nat)(h:Small wl):∀ k,k≤wl.length →
 val (msS wl x vs k).1+x*val (vs.take k)=val wl+18446744073709551616^k*((msS wl x vs k).2.1+(msS wl x vs k).2.2)
 | 0,_=>by simp [msS,val]
 | k + 1, hk => by
   have ih:=Ss wl x vs h k (by omega);have hl:=Gx wl x vs k;have hu:=nth_lt (H8 wl x vs h k) k;have hb:=J2 wl x vs k;rw [Jp,Gl,Nat.pow_succ];generalize msS wl x vs k=s at *;obtain ⟨o,c,b⟩:=s;simp only at *;generalize hT:x*nth vs k+c=T;have v:=F0 o k ((nth o k+18446744073709551616-T%18446744073709551616-b)%18446744073709551616) (by omega);have sl:=Qk (18446744073709551616^k) (nth o k) (T%18446744073709551616) b hu (Nat.mod_lt _ (by decide)) hb;generalize (if nth o k<T%18446744073709551616+b then 1 else 0)=b' at *;generalize (nth o k+18446744073709551616-T%18446744073709551616-b)%18446744073709551616=z at *
   generalize 18446744073709551616^k=p at *;have e:p*18446744073709551616*(T/18446744073709551616)+p*(T%18446744073709551616)=p*T:=by
    rw [Nat.mul_assoc,←Nat.mul_add,Nat.div_add_mod]
   have e2:p*T=x*(p*nth vs k)+p*c:=by rw [←hT,Nat.mul_add,Nat.mul_left_comm]
   rw [Nat.mul_add x,Nat.mul_add (p*18446744073709551616)];rw [Nat.mul_add] at ih;omega
theorem Tl (wl vs:List Nat)(n:Nat)(hl:wl.length=n+1)(hv:vs.length=n):val (Dh wl vs n).1+18446744073709551616^n*(Dh wl vs n).2=val wl+val vs:=by
 have:=O8 wl vs n (by omega);rwa [List.take_of_length_le (by omega)] at this
theorem Wj (wl vs:List Nat)(x n:Nat)(h:Small wl)(hl:wl.length=n+1)(hv:vs.length=n)(hx:x=val wl/val vs)(hc:(msS wl x vs n).2.1<18446744073709551616) :
 val ((msS wl x vs n).1.set n ((nth (msS wl x vs n).1 n+18446744073709551616-(msS wl x vs n).2.1-(msS wl x vs n).2.2)%18446744073709551616))=val wl%val vs ∧
 (if nth (msS wl x vs n).1 n<(msS wl x vs n).2.1+(msS wl x vs n).2.2 then 1 else 0)=0:=by
 have a:=Ss wl x vs h n (by omega);rw [List.take_of_length_le (by omega)] at a;have b:=F0 (msS wl x vs n).1 n ((nth (msS wl x vs n).1 n+18446744073709551616-(msS wl x vs n).2.1-(msS wl x vs n).2.2)%18446744073709551616) (by rw [Gx];omega);have sm:=Da (H8 wl x vs h n) n ((nth (msS wl x vs n).1 n+18446744073709551616-(msS wl x vs n).2.1-(msS wl x vs n).2.2)%18446744073709551616) (Nat.mod_lt _ (by decide));have lt:=Eg _ sm;rw [List.length_set,Gx,hl,Nat.pow_succ] at lt;have sl:=Qk (18446744073709551616^n) (nth (msS wl x vs n).1 n) (msS wl x vs n).2.1 (msS wl x vs n).2.2 (nth_lt (H8 wl x vs h n) n) hc (J2 wl x vs n)
 have dm:=Nat.div_add_mod (val wl) (val vs);rw [←hx,Nat.mul_comm] at dm;generalize (nth (msS wl x vs n).1 n+18446744073709551616-(msS wl x vs n).2.1-(msS wl x vs n).2.2)%18446744073709551616=z at *;generalize val ((msS wl x vs n).1.set n z)=V' at *;rw [Nat.mul_add] at a;by_cases hlt:nth (msS wl x vs n).1 n<(msS wl x vs n).2.1+(msS wl x vs n).2.2
 ·rw [if_pos hlt,Nat.mul_one] at sl;exfalso;generalize 18446744073709551616^n=p at *;omega
 ·rw [if_neg hlt,Nat.mul_zero,Nat.add_zero] at sl;refine ⟨?_,if_neg hlt⟩;generalize 18446744073709551616^n=p at *;omega
theorem Wk (wl vs:List Nat)(x n:Nat)(h:Small wl)(hl:wl.length=n+1)(hv:vs.length=n)(hV:0<val vs)(hx:x=val wl/val vs+1)(hc:(msS wl x vs n).2.1<18446744073709551616) :
 val ((msS wl x vs n).1.set n ((nth (msS wl x vs n).1 n+18446744073709551616-(msS wl x vs n).2.1-(msS wl x vs n).2.2)%18446744073709551616))+val vs=val wl%val vs+18446744073709551616^n*18446744073709551616 ∧
 (if nth (msS wl x vs n).1 n<(msS wl x vs n).2.1+(msS wl x vs n).2.2 then 1 else 0)=1:=by
 have a:=Ss wl x vs h n (by omega);rw [List.take_of_length_le (by omega)] at a;have b:=F0 (msS wl x vs n).1 n ((nth (msS wl x vs n).1 n+18446744073709551616-(msS wl x vs n).2.1-(msS wl x vs n).2.2)%18446744073709551616) (by rw [Gx];omega);have sl:=Qk (18446744073709551616^n) (nth (msS wl x vs n).1 n) (msS wl x vs n).2.1 (msS wl x vs n).2.2 (nth_lt (H8 wl x vs h n) n) hc (J2 wl x vs n);have dm:=Nat.div_add_mod (val wl) (val vs);have ml:=Nat.mod_lt (val wl) hV;rw [hx,Nat.add_mul,Nat.one_mul,←hx,Nat.mul_comm (val wl/val vs)] at a;generalize (nth (msS wl x vs n).1 n+18446744073709551616-(msS wl x vs n).2.1-(msS wl x vs n).2.2)%18446744073709551616=z at *
 generalize val ((msS wl x vs n).1.set n z)=V' at *;rw [Nat.mul_add] at a;by_cases hlt:nth (msS wl x vs n).1 n<(msS wl x vs n).2.1+(msS wl x vs n).2.2
 ·rw [if_pos hlt,Nat.mul_one] at sl;refine ⟨?_,if_pos hlt⟩;generalize 18446744073709551616^n=p at *;omega
 ·rw [if_neg hlt,Nat.mul_zero,Nat.add_zero] at sl;exfalso;generalize 18446744073709551616^n=p at *;omega
theorem Wi (w2 vs:List Nat)(n r:Nat)(h:Small w2)(h':Small vs)(hl:w2.length=n+1)(hv:vs.length=n)(_hr:r<val vs)(he:val w2+val vs=r+18446744073709551616^n*18446744073709551616) :
 val ((Dh w2 vs n).1.set n ((nth (Dh w2 vs n).1 n+(Dh w2 vs n).2)%18446744073709551616))=r:=by
 have a:=Tl w2 vs n hl hv;have b:=F0 (Dh w2 vs n).1 n ((nth (Dh w2 vs n).1 n+(Dh w2 vs n).2)%18446744073709551616) (by rw [E7];omega);have sm:=Da (F4 w2 vs h n) n ((nth (Dh w2 vs n).1 n+(Dh w2 vs n).2)%18446744073709551616) (Nat.mod_lt _ (by decide));have lt:=Eg _ sm;have ltv:=Eg vs h';rw [hv] at ltv;rw [List.length_set,E7,hl,Nat.pow_succ] at lt;generalize hT:nth (Dh w2 vs n).1 n+(Dh w2 vs n).2=T at *;generalize val ((Dh w2 vs n).1.set n (T%18446744073709551616))=V' at *;have e:18446744073709551616^n*T=18446744073709551616^n*18446744073709551616*(T/18446744073709551616)+18446744073709551616^n*(T%18446744073709551616):=by
  rw [Nat.mul_assoc,←Nat.mul_add,Nat.div_add_mod]
 rw [←hT,Nat.mul_add,hT] at e;have ht:T/18446744073709551616≤1:=by
  have:=nth_lt (F4 w2 vs h n) n;have:=Jv w2 vs h h' n;omega
 generalize 18446744073709551616^n=p at *;generalize T/18446744073709551616=q at *;have hq:q=0∨q=1:=by omega
 rcases hq with rfl | rfl
 ·rw [Nat.mul_zero] at e;omega
 ·rw [Nat.mul_one] at e;omega
end Go.Proofs.YtmgaloopddiekaaGreatDoor
namespace Go.Proofs.YtmgaloopddiekaaGreatDoor
structure DigIn (wl vs:List Nat) (n:Nat):Prop where
 n2:2≤n
 wlen:wl.length=n+1
 vlen:vs.length=n
 ws:Small wl
 vsm:Small vs
 top:9223372036854775808≤nth vs (n-1)
 lt:val wl<val vs*18446744073709551616
def Ud (wl:List Nat) (n:Nat):Nat:=(nth wl n*18446744073709551616+nth wl (n-1))*18446744073709551616+nth wl (n-2)
def Pi (vs:List Nat) (n:Nat):Nat:=nth vs (n-1)*18446744073709551616+nth vs (n-2)
theorem DigIn.U {wl vs:List Nat}{n:Nat}(h:DigIn wl vs n):val wl=Ud wl n*18446744073709551616^(n-2)+val (wl.take (n-2)):=by
 have h2:=h.n2;have e:=List.take_of_length_le (Nat.le_of_eq h.wlen);have a:=B7 wl n (by rw [h.wlen];omega);have b:=B7 wl (n-1) (by rw [h.wlen];omega);have c:=B7 wl (n-2) (by rw [h.wlen];omega);rw [show n-1+1=n by omega] at b;rw [show n-2+1=n-1 by omega] at c;rw [e] at a;rw [a,b,c];have p1:18446744073709551616^n=18446744073709551616^(n-2)*18446744073709551616*18446744073709551616:=by
  rw [Nat.mul_assoc,←Nat.pow_two,←Nat.pow_add];congr 1;omega
 have p2:18446744073709551616^(n-1)=18446744073709551616^(n-2)*18446744073709551616:=by
  rw [←Nat.pow_succ];congr 1;omega
 rw [p1,p2];unfold Ud;generalize 18446744073709551616^(n-2)=P;generalize nth wl n=x;generalize nth wl (n-1)=y;generalize nth wl (n-2)=z;have e1:P*18446744073709551616*18446744073709551616*x=x*18446744073709551616*18446744073709551616*P:=by
  rw [Nat.mul_comm _ x,←Nat.mul_assoc,←Nat.mul_assoc,Nat.mul_right_comm x P,Nat.mul_right_comm (x*18446744073709551616) P]
 have e2:P*18446744073709551616*y=y*18446744073709551616*P:=by
  rw [Nat.mul_comm _ y,←Nat.mul_assoc,Nat.mul_right_comm y P]
 rw [e1,e2,Nat.mul_comm P z,Nat.add_mul,Nat.add_mul,Nat.add_mul];omega
theorem DigIn.V {wl vs:List Nat}{n:Nat}(h:DigIn wl vs n):val vs=Pi vs n*18446744073709551616^(n-2)+val (vs.take (n-2)):=by
 have h2:=h.n2;have e:=List.take_of_length_le (Nat.le_of_eq h.vlen);have b:=B7 vs (n-1) (by rw [h.vlen];omega);have c:=B7 vs (n-2) (by rw [h.vlen];omega);rw [show n-1+1=n by omega,e] at b;rw [show n-2+1=n-1 by omega] at c;rw [b,c];have p2:18446744073709551616^(n-1)=18446744073709551616^(n-2)*18446744073709551616:=by
  rw [←Nat.pow_succ];congr 1;omega
 rw [p2];unfold Pi;generalize 18446744073709551616^(n-2)=P;generalize nth vs (n-1)=y;generalize nth vs (n-2)=z;have e2:P*18446744073709551616*y=y*18446744073709551616*P:=by
  rw [Nat.mul_comm _ y,←Nat.mul_assoc,Nat.mul_right_comm y P]
 rw [e2,Nat.mul_comm P z,Nat.add_mul];omega
theorem DigIn.ulow {wl vs:List Nat}{n:Nat}(h:DigIn wl vs n):val (wl.take (n-2))<18446744073709551616^(n-2):=by
 have:=Eg _ (Df h.ws (n-2));rwa [List.length_take,Nat.min_eq_left (by rw [h.wlen];omega)] at this
theorem DigIn.vlow {wl vs:List Nat}{n:Nat}(h:DigIn wl vs n):val (vs.take (n-2))<18446744073709551616^(n-2):=by
 have:=Eg _ (Df h.vsm (n-2));rwa [List.length_take,Nat.min_eq_left (by rw [h.vlen];omega)] at this
theorem DigIn.v2pos {wl vs:List Nat}{n:Nat}(h:DigIn wl vs n):18446744073709551616≤Pi vs n:=by
 have:=h.top;unfold Pi;omega
theorem DigIn.vpos {wl vs:List Nat}{n:Nat}(h:DigIn wl vs n):0<val vs:=by
 have a:=h.V;have b:=Nat.mul_pos (show 0<Pi vs n by have:=h.v2pos;omega) (Nat.pow_pos (n:=n-2) (show 0<18446744073709551616 by decide));omega
theorem Aek (M N A Q T P v':Nat)(h1:M≤N)(h2:M=A+Q*18446744073709551616)(h3:T+P≤Q)(h4:v'<P)(h5:N<A+T*18446744073709551616+v'*18446744073709551616):False:=by omega
theorem DigIn.tops {wl vs:List Nat}{n:Nat}(h:DigIn wl vs n):nth wl n≤nth vs (n-1):=by
 have a:=h.U;have b:=h.V;have c:=h.lt;have d:=h.vlow;have v2:=nth_lt h.vsm (n-2);rw [a,b] at c;unfold Ud Pi at c;generalize 18446744073709551616^(n-2)=P at *;generalize val (wl.take (n-2))=u' at *;generalize val (vs.take (n-2))=v' at *;generalize nth wl n=x at *;generalize nth wl (n-1)=y at *;generalize nth wl (n-2)=z at *;generalize nth vs (n-1)=s at *;generalize nth vs (n-2)=t at *;by_cases hle:x≤s
 ·exact hle
 ·exfalso;have e1:((s+1)*18446744073709551616*18446744073709551616)*P≤((x*18446744073709551616+y)*18446744073709551616+z)*P:=Nat.mul_le_mul_right _ (by omega);have e2:(t+1)*P≤18446744073709551616*P:=Nat.mul_le_mul_right _ v2;have e3:((s*18446744073709551616+t)*P+v')*18446744073709551616=s*18446744073709551616*18446744073709551616*P+t*P*18446744073709551616+v'*18446744073709551616:=by
   rw [Nat.add_mul,Nat.add_mul (s*18446744073709551616),Nat.add_mul,Nat.mul_right_comm (s*18446744073709551616) P]
  have e4:(s+1)*18446744073709551616*18446744073709551616*P=s*18446744073709551616*18446744073709551616*P+18446744073709551616*P*18446744073709551616:=by
   rw [Nat.add_mul,Nat.add_mul,Nat.add_mul,Nat.one_mul,Nat.mul_right_comm 18446744073709551616 18446744073709551616 P]
  rw [Nat.add_mul,Nat.one_mul] at e2;rw [e3] at c;exact Aek _ _ _ _ _ _ _ e1 e4 e2 d (Nat.lt_of_le_of_lt (Nat.le_add_right _ _) c)
theorem DigIn.qlt {wl vs:List Nat}{n:Nat}(h:DigIn wl vs n):val wl/val vs<18446744073709551616:=by
 rw [Nat.div_lt_iff_lt_mul h.vpos,Nat.mul_comm];exact h.lt
structure DigInv (wl vs:List Nat) (n x r:Nat):Prop where
 g:Xy (Ud wl n) (Pi vs n) (nth vs (n-1)) (nth vs (n-2)) (nth wl (n-2)) x r
 ge:val wl/val vs≤x
 lt:x<18446744073709551616
theorem Aaq (T s z:Nat):T*18446744073709551616+z=T/s*(s*18446744073709551616)+T%s*18446744073709551616+z:=by
 rw [←Nat.mul_assoc,←Nat.add_mul,Nat.mul_comm (T/s),Nat.div_add_mod]
theorem DigIn.start_lt {wl vs:List Nat}{n:Nat}(h:DigIn wl vs n)(hlt:nth wl n<nth vs (n-1)) :
 DigInv wl vs n ((nth wl n*18446744073709551616+nth wl (n-1))/nth vs (n-1)) ((nth wl n*18446744073709551616+nth wl (n-1))%nth vs (n-1)):=by
 have ht:=h.top;refine ⟨⟨?_,rfl⟩,?_,Mb _ _ _ hlt (nth_lt h.ws _)⟩
 ·exact Aaq _ _ _
 ·have:=Ul (nth wl n*18446744073709551616+nth wl (n-1)) (nth wl (n-2)) (nth vs (n-1)) (nth vs (n-2)) (18446744073709551616^(n-2)) (val (wl.take (n-2))) (val (vs.take (n-2))) (nth_lt h.ws _) h.ulow (by omega);rw [h.U,h.V];exact this
theorem DigIn.start_eq {wl vs:List Nat}{n:Nat}(h:DigIn wl vs n)(he:¬nth wl n<nth vs (n-1)) :
 DigInv wl vs n 18446744073709551615 (nth wl (n-1)+nth vs (n-1)):=by
 have ht:=h.tops;have e:nth wl n=nth vs (n-1):=by omega
 refine ⟨⟨?_,rfl⟩,?_,by decide⟩
 ·unfold Ud;rw [e];omega
 ·exact Nat.le_of_lt_succ h.qlt
theorem DigInv.less {wl vs:List Nat}{n x r:Nat}(h:DigInv wl vs n x r)(hi:DigIn wl vs n)(hc:r*18446744073709551616+nth wl (n-2)<x*nth vs (n-2)):1≤x∧DigInv wl vs n (x-1) (r+nth vs (n-1)):=by
 have hx:1≤x:=by
  by_cases e:x=0
  ·subst e;omega
  ·omega
 obtain ⟨a,b⟩:=Ww h.g hc;have v2:=hi.v2pos;refine ⟨hx,b,?_,by have:=h.lt;omega⟩;rw [hi.U,hi.V];exact Wv _ _ _ _ _ _ hi.ulow a (by omega)
theorem DigInv.done {wl vs:List Nat}{n x r:Nat}(h:DigInv wl vs n x r)(hi:DigIn wl vs n)(hc:x*nth vs (n-2)≤r*18446744073709551616+nth wl (n-2)∨18446744073709551616≤r):x=val wl/val vs∨x=val wl/val vs+1:=by
 have a:=Wx h.g h.lt (nth_lt hi.vsm _) hc;have b:=h.ge;rw [hi.U,hi.V] at b ⊢;exact Zk _ _ _ _ _ _ hi.ulow hi.vlow h.lt a hi.v2pos b
theorem Af2 (p r u:Nat)(hu:u<18446744073709551616):p≤r*18446744073709551616+u↔(p/18446744073709551616<r∨p/18446744073709551616=r∧p%18446744073709551616≤u):=by
 omega
end Go.Proofs.YtmgaloopddiekaaGreatDoor
namespace Go.Proofs.YtmgaloopddiekaaGreatDoor
structure LongInv (N V:Nat) (n:Nat) (us qs:List Nat) (k:Nat):Prop where
 us_small:Small us
 qs_small:Small qs
 lens:us.length=qs.length+n
 low:val (us.drop k)<V
 sum:val qs*V+val us=N
 zero:∀ i,i<k→nth qs i=0
theorem LongInv.window {N V n:Nat}{us qs vs:List Nat}{j:Nat}(h:LongInv N V n us qs (j+1))(hj:j<qs.length)(hn:2≤n)(hV:V=val vs)(hvl:vs.length=n)(hvs:Small vs)(ht:9223372036854775808≤nth vs (n-1)) :
 DigIn ((us.drop j).take (n+1)) vs n∧val (us.drop (j+(n+1)))=0:=by
 have hl:=h.lens;have e:us.drop j=nth us j::us.drop (j+1):=Uh us j (by omega);have hlow:=h.low;have hx:=nth_lt h.us_small j;have hd:val (us.drop j)<V*18446744073709551616:=by
  rw [e,val];omega
 have hvlt:=Eg vs hvs;rw [hvl,←hV] at hvlt;have sm:Small (us.drop j):=Iu h.us_small j;have ap:=Cp ((us.drop j).take (n+1)) ((us.drop j).drop (n+1));rw [List.take_append_drop,List.length_take,List.length_drop,Nat.min_eq_left (by omega),List.drop_drop] at ap;have hp:18446744073709551616^(n+1)=18446744073709551616^n*18446744073709551616:=Nat.pow_succ ..;have hz:val (us.drop (j+(n+1)))=0:=by
  by_cases hz:val (us.drop (j+(n+1)))=0
  ·exact hz
  ·exfalso;have:18446744073709551616^(n+1)*1≤18446744073709551616^(n+1)*val (us.drop (j+(n+1))):=Nat.mul_le_mul_left _ (by omega);rw [hp] at this ap;generalize 18446744073709551616^n=P at *;generalize P*18446744073709551616*val (us.drop (j+(n+1)))=T at *;omega
 refine ⟨⟨hn,?_,hvl,Df sm _,hvs,ht,?_⟩,hz⟩
 ·rw [List.length_take,List.length_drop];omega
 ·rw [←hV];rw [hz,Nat.mul_zero,Nat.add_zero] at ap;rw [←ap];exact hd
theorem Od (us:List Nat)(j m:Nat):us=us.take j++((us.drop j).take m++us.drop (j+m)):=by
 rw [←List.drop_drop,List.take_append_drop,List.take_append_drop]
theorem LongInv.next {N V n:Nat}{us qs vs wl':List Nat}{j:Nat}(h:LongInv N V n us qs (j+1))(hj:j<qs.length)(hV:V=val vs)(hz:val (us.drop (j+(n+1)))=0)
 (hq:val ((us.drop j).take (n+1))/val vs<18446744073709551616) (hV0:0<val vs) (hl':wl'.length=((us.drop j).take (n+1)).length) (hs':Small wl') (hv':val wl'=val ((us.drop j).take (n+1))%val vs) :
 LongInv N V n (us.take j++(wl'++us.drop (j+(n+1)))) (qs.set j (val ((us.drop j).take (n+1))/val vs)) j:=by
 have hl:=h.lens;have ht:(us.take j).length=j:=by rw [List.length_take];omega
 have e:=Od us j (n+1);have lw:((us.drop j).take (n+1)).length=n+1:=by rw [List.length_take,List.length_drop];omega
 refine ⟨?_,Da h.qs_small _ _ hq,?_,?_,?_,?_⟩
 ·intro x hx;rcases List.mem_append.1 hx with hx | hx
  ·exact Df h.us_small j x hx
  ·rcases List.mem_append.1 hx with hx | hx
   ·exact hs' x hx
   ·exact Iu h.us_small _ x hx
 ·rw [List.length_set,List.length_append,List.length_append,hl',lw,List.length_drop,ht];omega
 ·rw [List.drop_append_of_le_length (by omega),List.drop_of_length_le (by omega),List.nil_append,Cp,hz,Nat.mul_zero,Nat.add_zero,hv',hV];exact Nat.mod_lt _ hV0
 ·have v:=F0 qs j (val ((us.drop j).take (n+1))/val vs) hj;rw [h.zero j (by omega),Nat.mul_zero,Nat.add_zero] at v;have s:=h.sum;have u1:val us=val (us.take j)+18446744073709551616^j*(val ((us.drop j).take (n+1))+18446744073709551616^(n+1)*val (us.drop (j+(n+1)))):=by
   conv=>lhs;rw [e]
   rw [Cp,Cp,ht,lw]
  have u2:val (us.take j++(wl'++us.drop (j+(n+1))))=val (us.take j)+18446744073709551616^j*(val wl'+18446744073709551616^(n+1)*val (us.drop (j+(n+1)))):=by
   rw [Cp,Cp,ht,hl',lw]
  rw [hz,Nat.mul_zero,Nat.add_zero (val ((us.drop j).take (n+1)))] at u1;rw [hz,Nat.mul_zero,Nat.add_zero (val wl')] at u2;rw [v,u2,hv',Nat.add_mul,hV];rw [u1,hV] at s;have dm:=Nat.div_add_mod (val ((us.drop j).take (n+1))) (val vs);generalize val ((us.drop j).take (n+1))/val vs=q at *;generalize val ((us.drop j).take (n+1))%val vs=r at *;generalize val ((us.drop j).take (n+1))=W at *;generalize 18446744073709551616^j=P at *;have e3:P*q*val vs+P*r=P*W:=by rw [Nat.mul_assoc,←Nat.mul_add,Nat.mul_comm q,dm]
  omega
 ·intro i hi;rw [Hz _ _ _ _ hj,if_neg (by omega)];exact h.zero i (by omega)
theorem LongInv.finish {N V n:Nat}{us qs:List Nat}(h:LongInv N V n us qs 0):val qs=N/V∧val us=N%V:=by
 have a:=h.low;have b:=h.sum;rw [List.drop_zero] at a;have hV:0<V:=by omega
 rw [←b,Nat.add_comm];exact ⟨by rw [Nat.add_mul_div_right _ _ hV,Nat.div_eq_of_lt a,Nat.zero_add],by rw [Nat.add_mul_mod_self_right,Nat.mod_eq_of_lt a]⟩
theorem Aat (us:List Nat)(h:Small us)(n:Nat)(hn:n≤us.length)(hV:val us<18446744073709551616^n):val (us.take n)=val us:=by
 have e:=Cp (us.take n) (us.drop n);rw [List.take_append_drop,List.length_take,Nat.min_eq_left hn] at e;have:val (us.drop n)=0:=by
  rw [Qp us h n,Nat.div_eq_of_lt hV]
 rw [this,Nat.mul_zero,Nat.add_zero] at e;exact e.symm
theorem Zb (n:Nat)(k:Nat):val (limbs n++List.replicate k 0)=n:=by
 rw [Cp,Fx,Nat.mul_zero,Nat.add_zero,Ca]
theorem Rs (n k:Nat):Small (limbs n++List.replicate k 0):=by
 intro x hx;rcases List.mem_append.1 hx with hx | hx
 ·exact Cq n x hx
 ·exact Dz k x hx
theorem Dw (n k:Nat)(h:n<18446744073709551616^k):(limbs n).length≤k:=by
 by_cases h0:n=0
 ·subst h0;rw [Bd];exact Nat.zero_le _
 ·have a:=Fv n h0;by_cases hk:(limbs n).length≤k
  ·exact hk
  ·have:18446744073709551616^k≤18446744073709551616^((limbs n).length-1):=Nat.pow_le_pow_right (by decide) (by omega);omega
theorem Og (n k:Nat)(h:18446744073709551616^k≤n):k<(limbs n).length:=by
 have a:=Ci n;by_cases hk:k<(limbs n).length
 ·exact hk
 ·have:18446744073709551616^(limbs n).length≤18446744073709551616^k:=Nat.pow_le_pow_right (by decide) (by omega);omega
theorem Su (m:Nat)(h:m≠0):m*2^(64-bl (nth (limbs m) ((limbs m).length-1)))<18446744073709551616^(limbs m).length ∧
 18446744073709551616^((limbs m).length-1)*9223372036854775808≤m*2^(64-bl (nth (limbs m) ((limbs m).length-1))):=by
 have ht:=Sd m h;have hp:=Bq m h;have hb:=On _ (nth_lt (Cq m) ((limbs m).length-1));have hb0:=Id _ (Il m h);have a:=D0 m h;have b:=Cm m;rw [ht] at a b;generalize bl (nth (limbs m) ((limbs m).length-1))=t at *;generalize (limbs m).length=l at *;obtain ⟨i,rfl⟩:∃ i,l=i+1:=⟨l-1,by omega⟩;rw [Nat.add_sub_cancel] at *;have p:∀ q,(18446744073709551616:Nat)^q=2^(64*q):=fun q=>by rw [Nat.pow_mul]
 constructor
 ·have:=Nat.mul_lt_mul_of_pos_right b (Nat.pow_pos (n:=64-t) (show 0<2 by decide));rw [←Nat.pow_add,show 64*i+t+(64-t)=64*(i+1) by omega,←p] at this;exact this
 ·have:=Nat.mul_le_mul_right (2^(64-t)) a;rw [←Nat.pow_add,show 64*i+t-1+(64-t)=64*i+63 by omega,Nat.pow_add,←p] at this;exact this
theorem Aej (vs:List Nat)(h:Small vs)(n:Nat)(hn:vs.length=n)(h0:0<n)(hv:18446744073709551616^(n-1)*9223372036854775808≤val vs):9223372036854775808≤nth vs (n-1):=by
 have e:=B7 vs (n-1) (by omega);rw [show n-1+1=n by omega,List.take_of_length_le (by omega)] at e;have b:=Eg _ (Df h (n-1));rw [List.length_take,Nat.min_eq_left (by omega)] at b;generalize 18446744073709551616^(n-1)=P at *;have:P*9223372036854775808<P*(nth vs (n-1)+1):=by rw [Nat.mul_add];omega
 have:=Nat.lt_of_mul_lt_mul_left this;omega
theorem LongInv.start (n m s:Nat)(us vs:List Nat)(l d:Nat)(hs:Small us)(hl:us.length=l+2+d+1)(hv:val us=n*2^s)(hm:m≠0)(hml:(limbs m).length=l+2)(hn:(limbs n).length=l+2+d)(hV:val vs=m*2^s) :
 LongInv (n*2^s) (val vs) (l+2) us (List.replicate (d+1) 0) (d+1):=by
 refine ⟨hs,Dz _,by rw [hl,List.length_replicate];omega,?_,by rw [Fx,Nat.zero_mul,Nat.zero_add,hv],fun i _=>Ev _ i⟩;rw [Qp us hs,hv,hV,Nat.div_lt_iff_lt_mul (Nat.pow_pos (by decide))];have a:=Ci n;have b:=Fv m hm;rw [hn] at a;rw [hml,show l+2-1=l+1 by omega] at b;have c:18446744073709551616^(l+2+d)=18446744073709551616^(l+1)*18446744073709551616^(d+1):=by rw [←Nat.pow_add];congr 1;omega
 rw [c] at a;have e:=Nat.mul_lt_mul_of_pos_right a (Nat.pow_pos (n:=s) (show 0<2 by decide));refine Nat.lt_of_lt_of_le e ?_;rw [Nat.mul_right_comm];exact Nat.mul_le_mul_right _ (Nat.mul_le_mul_right _ b)
end Go.Proofs.YtmgaloopddiekaaGreatDoor
namespace Go.Proofs.YtmgaloopddiekaaGreatDoor
def Fw (a b:Dy):Int :=
 if (bl a.m:Int)+a.e<bl b.m+b.e then -1 else if (bl b.m:Int)+b.e<bl a.m+a.e then 1
 else Ea (a.m*2^(a.e-min a.e b.e).toNat) (b.m*2^(b.e-min a.e b.e).toNat)
theorem Aco {m:Nat}(h:m≠0)(e:Int):pw (bl m+e-1)≤(m:Rat)*pw e∧(m:Rat)*pw e<pw (bl m+e):=by
 have h1:=D0 m h;have h2:=Cm m;have h3:=Id m h;constructor
 ·have e1:pw (bl m+e-1)=((2^(bl m-1):Nat):Rat)*pw e:=by
   rw [←J5,←Gz];congr 1;omega
  rw [e1,Gy,Cw];exact h1
 ·have e1:pw (bl m+e)=((2^bl m:Nat):Rat)*pw e:=by
   rw [←J5,←Gz]
  rw [e1,Rk,Cx];exact h2
theorem L7 {x y:Rat}(h:x<y):Ce x y=-1:=by unfold Ce;rw [if_pos h]
theorem L6 {x y:Rat}(h:y<x):Ce x y=1:=by unfold Ce;rw [if_neg (by grind),if_neg (by grind)]
theorem Y6 {a b:Dy}(ha:a.m≠0)(hb:b.m≠0):Fw a b=Ce ((a.m:Rat)*pw a.e) ((b.m:Rat)*pw b.e):=by
 obtain ⟨a1,a2⟩:=Aco ha a.e;obtain ⟨b1,b2⟩:=Aco hb b.e;unfold Fw;by_cases h1:(bl a.m:Int)+a.e<bl b.m+b.e
 ·rw [if_pos h1,L7];have:=Sx (show (bl a.m:Int)+a.e≤bl b.m+b.e-1 by omega);grind
 ·rw [if_neg h1];by_cases h2:(bl b.m:Int)+b.e<bl a.m+a.e
  ·rw [if_pos h2,L6];have:=Sx (show (bl b.m:Int)+b.e≤bl a.m+a.e-1 by omega);grind
  ·rw [if_neg h2];exact (Abl a.m b.m (Int.min_le_left _ _) (Int.min_le_right _ _)).symm
def sg (d:Dy):Int:=if d.m=0 then 0 else if d.neg then -1 else 1
theorem Xn {d:Dy}(h:sg d=1):0<d.q∧d.q=(d.m:Rat)*pw d.e∧d.m≠0:=by
 unfold sg at h;by_cases h0:d.m=0
 ·rw [if_pos h0] at h;exact absurd h (by decide)
 ·rw [if_neg h0] at h;unfold Dy.q sq;cases hn:d.neg
  ·simp only [Bool.false_eq_true,if_false];exact ⟨Adn h0 _,trivial,h0⟩
  ·rw [hn] at h;exact absurd h (by decide)
theorem Tc {d:Dy}(h:sg d=-1):d.q<0∧d.q=-((d.m:Rat)*pw d.e)∧d.m≠0:=by
 unfold sg at h;by_cases h0:d.m=0
 ·rw [if_pos h0] at h;exact absurd h (by decide)
 ·rw [if_neg h0] at h;unfold Dy.q sq;cases hn:d.neg
  ·rw [hn] at h;exact absurd h (by decide)
  ·simp only [if_true,Rat.neg_mul];have:=Adn h0 d.e;exact ⟨by grind,trivial,h0⟩
theorem Td {d:Dy}(h:sg d=0):d.q=0:=by
 unfold sg at h;by_cases h0:d.m=0
 ·exact Qq h0
 ·rw [if_neg h0] at h;split at h<;>exact absurd h (by decide)
theorem Hm (d:Dy):sg d=-1∨sg d=0∨sg d=1:=by
 unfold sg;split
 ·exact .inr (.inl rfl)
 ·split
  ·exact .inl rfl
  ·exact .inr (.inr rfl)
theorem Ad1 (d:Dy):sg d=Ce d.q 0:=by
 rcases Hm d with h | h | h
 ·rw [h,L7 (Tc h).1]
 ·rw [h,Td h,Q7]
 ·rw [h,L6 (Xn h).1]
theorem We {a b:Dy}(h:sg a<sg b):Ce a.q b.q=-1:=by
 apply L7;rw [Ad1,Ad1] at h;have h1:=@Mn a.q 0;have h2:=@Sk b.q 0;have h3:=@K8 a.q 0;have h4:=@Yc b.q 0;rcases Hm a with ha | ha | ha<;>rcases Hm b with hb | hb | hb<;>rw [Ad1] at ha hb<;>rw [ha,hb] at h<;>first | (exact absurd h (by decide)) | skip
 all_goals (rw [ha] at h1 h3;rw [hb] at h2 h4;simp at h1 h2 h3 h4;grind)
theorem Abm {a b:Dy}(h:sg b<sg a):Ce a.q b.q=1:=by
 have h1:=We h;have h2:=Ty b.q a.q;have h3:=@Mn b.q a.q;rw [h1] at h3;exact L6 (h3.1 (by decide))
theorem Tz {a b:Dy}(h:sg a=sg b):Ce a.q b.q=if sg a=0 then 0 else sg a*Fw a b:=by
 rcases Hm a with ha | ha | ha
 ·rw [ha,if_neg (by decide)];obtain ⟨_,a1,a2⟩:=Tc ha;obtain ⟨_,b1,b2⟩:=Tc (h▸ha);rw [a1,b1,Ty,Y6 a2 b2];omega
 ·rw [ha,if_pos rfl,Td ha,Td (h▸ha),Q7]
 ·rw [ha,if_neg (by decide)];obtain ⟨_,a1,a2⟩:=Xn ha;obtain ⟨_,b1,b2⟩:=Xn (h▸ha);rw [a1,b1,Y6 a2 b2];omega
structure Iv where
 lo:Dy
 hi:Dy
def iz:Iv:=⟨dz,dz⟩
structure RawI where
 lo:Raw
 hi:Raw
def Iv.raw (a:Iv):RawI:=⟨a.lo.raw,a.hi.raw⟩
structure Iv.Ok (a:Iv):Prop where
 lo:a.lo.Ok
 hi:a.hi.Ok
 le:a.lo.q≤a.hi.q
def Ck (a:RawI):Bool:=Di a.lo&&Di a.hi&&decide (Ce a.lo.dy.q a.hi.dy.q≤0)
theorem Ff {a:Iv}(h:a.Ok):Ck a.raw=true:=by
 unfold Ck Iv.raw;simp only [h.lo.may,h.hi.may,Dy.raw_dy,Bool.true_and,decide_eq_true_eq];exact K8.2 h.le
def Outc.bind {α β:Type} (o:Outc α) (z:β) (f:α→Outc β):Outc β:=if o.k=0 then f o.v else ⟨z,o.k⟩
theorem Outc.bind_ok {α β:Type}{o:Outc α}{z:β}{f:α→Outc β}(h:(o.bind z f).k=0):o.k=0∧o.bind z f=f o.v:=by
 unfold Outc.bind at *;by_cases hk:o.k=0
 ·rw [if_pos hk] at h ⊢;exact ⟨hk,rfl⟩
 ·rw [if_neg hk] at h;exact absurd h hk
theorem Outc.bind_of {α β:Type}{o:Outc α}(z:β)(f:α→Outc β)(h:o.k=0):o.bind z f=f o.v:=by unfold Outc.bind;rw [if_pos h]
def Gp (lo hi:Outc Dy):Outc Iv:=lo.bind iz fun l=>hi.bind iz fun h=>⟨⟨l,h⟩,0⟩
def Ta (o:Outc Dy) (p:Nat) (up:Bool):Outc Dy:=o.bind dz fun d=>Eh d p up
def Gf (a b:Iv) (p:Nat):Outc Iv:=Gp (Ta (Du a.lo b.lo) p false) (Ta (Du a.hi b.hi) p true)
def Xs (a b:Iv) (p:Nat):Outc Iv:=Gp (Ta (Du a.lo (Fg b.hi)) p false) (Ta (Du a.hi (Fg b.lo)) p true)
def Z6 (a:Iv) (p:Nat):Outc Iv:=Gp (Eh (Fg a.hi) p false) (Eh (Fg a.lo) p true)
def Cs (d:Dy):List Dy→Dy
 | []=>d
 | x::l=>Cs (if Ce x.q d.q<0 then x else d) l
def Bw (d:Dy):List Dy→Dy
 | []=>d
 | x::l=>Bw (if 0<Ce x.q d.q then x else d) l
def Ge (a b c d:Outc Dy) (f:Dy→Dy→Dy→Dy→Outc Iv):Outc Iv :=
 a.bind iz fun x=>b.bind iz fun y=>c.bind iz fun z=>d.bind iz fun u=>f x y z u
def Fs (a b:Iv) (p:Nat):Outc Iv :=
 Ge (D7 a.lo b.lo) (D7 a.lo b.hi) (D7 a.hi b.lo) (D7 a.hi b.hi) fun x y z u =>
  Gp (Eh (Cs x [x,y,z,u]) p false) (Eh (Bw x [x,y,z,u]) p true)
def Ey (b:Iv):Bool:=decide (Ce b.lo.q 0≤0)&&decide (Ce 0 b.hi.q≤0)
def Fp (a b:Iv) (p:Nat):Outc Iv :=
 if Ey b then ⟨iz,4⟩ else
 Ge (Cg a.lo b.lo p false) (Cg a.lo b.hi p false) (Cg a.hi b.lo p false) (Cg a.hi b.hi p false) fun x y z u =>
 Ge (Cg a.lo b.lo p true) (Cg a.lo b.hi p true) (Cg a.hi b.lo p true) (Cg a.hi b.hi p true) fun x' y' z' u' =>
  ⟨⟨Cs x [x,y,z,u],Bw x' [x',y',z',u']⟩,0⟩
def Aan (a:Iv) (p:Nat):Outc Iv :=
 (D7 a.lo a.lo).bind iz fun x=>(D7 a.hi a.hi).bind iz fun y =>
   Gp (Eh (if Ey a then dz else Cs x [x,y]) p false) (Eh (Bw x [x,y]) p true)
def Ru (a:Iv) (p:Nat):Outc Iv :=
 if sg a.lo<0 then ⟨iz,4⟩ else Gp (Lv a.lo p false) (Lv a.hi p true)
end Go.Proofs.YtmgaloopddiekaaGreatDoor
namespace Go.Proofs.YtmgaloopddiekaaGreatDoor
theorem Rf (l:List Dy):∀ d:Dy,(Cs d l).q≤d.q∧∀ x∈l,(Cs d l).q≤x.q:=by
 induction l with
 | nil=>intro d;exact ⟨Rat.le_refl,fun x hx=>by cases hx⟩
 | cons y l ih =>
   intro d;unfold Cs;obtain ⟨h1,h2⟩:=ih (if Ce y.q d.q<0 then y else d);have hc:=@Mn y.q d.q;have h3:(if Ce y.q d.q<0 then y else d).q≤d.q∧(if Ce y.q d.q<0 then y else d).q≤y.q:=by
    by_cases h:Ce y.q d.q<0
    ·rw [if_pos h];have:=hc.1 h;constructor<;>grind
    ·rw [if_neg h];have:¬y.q<d.q:=fun hh=>h (hc.2 hh);constructor<;>grind
   refine ⟨by grind,fun x hx=>?_⟩;rcases List.mem_cons.1 hx with rfl | hx
   ·grind
   ·exact h2 x hx
theorem W5 (l:List Dy):∀ d:Dy,Cs d l=d∨Cs d l∈l:=by
 induction l with
 | nil=>intro d;exact .inl rfl
 | cons y l ih =>
   intro d;unfold Cs;rcases ih (if Ce y.q d.q<0 then y else d) with h | h
   ·rw [h];split
    ·exact .inr (List.mem_cons_self ..)
    ·exact .inl rfl
   ·exact .inr (List.mem_cons_of_mem _ h)
theorem Mv (l:List Dy):∀ d:Dy,d.q≤(Bw d l).q∧∀ x∈l,x.q≤(Bw d l).q:=by
 induction l with
 | nil=>intro d;exact ⟨Rat.le_refl,fun x hx=>by cases hx⟩
 | cons y l ih =>
   intro d;unfold Bw;obtain ⟨h1,h2⟩:=ih (if 0<Ce y.q d.q then y else d);have hc:=@Sk y.q d.q;have h3:d.q≤(if 0<Ce y.q d.q then y else d).q∧y.q≤(if 0<Ce y.q d.q then y else d).q:=by
    by_cases h:0<Ce y.q d.q
    ·rw [if_pos h];have:=hc.1 h;constructor<;>grind
    ·rw [if_neg h];have:¬d.q<y.q:=fun hh=>h (hc.2 hh);constructor<;>grind
   refine ⟨by grind,fun x hx=>?_⟩;rcases List.mem_cons.1 hx with rfl | hx
   ·grind
   ·exact h2 x hx
theorem Qr (l:List Dy):∀ d:Dy,Bw d l=d∨Bw d l∈l:=by
 induction l with
 | nil=>intro d;exact .inl rfl
 | cons y l ih =>
   intro d;unfold Bw;rcases ih (if 0<Ce y.q d.q then y else d) with h | h
   ·rw [h];split
    ·exact .inr (List.mem_cons_self ..)
    ·exact .inl rfl
   ·exact .inr (List.mem_cons_of_mem _ h)
theorem Rg {d:Dy}{l:List Dy}(hd:d.Ok)(hl:∀ x∈l,Dy.Ok x):(Cs d l).Ok:=by
 rcases W5 l d with h | h
 ·rw [h];exact hd
 ·exact hl _ h
theorem Mw {d:Dy}{l:List Dy}(hd:d.Ok)(hl:∀ x∈l,Dy.Ok x):(Bw d l).Ok:=by
 rcases Qr l d with h | h
 ·rw [h];exact hd
 ·exact hl _ h
theorem Aci {x y z u:Dy}:(Cs x [x,y,z,u]).q≤x.q∧(Cs x [x,y,z,u]).q≤y.q∧(Cs x [x,y,z,u]).q≤z.q∧(Cs x [x,y,z,u]).q≤u.q:=by
 obtain ⟨a,b⟩:=Rf [x,y,z,u] x;exact ⟨a,b y (by simp),b z (by simp),b u (by simp)⟩
theorem Rc {x y z u:Dy}:x.q≤(Bw x [x,y,z,u]).q∧y.q≤(Bw x [x,y,z,u]).q∧z.q≤(Bw x [x,y,z,u]).q∧u.q≤(Bw x [x,y,z,u]).q:=by
 obtain ⟨a,b⟩:=Mv [x,y,z,u] x;exact ⟨a,b y (by simp),b z (by simp),b u (by simp)⟩
theorem Ah1 {x y:Dy}:(Cs x [x,y]).q≤x.q∧(Cs x [x,y]).q≤y.q:=by
 obtain ⟨a,b⟩:=Rf [x,y] x;exact ⟨a,b y (by simp)⟩
theorem Zj {x y:Dy}:x.q≤(Bw x [x,y]).q∧y.q≤(Bw x [x,y]).q:=by
 obtain ⟨a,b⟩:=Mv [x,y] x;exact ⟨a,b y (by simp)⟩
theorem Jh {d:Dy}{p:Nat}(hp:1≤p)(hk:(Eh d p false).k=0):IsDown p d.q (Eh d p false).v.q:=Ue hp hk
theorem Mo {d:Dy}{p:Nat}(hp:1≤p)(hk:(Eh d p true).k=0):IsUp p d.q (Eh d p true).v.q:=Ue hp hk
theorem Vh {o:Outc Dy}{p:Nat}{up:Bool}(hk:(Ta o p up).k=0):o.k=0∧Ta o p up=Eh o.v p up:=Outc.bind_ok hk
theorem Um (b:Iv):Ey b=true↔b.lo.q≤0∧0≤b.hi.q:=by
 unfold Ey;simp only [Bool.and_eq_true,decide_eq_true_eq];rw [K8,K8]
end Go.Proofs.YtmgaloopddiekaaGreatDoor
namespace Go.Proofs.YtmgaloopddiekaaGreatDoor
def OkI (o:Outc Iv):Prop:=o.v.Ok∧(o.k≠0→o.v=iz)
theorem Yq:iz.Ok:=⟨Mq,Mq,Rat.le_refl⟩
theorem G7 (k:Int):OkI ⟨iz,k⟩:=⟨Yq,fun _=>rfl⟩
theorem Ji {lo hi:Outc Dy}(h1:lo.Ok)(h2:hi.Ok)(h:lo.k=0→hi.k=0→lo.v.q≤hi.v.q):OkI (Gp lo hi):=by
 unfold Gp Outc.bind;by_cases k1:lo.k=0
 ·simp only [if_pos k1];by_cases k2:hi.k=0
  ·simp only [if_pos k2];exact ⟨⟨h1.1,h2.1,h k1 k2⟩,fun h=>absurd rfl h⟩
  ·simp only [if_neg k2];exact G7 _
 ·simp only [if_neg k1];exact G7 _
theorem Yz (o:Outc Dy)(p:Nat)(up:Bool):(Ta o p up).Ok:=by
 unfold Ta Outc.bind;by_cases k1:o.k=0
 ·simp only [if_pos k1];exact G8 _ _ _
 ·simp only [if_neg k1];exact V8 _
theorem Po {a b c d:Outc Dy}{f:Dy→Dy→Dy→Dy→Outc Iv}(h:a.k=0→b.k=0→c.k=0→d.k=0→OkI (f a.v b.v c.v d.v)):OkI (Ge a b c d f):=by
 unfold Ge Outc.bind;by_cases k1:a.k=0
 ·simp only [if_pos k1];by_cases k2:b.k=0
  ·simp only [if_pos k2];by_cases k3:c.k=0
   ·simp only [if_pos k3];by_cases k4:d.k=0
    ·simp only [if_pos k4];exact h k1 k2 k3 k4
    ·simp only [if_neg k4];exact G7 _
   ·simp only [if_neg k3];exact G7 _
  ·simp only [if_neg k2];exact G7 _
 ·simp only [if_neg k1];exact G7 _
theorem X0 {a b:Iv}(ha:a.Ok)(hb:b.Ok){p:Nat}(hp:1≤p):OkI (Gf a b p):=by
 unfold Gf;refine Ji (Yz _ _ _) (Yz _ _ _) fun k1 k2=>?_
 obtain ⟨h4,h5⟩:=Vh k1;obtain ⟨h6,h7⟩:=Vh k2;rw [h5] at k1 ⊢;rw [h7] at k2 ⊢;have d1:=(Jh hp k1).le;have d2:=(Mo hp k2).le;rw [Xt h4] at d1;rw [Xt h6] at d2;have:=ha.le;have:=hb.le;grind
theorem Adb {b:Iv}(hb:b.Ok):(Iv.mk (Fg b.hi) (Fg b.lo)).Ok :=
 ⟨M4 hb.hi,M4 hb.lo,by simp only [Ac9];have:=hb.le;grind⟩
theorem Aed (a b:Iv)(p:Nat):Xs a b p=Gf a ⟨Fg b.hi,Fg b.lo⟩ p:=rfl
theorem Agq {a b:Iv}(ha:a.Ok)(hb:b.Ok){p:Nat}(hp:1≤p):OkI (Xs a b p):=by
 rw [Aed];exact X0 ha (Adb hb) hp
theorem Af5 {a:Iv}(ha:a.Ok){p:Nat}(hp:1≤p):OkI (Z6 a p):=by
 unfold Z6;refine Ji (G8 _ _ _) (G8 _ _ _) fun k1 k2=>?_
 have d1:=(Jh hp k1).le;have d2:=(Mo hp k2).le;have:=(Adb ha).le;simp only at this;grind
theorem Af1 {a b:Iv}{p:Nat}(hp:1≤p):OkI (Fs a b p):=by
 unfold Fs;refine Po fun h1 h2 h3 h4=>Ji (G8 _ _ _) (G8 _ _ _) fun k1 k2=>?_
 have d1:=(Jh hp k1).le;have d2:=(Mo hp k2).le;have l:=(Aci (x:=(D7 a.lo b.lo).v) (y:=(D7 a.lo b.hi).v) (z:=(D7 a.hi b.lo).v) (u:=(D7 a.hi b.hi).v)).1;have g:=(Rc (x:=(D7 a.lo b.lo).v) (y:=(D7 a.lo b.hi).v) (z:=(D7 a.hi b.lo).v) (u:=(D7 a.hi b.hi).v)).1;grind
theorem Pr {b:Iv}(hb:b.Ok)(h:¬Ey b=true):¬b.lo.m=0∧¬b.hi.m=0:=by
 have hz:=fun x=>h ((Um b).2 x)
 have:=hb.le;constructor
 ·intro h0;have:=Qq h0;exact hz ⟨by grind,by grind⟩
 ·intro h0;have:=Qq h0;exact hz ⟨by grind,by grind⟩
theorem Xg {a b:Dy}{p:Nat}(hp:1≤p)(hb:¬b.m=0)(hk:(Cg a b p false).k=0):IsDown p (a.q/b.q) (Cg a b p false).v.q:=Ro hp hb hk
theorem Adq {a b:Dy}{p:Nat}(hp:1≤p)(hb:¬b.m=0)(hk:(Cg a b p true).k=0):IsUp p (a.q/b.q) (Cg a b p true).v.q:=Ro hp hb hk
theorem Ye {a b:Iv}(hb:b.Ok){p:Nat}(hp:1≤p):OkI (Fp a b p):=by
 unfold Fp;by_cases hz:Ey b=true
 ·rw [if_pos hz];exact G7 _
 ·rw [if_neg hz];obtain ⟨n1,n2⟩:=Pr hb hz;refine Po fun h1 h2 h3 h4=>Po fun k1 k2 k3 k4=>⟨⟨?_,?_,?_⟩,fun h=>absurd rfl h⟩
  ·refine Rg (Ed _ _ _ _).1 fun x hx=>?_
   simp only [List.mem_cons,List.not_mem_nil,or_false] at hx;rcases hx with rfl | rfl | rfl | rfl<;>exact (Ed _ _ _ _).1
  ·refine Mw (Ed _ _ _ _).1 fun x hx=>?_
   simp only [List.mem_cons,List.not_mem_nil,or_false] at hx;rcases hx with rfl | rfl | rfl | rfl<;>exact (Ed _ _ _ _).1
  ·have d1:=(Xg hp n1 h1).le;have d2:=(Adq hp n1 k1).le;have l:=(Aci (x:=(Cg a.lo b.lo p false).v) (y:=(Cg a.lo b.hi p false).v) (z:=(Cg a.hi b.lo p false).v) (u:=(Cg a.hi b.hi p false).v)).1;have g:=(Rc (x:=(Cg a.lo b.lo p true).v) (y:=(Cg a.lo b.hi p true).v) (z:=(Cg a.hi b.lo p true).v) (u:=(Cg a.hi b.hi p true).v)).1
   show (Cs _ _).q≤(Bw _ _).q
   grind
theorem Ago {a:Iv}{p:Nat}(hp:1≤p):OkI (Aan a p):=by
 have sqn:∀ x:Rat,0≤x*x:=fun x=>by
  by_cases h:0≤x
  ·exact Rat.mul_nonneg h h
  ·have:=Rat.mul_nonneg (show 0≤-x by grind) (show 0≤-x by grind);grind
 unfold Aan Outc.bind;by_cases h1:(D7 a.lo a.lo).k=0
 ·simp only [if_pos h1];by_cases h2:(D7 a.hi a.hi).k=0
  ·simp only [if_pos h2];refine Ji (G8 _ _ _) (G8 _ _ _) fun k1 k2=>?_
   have d1:=(Jh hp k1).le;have d2:=(Mo hp k2).le;have l:=(Ah1 (x:=(D7 a.lo a.lo).v) (y:=(D7 a.hi a.hi).v)).1;have g:=(Zj (x:=(D7 a.lo a.lo).v) (y:=(D7 a.hi a.hi).v)).1;have q1:=Ah8 h1;have:=sqn a.lo.q;have hl:(if Ey a=true then dz else Cs (D7 a.lo a.lo).v [(D7 a.lo a.lo).v,(D7 a.hi a.hi).v]).q≤(D7 a.lo a.lo).v.q:=by
    split
    ·rw [Afc];grind
    ·exact l
   grind
  ·simp only [if_neg h2];exact G7 _
 ·simp only [if_neg h1];exact G7 _
theorem Agj {x y d e:Rat}(hd:d*d≤x)(hxy:x≤y)(he:0≤e)(hy:y≤e*e):d≤e:=by
 by_cases h:d≤e
 ·exact h
 ·have:=Acn he (show e<d by grind);grind
theorem Aao {a:Iv}(ha:a.Ok)(h:¬sg a.lo<0):a.lo.neg=false∧a.hi.neg=false:=by
 rw [Ad1] at h;have h0:0≤a.lo.q:=by
  have:=@Mn a.lo.q 0;grind
 have h1:0≤a.hi.q:=by have:=ha.le;grind
 have key:∀ d:Dy,d.Ok→0≤d.q→d.neg=false:=by
  intro d hd hq;by_cases hm:d.m=0
  ·exact (hd.zero hm).1
  ·cases hn:d.neg
   ·rfl
   ·have:sg d=-1:=by unfold sg;rw [if_neg hm,hn];rfl
    have:=(Tc this).1;grind
 exact ⟨key _ ha.lo h0,key _ ha.hi h1⟩
theorem Xk {d:Dy}{p:Nat}(hp:1≤p)(hn:d.neg=false)(hk:(Lv d p false).k=0):L4 p d.q (Lv d p false).v.q:=Rp hp hn hk
theorem Adu {d:Dy}{p:Nat}(hp:1≤p)(hn:d.neg=false)(hk:(Lv d p true).k=0):O0 p d.q (Lv d p true).v.q:=Rp hp hn hk
theorem Ad6 {a:Iv}(ha:a.Ok){p:Nat}(hp:1≤p):OkI (Ru a p):=by
 unfold Ru;by_cases hs:sg a.lo<0
 ·rw [if_pos hs];exact G7 _
 ·rw [if_neg hs];obtain ⟨n1,n2⟩:=Aao ha hs;refine Ji (Vi _ _ _) (Vi _ _ _) fun k1 k2=>?_
  have d1:=Xk hp n1 k1;have d2:=Adu hp n2 k2;exact Agj d1.le ha.le d2.nonneg d2.le
theorem IsDown.sign {p:Nat}{x d:Rat}(h:IsDown p x d)(hx:0≤x):0≤d:=h.best 0 (Fits.zero p) hx
end Go.Proofs.YtmgaloopddiekaaGreatDoor
namespace Go.Proofs.YtmgaloopddiekaaGreatDoor
structure Few (d:Dy) (b:Nat) (e:Int):Prop where
 ok:d.Ok
 bl:bl d.m≤b
 lo:-e≤d.e
 hi:d.e≤e
def pt (d:Dy):Iv:=⟨d,d⟩
theorem Yx {d:Dy}(h:d.Ok):(pt d).Ok:=⟨h,h,Rat.le_refl⟩
end Go.Proofs.YtmgaloopddiekaaGreatDoor
