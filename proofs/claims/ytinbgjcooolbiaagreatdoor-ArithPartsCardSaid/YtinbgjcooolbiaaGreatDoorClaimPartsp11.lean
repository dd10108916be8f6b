/- Words and contracts, part 11. -/
import Derived.Test.YtinbgjcooolbiaaGreatDoorClaimPartsp02
set_option maxRecDepth 100000
set_option maxHeartbeats 0
namespace Go.Proofs.YtinbgjcooolbiaaGreatDoor
def shS (xs:List Nat) (b:Nat):Nat→List Nat × Nat
 | 0=>(List.replicate xs.length 0,0)
 | d + 1 => let s := shS xs b d
   (s.1.set (xs.length-1-d) ((s.2*18446744073709551616+nth xs (xs.length-1-d))/b),(s.2*18446744073709551616+nth xs (xs.length-1-d))%b)
theorem Hd (xs:List Nat)(b d:Nat):shS xs b (d+1)=((shS xs b d).1.set (xs.length-1-d) (((shS xs b d).2*18446744073709551616+nth xs (xs.length-1-d))/b),((shS xs b d).2*18446744073709551616+nth xs (xs.length-1-d))%b):=rfl
theorem Db (xs:List Nat)(b:Nat):∀ d,(shS xs b d).1.length=xs.length
 | 0=>by simp [shS]
 | d+1=>by rw [Hd,List.length_set,Db xs b d]
theorem Ms (xs:List Nat)(b:Nat)(hb:0<b):∀ d,(shS xs b d).2<b
 | 0=>by simpa [shS] using hb
 | d+1=>by rw [Hd];exact Nat.mod_lt _ hb
theorem Jt (r x b:Nat)(hr:r<b)(hx:x<18446744073709551616):(r*18446744073709551616+x)/b<18446744073709551616:=by
 rw [Nat.div_lt_iff_lt_mul (by omega)];omega
theorem Hc (xs:List Nat)(h:Small xs)(b:Nat)(hb:0<b):∀ d,Small (shS xs b d).1
 | 0=>Cy _
 | d + 1 => by
   rw [Hd];exact Bt (Hc xs h b hb d) _ _ (Jt _ _ _ (Ms xs b hb d) (nth_lt h _))
theorem Uc (xs:List Nat)(b:Nat):∀ d i,d≤xs.length→i<xs.length-d→nth (shS xs b d).1 i=0
 | 0,i,_,_=>Dn _ i
 | d + 1, i, hd, hi => by
   rw [Hd]
   show nth ((shS xs b d).1.set _ _) i=0
   rw [nth_set _ _ _ _ (by rw [Db];omega),if_neg (by omega)];exact Uc xs b d i (by omega) (by omega)
theorem Kd (xs:List Nat)(h:Small xs)(b:Nat):∀ d,d≤xs.length→val (shS xs b d).1*b+18446744073709551616^(xs.length-d)*(shS xs b d).2+val (xs.take (xs.length-d))=val xs
 | 0, _ => by
   rw [shS,Nat.sub_zero,List.take_of_length_le (Nat.le_refl _)];simp [Eq]
 | d + 1, hd => by
   have ih:=Kd xs h b d (by omega);have hz:=Uc xs b d (xs.length-1-d) (by omega) (by omega);have hl:=Db xs b d;rw [Hd];generalize shS xs b d=s at *;obtain ⟨o,r⟩:=s;simp only at *;have e:xs.length-d=(xs.length-1-d)+1:=by omega
   have e':xs.length-(d+1)=xs.length-1-d:=by omega
   rw [e,Nat.pow_succ,Bf xs _ (by omega)] at ih;rw [e'];generalize xs.length-1-d=i at *;have v:=val_set o i ((r*18446744073709551616+nth xs i)/b) (by omega);rw [hz,Nat.mul_zero,Nat.add_zero] at v;rw [v,Nat.add_mul];have a:=Nat.div_add_mod (r*18446744073709551616+nth xs i) b;generalize (r*18446744073709551616+nth xs i)/b=q at *;generalize (r*18446744073709551616+nth xs i)%b=t at *;generalize 18446744073709551616^i=p at *;have e2:p*q*b+p*t=p*18446744073709551616*r+p*nth xs i:=by
    rw [Nat.mul_assoc,←Nat.mul_add,Nat.mul_comm q,a,Nat.mul_add,Nat.mul_comm r,Nat.mul_assoc]
   omega
theorem Aas (xs:List Nat)(h:Small xs)(b:Nat)(hb:0<b):val (shS xs b xs.length).1=val xs/b∧(shS xs b xs.length).2=val xs%b:=by
 have a:=Kd xs h b xs.length (Nat.le_refl _);have r:=Ms xs b hb xs.length;rw [Nat.sub_self,Nat.pow_zero,Nat.one_mul,List.take_zero,val,Nat.add_zero] at a;rw [←a];constructor
 ·rw [Nat.add_comm,Nat.add_mul_div_right _ _ hb,Nat.div_eq_of_lt r,Nat.zero_add]
 ·rw [Nat.add_comm,Nat.add_mul_mod_self_right,Nat.mod_eq_of_lt r]
structure S8 (U3 V2 v1 v2 u2 x r:Nat):Prop where
 sum:U3=x*(v1*18446744073709551616)+r*18446744073709551616+u2
 two:V2=v1*18446744073709551616+v2
theorem Sh {U3 V2 v1 v2 u2 x r:Nat}(h:S8 U3 V2 v1 v2 u2 x r)(hx:x<18446744073709551616)(h2:v2<18446744073709551616)(hc:x*v2≤r*18446744073709551616+u2∨18446744073709551616≤r):x*V2≤U3:=by
 rw [h.sum,h.two,Nat.mul_add];have:x*v2≤18446744073709551616*18446744073709551616:=Nat.mul_le_mul (by omega) (by omega);rcases hc with hc | hc
 ·omega
 ·omega
theorem Sg {U3 V2 v1 v2 u2 x r:Nat}(h:S8 U3 V2 v1 v2 u2 x r)(hc:r*18446744073709551616+u2<x*v2):U3<x*V2∧S8 U3 V2 v1 v2 u2 (x-1) (r+v1):=by
 have hx:1≤x:=by
  by_cases e:x=0
  ·subst e;omega
  ·omega
 obtain ⟨k,rfl⟩:∃ k,x=k+1:=⟨x-1,by omega⟩;refine ⟨?_,⟨?_,h.two⟩⟩
 ·rw [h.sum,h.two,Nat.mul_add];omega
 ·rw [Nat.add_sub_cancel,h.sum,Nat.add_mul,Nat.add_mul];omega
theorem Un (U3 V2 P u' v' x:Nat)(_hu:u'<P)(hv:v'<P)(hx:x<18446744073709551616)(h1:x*V2≤U3)(hV:18446744073709551616≤V2)(hq:(U3*P+u')/(V2*P+v')≤x):x=(U3*P+u')/(V2*P+v')∨x=(U3*P+u')/(V2*P+v')+1:=by
 have hp:0<P:=by omega
 have hV0:0<V2*P+v':=by
  have:18446744073709551616*P≤V2*P:=Nat.mul_le_mul_right _ hV;omega
 have a:(x-1)≤(U3*P+u')/(V2*P+v'):=by
  rw [Nat.le_div_iff_mul_le hV0];by_cases e:x=0
  ·subst e;simp
  ·obtain ⟨k,rfl⟩:∃ k,x=k+1:=⟨x-1,by omega⟩;rw [Nat.add_sub_cancel,Nat.mul_add];have b:(k+1)*V2*P≤U3*P:=Nat.mul_le_mul_right _ h1;rw [Nat.add_mul,Nat.add_mul,Nat.one_mul] at b;have c:18446744073709551616*P≤V2*P:=Nat.mul_le_mul_right _ hV;have d:k*v'≤18446744073709551616*P:=Nat.mul_le_mul (by omega) (by omega);have e:k*(V2*P)=k*V2*P:=(Nat.mul_assoc _ _ _).symm;omega
 generalize (U3*P+u')/(V2*P+v')=q at *;omega
theorem Sf (U3 V2 P u' v' x:Nat)(hu:u'<P)(h:U3<x*V2)(hV:0<V2):(U3*P+u')/(V2*P+v')≤x-1:=by
 have hp:0<P:=by omega
 have hV0:0<V2*P+v':=by
  have:=Nat.mul_pos hV hp;omega
 have:(U3*P+u')/(V2*P+v')<x:=by
  rw [Nat.div_lt_iff_lt_mul hV0,Nat.mul_add];have a:(U3+1)*P≤x*V2*P:=Nat.mul_le_mul_right _ h;rw [Nat.add_mul,Nat.mul_assoc] at a;omega
 exact Nat.le_sub_one_of_lt this
theorem Qk (U2 u2 v1 v2 P u' v':Nat)(hu2:u2<18446744073709551616)(hu:u'<P)(hv1:0<v1) :
 ((U2*18446744073709551616+u2)*P+u')/((v1*18446744073709551616+v2)*P+v')≤U2/v1:=by
 have hp:0<P:=by omega
 have c0:=Nat.div_mul_le_self ((U2*18446744073709551616+u2)*P+u') ((v1*18446744073709551616+v2)*P+v');generalize ((U2*18446744073709551616+u2)*P+u')/((v1*18446744073709551616+v2)*P+v')=a at *;rw [Nat.le_div_iff_mul_le hv1];have c1:a*v1*(18446744073709551616*P)<(U2+1)*(18446744073709551616*P):=by
  have e1:a*((v1*18446744073709551616+v2)*P+v')=a*v1*(18446744073709551616*P)+a*(v2*P)+a*v':=by
   rw [Nat.mul_add,Nat.add_mul,Nat.mul_add,Nat.mul_assoc v1,←Nat.mul_assoc a v1]
  have e2:(U2*18446744073709551616+u2)*P=U2*(18446744073709551616*P)+u2*P:=by rw [Nat.add_mul,Nat.mul_assoc]
  have e3:(u2+1)*P≤18446744073709551616*P:=Nat.mul_le_mul_right _ hu2;rw [e1,e2] at c0;rw [Nat.add_mul U2,Nat.one_mul];rw [Nat.add_mul] at e3;generalize 18446744073709551616*P=Q at *;omega
 have:=Nat.lt_of_mul_lt_mul_right c1;omega
def msS (wl:List Nat) (x:Nat) (vs:List Nat):Nat→List Nat × Nat × Nat
 | 0=>(wl,0,0)
 | k + 1 => let s := msS wl x vs k
   (s.1.set k ((nth s.1 k+18446744073709551616-(x*nth vs k+s.2.1)%18446744073709551616-s.2.2)%18446744073709551616),(x*nth vs k+s.2.1)/18446744073709551616,
     if nth s.1 k<(x*nth vs k+s.2.1)%18446744073709551616+s.2.2 then 1 else 0)
theorem Hb (wl:List Nat)(x:Nat)(vs:List Nat)(k:Nat):msS wl x vs (k+1)=((msS wl x vs k).1.set k ((nth (msS wl x vs k).1 k+18446744073709551616-(x*nth vs k+(msS wl x vs k).2.1)%18446744073709551616-(msS wl x vs k).2.2)%18446744073709551616),(x*nth vs k+(msS wl x vs k).2.1)/18446744073709551616,
 if nth (msS wl x vs k).1 k<(x*nth vs k+(msS wl x vs k).2.1)%18446744073709551616+(msS wl x vs k).2.2 then 1 else 0):=rfl
theorem Fe (wl:List Nat)(x:Nat)(vs:List Nat):∀ k,(msS wl x vs k).1.length=wl.length
 | 0=>rfl
 | k+1=>by rw [Hb,List.length_set,Fe wl x vs k]
theorem F9 (wl:List Nat)(x:Nat)(vs:List Nat)(h:Small wl):∀ k,Small (msS wl x vs k).1
 | 0=>h
 | k+1=>by rw [Hb];exact Bt (F9 wl x vs h k) _ _ (Nat.mod_lt _ (by decide))
theorem N0 (wl:List Nat)(x:Nat)(vs:List Nat)(hx:x<18446744073709551616)(h':Small vs):∀ k,(msS wl x vs k).2.1<18446744073709551616
 | 0=>by simp [msS]
 | k + 1 => by
   rw [Hb];have:=I5 x (nth vs k) (msS wl x vs k).2.1 0 hx (nth_lt h' k) (N0 wl x vs hx h' k) (by decide);rwa [Nat.add_zero] at this
theorem Hv (wl:List Nat)(x:Nat)(vs:List Nat):∀ k,(msS wl x vs k).2.2≤1
 | 0=>by simp [msS]
 | k + 1 => by
   rw [Hb]
   show (if _ then 1 else 0)≤1
   split<;>omega
theorem M6 (p x y c:Nat)(hx:x<18446744073709551616)(hy:y<18446744073709551616)(hc:c≤1) :
 p*((x+18446744073709551616-y-c)%18446744073709551616)+p*y+p*c=p*x+p*18446744073709551616*(if x<y+c then 1 else 0):=by
 by_cases hlt:x<y+c
 ·rw [if_pos hlt,Nat.mod_eq_of_lt (by omega),Nat.mul_one,←Nat.mul_add,←Nat.mul_add,←Nat.mul_add]
  congr 1;omega
 ·have e0:(x+18446744073709551616-y-c)%18446744073709551616=x-y-c:=by omega
  rw [if_neg hlt,e0,Nat.mul_zero,Nat.add_zero,←Nat.mul_add,←Nat.mul_add]
  congr 1;omega
theorem O7 (wl:List Nat)(x:Nat)(vs:List Nat)(h:Small wl):∀ k,k≤wl.length →
 val (msS wl x vs k).1+x*val (vs.take k)=val wl+18446744073709551616^k*((msS wl x vs k).2.1+(msS wl x vs k).2.2)
 | 0,_=>by simp [msS,val]
 | k + 1, hk => by
   have ih:=O7 wl x vs h k (by omega);have hl:=Fe wl x vs k;have hu:=nth_lt (F9 wl x vs h k) k;have hb:=Hv wl x vs k;rw [Hb,E9,Nat.pow_succ];generalize msS wl x vs k=s at *;obtain ⟨o,c,b⟩:=s;simp only at *;generalize hT:x*nth vs k+c=T;have v:=val_set o k ((nth o k+18446744073709551616-T%18446744073709551616-b)%18446744073709551616) (by omega);have sl:=M6 (18446744073709551616^k) (nth o k) (T%18446744073709551616) b hu (Nat.mod_lt _ (by decide)) hb;generalize (if nth o k<T%18446744073709551616+b then 1 else 0)=b' at *;generalize (nth o k+18446744073709551616-T%18446744073709551616-b)%18446744073709551616=z at *
   generalize 18446744073709551616^k=p at *;have e:p*18446744073709551616*(T/18446744073709551616)+p*(T%18446744073709551616)=p*T:=by
    rw [Nat.mul_assoc,←Nat.mul_add,Nat.div_add_mod]
   have e2:p*T=x*(p*nth vs k)+p*c:=by rw [←hT,Nat.mul_add,Nat.mul_left_comm]
   rw [Nat.mul_add x,Nat.mul_add (p*18446744073709551616)];rw [Nat.mul_add] at ih;omega
theorem Pr (wl vs:List Nat)(n:Nat)(hl:wl.length=n+1)(hv:vs.length=n):val (Cp wl vs n).1+18446744073709551616^n*(Cp wl vs n).2=val wl+val vs:=by
 have:=L0 wl vs n (by omega);rwa [List.take_of_length_le (by omega)] at this
theorem R7 (wl vs:List Nat)(x n:Nat)(h:Small wl)(hl:wl.length=n+1)(hv:vs.length=n)(hx:x=val wl/val vs)(hc:(msS wl x vs n).2.1<18446744073709551616) :
 val ((msS wl x vs n).1.set n ((nth (msS wl x vs n).1 n+18446744073709551616-(msS wl x vs n).2.1-(msS wl x vs n).2.2)%18446744073709551616))=val wl%val vs ∧
 (if nth (msS wl x vs n).1 n<(msS wl x vs n).2.1+(msS wl x vs n).2.2 then 1 else 0)=0:=by
 have a:=O7 wl x vs h n (by omega);rw [List.take_of_length_le (by omega)] at a;have b:=val_set (msS wl x vs n).1 n ((nth (msS wl x vs n).1 n+18446744073709551616-(msS wl x vs n).2.1-(msS wl x vs n).2.2)%18446744073709551616) (by rw [Fe];omega);have sm:=Bt (F9 wl x vs h n) n ((nth (msS wl x vs n).1 n+18446744073709551616-(msS wl x vs n).2.1-(msS wl x vs n).2.2)%18446744073709551616) (Nat.mod_lt _ (by decide));have lt:=val_lt _ sm;rw [List.length_set,Fe,hl,Nat.pow_succ] at lt;have sl:=M6 (18446744073709551616^n) (nth (msS wl x vs n).1 n) (msS wl x vs n).2.1 (msS wl x vs n).2.2 (nth_lt (F9 wl x vs h n) n) hc (Hv wl x vs n)
 have dm:=Nat.div_add_mod (val wl) (val vs);rw [←hx,Nat.mul_comm] at dm;generalize (nth (msS wl x vs n).1 n+18446744073709551616-(msS wl x vs n).2.1-(msS wl x vs n).2.2)%18446744073709551616=z at *;generalize val ((msS wl x vs n).1.set n z)=V' at *;rw [Nat.mul_add] at a;by_cases hlt:nth (msS wl x vs n).1 n<(msS wl x vs n).2.1+(msS wl x vs n).2.2
 ·rw [if_pos hlt,Nat.mul_one] at sl;exfalso;generalize 18446744073709551616^n=p at *;omega
 ·rw [if_neg hlt,Nat.mul_zero,Nat.add_zero] at sl;refine ⟨?_,if_neg hlt⟩;generalize 18446744073709551616^n=p at *;omega
theorem R8 (wl vs:List Nat)(x n:Nat)(h:Small wl)(hl:wl.length=n+1)(hv:vs.length=n)(hV:0<val vs)(hx:x=val wl/val vs+1)(hc:(msS wl x vs n).2.1<18446744073709551616) :
 val ((msS wl x vs n).1.set n ((nth (msS wl x vs n).1 n+18446744073709551616-(msS wl x vs n).2.1-(msS wl x vs n).2.2)%18446744073709551616))+val vs=val wl%val vs+18446744073709551616^n*18446744073709551616 ∧
 (if nth (msS wl x vs n).1 n<(msS wl x vs n).2.1+(msS wl x vs n).2.2 then 1 else 0)=1:=by
 have a:=O7 wl x vs h n (by omega);rw [List.take_of_length_le (by omega)] at a;have b:=val_set (msS wl x vs n).1 n ((nth (msS wl x vs n).1 n+18446744073709551616-(msS wl x vs n).2.1-(msS wl x vs n).2.2)%18446744073709551616) (by rw [Fe];omega);have sl:=M6 (18446744073709551616^n) (nth (msS wl x vs n).1 n) (msS wl x vs n).2.1 (msS wl x vs n).2.2 (nth_lt (F9 wl x vs h n) n) hc (Hv wl x vs n);have dm:=Nat.div_add_mod (val wl) (val vs);have ml:=Nat.mod_lt (val wl) hV;rw [hx,Nat.add_mul,Nat.one_mul,←hx,Nat.mul_comm (val wl/val vs)] at a;generalize (nth (msS wl x vs n).1 n+18446744073709551616-(msS wl x vs n).2.1-(msS wl x vs n).2.2)%18446744073709551616=z at *
 generalize val ((msS wl x vs n).1.set n z)=V' at *;rw [Nat.mul_add] at a;by_cases hlt:nth (msS wl x vs n).1 n<(msS wl x vs n).2.1+(msS wl x vs n).2.2
 ·rw [if_pos hlt,Nat.mul_one] at sl;refine ⟨?_,if_pos hlt⟩;generalize 18446744073709551616^n=p at *;omega
 ·rw [if_neg hlt,Nat.mul_zero,Nat.add_zero] at sl;exfalso;generalize 18446744073709551616^n=p at *;omega
theorem R6 (w2 vs:List Nat)(n r:Nat)(h:Small w2)(h':Small vs)(hl:w2.length=n+1)(hv:vs.length=n)(_hr:r<val vs)(he:val w2+val vs=r+18446744073709551616^n*18446744073709551616) :
 val ((Cp w2 vs n).1.set n ((nth (Cp w2 vs n).1 n+(Cp w2 vs n).2)%18446744073709551616))=r:=by
 have a:=Pr w2 vs n hl hv;have b:=val_set (Cp w2 vs n).1 n ((nth (Cp w2 vs n).1 n+(Cp w2 vs n).2)%18446744073709551616) (by rw [Dt];omega);have sm:=Bt (Et w2 vs h n) n ((nth (Cp w2 vs n).1 n+(Cp w2 vs n).2)%18446744073709551616) (Nat.mod_lt _ (by decide));have lt:=val_lt _ sm;have ltv:=val_lt vs h';rw [hv] at ltv;rw [List.length_set,Dt,hl,Nat.pow_succ] at lt;generalize hT:nth (Cp w2 vs n).1 n+(Cp w2 vs n).2=T at *;generalize val ((Cp w2 vs n).1.set n (T%18446744073709551616))=V' at *;have e:18446744073709551616^n*T=18446744073709551616^n*18446744073709551616*(T/18446744073709551616)+18446744073709551616^n*(T%18446744073709551616):=by
  rw [Nat.mul_assoc,←Nat.mul_add,Nat.div_add_mod]
 rw [←hT,Nat.mul_add,hT] at e;have ht:T/18446744073709551616≤1:=by
  have:=nth_lt (Et w2 vs h n) n;have:=Hk w2 vs h h' n;omega
 generalize 18446744073709551616^n=p at *;generalize T/18446744073709551616=q at *;have hq:q=0∨q=1:=by omega
 rcases hq with rfl | rfl
 ·rw [Nat.mul_zero] at e;omega
 ·rw [Nat.mul_one] at e;omega
end Go.Proofs.YtinbgjcooolbiaaGreatDoor
namespace Go.Proofs.YtinbgjcooolbiaaGreatDoor
structure DigIn (wl vs:List Nat) (n:Nat):Prop where
 n2:2≤n
 wlen:wl.length=n+1
 vlen:vs.length=n
 ws:Small wl
 vsm:Small vs
 top:9223372036854775808≤nth vs (n-1)
 lt:val wl<val vs*18446744073709551616
def Qa (wl:List Nat) (n:Nat):Nat:=(nth wl n*18446744073709551616+nth wl (n-1))*18446744073709551616+nth wl (n-2)
def L9 (vs:List Nat) (n:Nat):Nat:=nth vs (n-1)*18446744073709551616+nth vs (n-2)
theorem DigIn.U {wl vs:List Nat}{n:Nat}(h:DigIn wl vs n):val wl=Qa wl n*18446744073709551616^(n-2)+val (wl.take (n-2)):=by
 have h2:=h.n2;have e:=List.take_of_length_le (Nat.le_of_eq h.wlen);have a:=Bf wl n (by rw [h.wlen];omega);have b:=Bf wl (n-1) (by rw [h.wlen];omega);have c:=Bf wl (n-2) (by rw [h.wlen];omega);rw [show n-1+1=n by omega] at b;rw [show n-2+1=n-1 by omega] at c;rw [e] at a;rw [a,b,c];have p1:18446744073709551616^n=18446744073709551616^(n-2)*18446744073709551616*18446744073709551616:=by
  rw [Nat.mul_assoc,←Nat.pow_two,←Nat.pow_add];congr 1;omega
 have p2:18446744073709551616^(n-1)=18446744073709551616^(n-2)*18446744073709551616:=by
  rw [←Nat.pow_succ];congr 1;omega
 rw [p1,p2];unfold Qa;generalize 18446744073709551616^(n-2)=P;generalize nth wl n=x;generalize nth wl (n-1)=y;generalize nth wl (n-2)=z;have e1:P*18446744073709551616*18446744073709551616*x=x*18446744073709551616*18446744073709551616*P:=by
  rw [Nat.mul_comm _ x,←Nat.mul_assoc,←Nat.mul_assoc,Nat.mul_right_comm x P,Nat.mul_right_comm (x*18446744073709551616) P]
 have e2:P*18446744073709551616*y=y*18446744073709551616*P:=by
  rw [Nat.mul_comm _ y,←Nat.mul_assoc,Nat.mul_right_comm y P]
 rw [e1,e2,Nat.mul_comm P z,Nat.add_mul,Nat.add_mul,Nat.add_mul];omega
theorem DigIn.V {wl vs:List Nat}{n:Nat}(h:DigIn wl vs n):val vs=L9 vs n*18446744073709551616^(n-2)+val (vs.take (n-2)):=by
 have h2:=h.n2;have e:=List.take_of_length_le (Nat.le_of_eq h.vlen);have b:=Bf vs (n-1) (by rw [h.vlen];omega);have c:=Bf vs (n-2) (by rw [h.vlen];omega);rw [show n-1+1=n by omega,e] at b;rw [show n-2+1=n-1 by omega] at c;rw [b,c];have p2:18446744073709551616^(n-1)=18446744073709551616^(n-2)*18446744073709551616:=by
  rw [←Nat.pow_succ];congr 1;omega
 rw [p2];unfold L9;generalize 18446744073709551616^(n-2)=P;generalize nth vs (n-1)=y;generalize nth vs (n-2)=z;have e2:P*18446744073709551616*y=y*18446744073709551616*P:=by
  rw [Nat.mul_comm _ y,←Nat.mul_assoc,Nat.mul_right_comm y P]
 rw [e2,Nat.mul_comm P z,Nat.add_mul];omega
theorem DigIn.ulow {wl vs:List Nat}{n:Nat}(h:DigIn wl vs n):val (wl.take (n-2))<18446744073709551616^(n-2):=by
 have:=val_lt _ (small_take h.ws (n-2));rwa [List.length_take,Nat.min_eq_left (by rw [h.wlen];omega)] at this
theorem DigIn.vlow {wl vs:List Nat}{n:Nat}(h:DigIn wl vs n):val (vs.take (n-2))<18446744073709551616^(n-2):=by
 have:=val_lt _ (small_take h.vsm (n-2));rwa [List.length_take,Nat.min_eq_left (by rw [h.vlen];omega)] at this
theorem DigIn.v2pos {wl vs:List Nat}{n:Nat}(h:DigIn wl vs n):18446744073709551616≤L9 vs n:=by
 have:=h.top;unfold L9;omega
theorem DigIn.vpos {wl vs:List Nat}{n:Nat}(h:DigIn wl vs n):0<val vs:=by
 have a:=h.V;have b:=Nat.mul_pos (show 0<L9 vs n by have:=h.v2pos;omega) (Nat.pow_pos (n:=n-2) (show 0<18446744073709551616 by decide));omega
theorem Y6 (M N A Q T P v':Nat)(h1:M≤N)(h2:M=A+Q*18446744073709551616)(h3:T+P≤Q)(h4:v'<P)(h5:N<A+T*18446744073709551616+v'*18446744073709551616):False:=by omega
theorem DigIn.tops {wl vs:List Nat}{n:Nat}(h:DigIn wl vs n):nth wl n≤nth vs (n-1):=by
 have a:=h.U;have b:=h.V;have c:=h.lt;have d:=h.vlow;have v2:=nth_lt h.vsm (n-2);rw [a,b] at c;unfold Qa L9 at c;generalize 18446744073709551616^(n-2)=P at *;generalize val (wl.take (n-2))=u' at *;generalize val (vs.take (n-2))=v' at *;generalize nth wl n=x at *;generalize nth wl (n-1)=y at *;generalize nth wl (n-2)=z at *;generalize nth vs (n-1)=s at *;generalize nth vs (n-2)=t at *;by_cases hle:x≤s
 ·exact hle
 ·exfalso;have e1:((s+1)*18446744073709551616*18446744073709551616)*P≤((x*18446744073709551616+y)*18446744073709551616+z)*P:=Nat.mul_le_mul_right _ (by omega);have e2:(t+1)*P≤18446744073709551616*P:=Nat.mul_le_mul_right _ v2;have e3:((s*18446744073709551616+t)*P+v')*18446744073709551616=s*18446744073709551616*18446744073709551616*P+t*P*18446744073709551616+v'*18446744073709551616:=by
   rw [Nat.add_mul,Nat.add_mul (s*18446744073709551616),Nat.add_mul,Nat.mul_right_comm (s*18446744073709551616) P]
  have e4:(s+1)*18446744073709551616*18446744073709551616*P=s*18446744073709551616*18446744073709551616*P+18446744073709551616*P*18446744073709551616:=by
   rw [Nat.add_mul,Nat.add_mul,Nat.add_mul,Nat.one_mul,Nat.mul_right_comm 18446744073709551616 18446744073709551616 P]
  rw [Nat.add_mul,Nat.one_mul] at e2;rw [e3] at c;exact Y6 _ _ _ _ _ _ _ e1 e4 e2 d (Nat.lt_of_le_of_lt (Nat.le_add_right _ _) c)
theorem DigIn.qlt {wl vs:List Nat}{n:Nat}(h:DigIn wl vs n):val wl/val vs<18446744073709551616:=by
 rw [Nat.div_lt_iff_lt_mul h.vpos,Nat.mul_comm];exact h.lt
structure DigInv (wl vs:List Nat) (n x r:Nat):Prop where
 g:S8 (Qa wl n) (L9 vs n) (nth vs (n-1)) (nth vs (n-2)) (nth wl (n-2)) x r
 ge:val wl/val vs≤x
 lt:x<18446744073709551616
theorem Vi (T s z:Nat):T*18446744073709551616+z=T/s*(s*18446744073709551616)+T%s*18446744073709551616+z:=by
 rw [←Nat.mul_assoc,←Nat.add_mul,Nat.mul_comm (T/s),Nat.div_add_mod]
theorem DigIn.start_lt {wl vs:List Nat}{n:Nat}(h:DigIn wl vs n)(hlt:nth wl n<nth vs (n-1)) :
 DigInv wl vs n ((nth wl n*18446744073709551616+nth wl (n-1))/nth vs (n-1)) ((nth wl n*18446744073709551616+nth wl (n-1))%nth vs (n-1)):=by
 have ht:=h.top;refine ⟨⟨?_,rfl⟩,?_,Jt _ _ _ hlt (nth_lt h.ws _)⟩
 ·exact Vi _ _ _
 ·have:=Qk (nth wl n*18446744073709551616+nth wl (n-1)) (nth wl (n-2)) (nth vs (n-1)) (nth vs (n-2)) (18446744073709551616^(n-2)) (val (wl.take (n-2))) (val (vs.take (n-2))) (nth_lt h.ws _) h.ulow (by omega);rw [h.U,h.V];exact this
theorem DigIn.start_eq {wl vs:List Nat}{n:Nat}(h:DigIn wl vs n)(he:¬nth wl n<nth vs (n-1)) :
 DigInv wl vs n 18446744073709551615 (nth wl (n-1)+nth vs (n-1)):=by
 have ht:=h.tops;have e:nth wl n=nth vs (n-1):=by omega
 refine ⟨⟨?_,rfl⟩,?_,by decide⟩
 ·unfold Qa;rw [e];omega
 ·exact Nat.le_of_lt_succ h.qlt
theorem DigInv.less {wl vs:List Nat}{n x r:Nat}(h:DigInv wl vs n x r)(hi:DigIn wl vs n)(hc:r*18446744073709551616+nth wl (n-2)<x*nth vs (n-2)):1≤x∧DigInv wl vs n (x-1) (r+nth vs (n-1)):=by
 have hx:1≤x:=by
  by_cases e:x=0
  ·subst e;omega
  ·omega
 obtain ⟨a,b⟩:=Sg h.g hc;have v2:=hi.v2pos;refine ⟨hx,b,?_,by have:=h.lt;omega⟩;rw [hi.U,hi.V];exact Sf _ _ _ _ _ _ hi.ulow a (by omega)
theorem DigInv.done {wl vs:List Nat}{n x r:Nat}(h:DigInv wl vs n x r)(hi:DigIn wl vs n)(hc:x*nth vs (n-2)≤r*18446744073709551616+nth wl (n-2)∨18446744073709551616≤r):x=val wl/val vs∨x=val wl/val vs+1:=by
 have a:=Sh h.g h.lt (nth_lt hi.vsm _) hc;have b:=h.ge;rw [hi.U,hi.V] at b ⊢;exact Un _ _ _ _ _ _ hi.ulow hi.vlow h.lt a hi.v2pos b
theorem Aaa (p r u:Nat)(hu:u<18446744073709551616):p≤r*18446744073709551616+u↔(p/18446744073709551616<r∨p/18446744073709551616=r∧p%18446744073709551616≤u):=by
 omega
end Go.Proofs.YtinbgjcooolbiaaGreatDoor
namespace Go.Proofs.YtinbgjcooolbiaaGreatDoor
structure LongInv (N V:Nat) (n:Nat) (us qs:List Nat) (k:Nat):Prop where
 us_small:Small us
 qs_small:Small qs
 lens:us.length=qs.length+n
 low:val (us.drop k)<V
 sum:val qs*V+val us=N
 zero:∀ i,i<k→nth qs i=0
theorem LongInv.window {N V n:Nat}{us qs vs:List Nat}{j:Nat}(h:LongInv N V n us qs (j+1))(hj:j<qs.length)(hn:2≤n)(hV:V=val vs)(hvl:vs.length=n)(hvs:Small vs)(ht:9223372036854775808≤nth vs (n-1)) :
 DigIn ((us.drop j).take (n+1)) vs n∧val (us.drop (j+(n+1)))=0:=by
 have hl:=h.lens;have e:us.drop j=nth us j::us.drop (j+1):=Qd us j (by omega);have hlow:=h.low;have hx:=nth_lt h.us_small j;have hd:val (us.drop j)<V*18446744073709551616:=by
  rw [e,val];omega
 have hvlt:=val_lt vs hvs;rw [hvl,←hV] at hvlt;have sm:Small (us.drop j):=Gi h.us_small j;have ap:=val_append ((us.drop j).take (n+1)) ((us.drop j).drop (n+1));rw [List.take_append_drop,List.length_take,List.length_drop,Nat.min_eq_left (by omega),List.drop_drop] at ap;have hp:18446744073709551616^(n+1)=18446744073709551616^n*18446744073709551616:=Nat.pow_succ ..;have hz:val (us.drop (j+(n+1)))=0:=by
  by_cases hz:val (us.drop (j+(n+1)))=0
  ·exact hz
  ·exfalso;have:18446744073709551616^(n+1)*1≤18446744073709551616^(n+1)*val (us.drop (j+(n+1))):=Nat.mul_le_mul_left _ (by omega);rw [hp] at this ap;generalize 18446744073709551616^n=P at *;generalize P*18446744073709551616*val (us.drop (j+(n+1)))=T at *;omega
 refine ⟨⟨hn,?_,hvl,small_take sm _,hvs,ht,?_⟩,hz⟩
 ·rw [List.length_take,List.length_drop];omega
 ·rw [←hV];rw [hz,Nat.mul_zero,Nat.add_zero] at ap;rw [←ap];exact hd
theorem Lf (us:List Nat)(j m:Nat):us=us.take j++((us.drop j).take m++us.drop (j+m)):=by
 rw [←List.drop_drop,List.take_append_drop,List.take_append_drop]
theorem LongInv.next {N V n:Nat}{us qs vs wl':List Nat}{j:Nat}(h:LongInv N V n us qs (j+1))(hj:j<qs.length)(hV:V=val vs)(hz:val (us.drop (j+(n+1)))=0)
 (hq:val ((us.drop j).take (n+1))/val vs<18446744073709551616) (hV0:0<val vs) (hl':wl'.length=((us.drop j).take (n+1)).length) (hs':Small wl') (hv':val wl'=val ((us.drop j).take (n+1))%val vs) :
 LongInv N V n (us.take j++(wl'++us.drop (j+(n+1)))) (qs.set j (val ((us.drop j).take (n+1))/val vs)) j:=by
 have hl:=h.lens;have ht:(us.take j).length=j:=by rw [List.length_take];omega
 have e:=Lf us j (n+1);have lw:((us.drop j).take (n+1)).length=n+1:=by rw [List.length_take,List.length_drop];omega
 refine ⟨?_,Bt h.qs_small _ _ hq,?_,?_,?_,?_⟩
 ·intro x hx;rcases List.mem_append.1 hx with hx | hx
  ·exact small_take h.us_small j x hx
  ·rcases List.mem_append.1 hx with hx | hx
   ·exact hs' x hx
   ·exact Gi h.us_small _ x hx
 ·rw [List.length_set,List.length_append,List.length_append,hl',lw,List.length_drop,ht];omega
 ·rw [List.drop_append_of_le_length (by omega),List.drop_of_length_le (by omega),List.nil_append,val_append,hz,Nat.mul_zero,Nat.add_zero,hv',hV];exact Nat.mod_lt _ hV0
 ·have v:=val_set qs j (val ((us.drop j).take (n+1))/val vs) hj;rw [h.zero j (by omega),Nat.mul_zero,Nat.add_zero] at v;have s:=h.sum;have u1:val us=val (us.take j)+18446744073709551616^j*(val ((us.drop j).take (n+1))+18446744073709551616^(n+1)*val (us.drop (j+(n+1)))):=by
   conv=>lhs;rw [e]
   rw [val_append,val_append,ht,lw]
  have u2:val (us.take j++(wl'++us.drop (j+(n+1))))=val (us.take j)+18446744073709551616^j*(val wl'+18446744073709551616^(n+1)*val (us.drop (j+(n+1)))):=by
   rw [val_append,val_append,ht,hl',lw]
  rw [hz,Nat.mul_zero,Nat.add_zero (val ((us.drop j).take (n+1)))] at u1;rw [hz,Nat.mul_zero,Nat.add_zero (val wl')] at u2;rw [v,u2,hv',Nat.add_mul,hV];rw [u1,hV] at s;have dm:=Nat.div_add_mod (val ((us.drop j).take (n+1))) (val vs);generalize val ((us.drop j).take (n+1))/val vs=q at *;generalize val ((us.drop j).take (n+1))%val vs=r at *;generalize val ((us.drop j).take (n+1))=W at *;generalize 18446744073709551616^j=P at *;have e3:P*q*val vs+P*r=P*W:=by rw [Nat.mul_assoc,←Nat.mul_add,Nat.mul_comm q,dm]
  omega
 ·intro i hi;rw [nth_set _ _ _ _ hj,if_neg (by omega)];exact h.zero i (by omega)
theorem LongInv.finish {N V n:Nat}{us qs:List Nat}(h:LongInv N V n us qs 0):val qs=N/V∧val us=N%V:=by
 have a:=h.low;have b:=h.sum;rw [List.drop_zero] at a;have hV:0<V:=by omega
 rw [←b,Nat.add_comm];exact ⟨by rw [Nat.add_mul_div_right _ _ hV,Nat.div_eq_of_lt a,Nat.zero_add],by rw [Nat.add_mul_mod_self_right,Nat.mod_eq_of_lt a]⟩
theorem Vl (us:List Nat)(h:Small us)(n:Nat)(hn:n≤us.length)(hV:val us<18446744073709551616^n):val (us.take n)=val us:=by
 have e:=val_append (us.take n) (us.drop n);rw [List.take_append_drop,List.length_take,Nat.min_eq_left hn] at e;have:val (us.drop n)=0:=by
  rw [Hh us h n,Nat.div_eq_of_lt hV]
 rw [this,Nat.mul_zero,Nat.add_zero] at e;exact e.symm
theorem Ug (n:Nat)(k:Nat):val (limbs n++List.replicate k 0)=n:=by
 rw [val_append,Eq,Nat.mul_zero,Nat.add_zero,val_limbs]
theorem Oc (n k:Nat):Small (limbs n++List.replicate k 0):=by
 intro x hx;rcases List.mem_append.1 hx with hx | hx
 ·exact Cf n x hx
 ·exact Cy k x hx
theorem Cd (n k:Nat)(h:n<18446744073709551616^k):(limbs n).length≤k:=by
 by_cases h0:n=0
 ·subst h0;rw [limbs_zero];exact Nat.zero_le _
 ·have a:=Dp n h0;by_cases hk:(limbs n).length≤k
  ·exact hk
  ·have:18446744073709551616^k≤18446744073709551616^((limbs n).length-1):=Nat.pow_le_pow_right (by decide) (by omega);omega
theorem Lh (n k:Nat)(h:18446744073709551616^k≤n):k<(limbs n).length:=by
 have a:=lt_pow_length n;by_cases hk:k<(limbs n).length
 ·exact hk
 ·have:18446744073709551616^(limbs n).length≤18446744073709551616^k:=Nat.pow_le_pow_right (by decide) (by omega);omega
theorem Pa (m:Nat)(h:m≠0):m*2^(64-bl (nth (limbs m) ((limbs m).length-1)))<18446744073709551616^(limbs m).length ∧
 18446744073709551616^((limbs m).length-1)*9223372036854775808≤m*2^(64-bl (nth (limbs m) ((limbs m).length-1))):=by
 have ht:=L4 m h;have hp:=length_limbs_pos m h;have hb:=Jz _ (nth_lt (Cf m) ((limbs m).length-1));have hb0:=Gc _ (Gf m h);have a:=Cz m h;have b:=Bi m;rw [ht] at a b;generalize bl (nth (limbs m) ((limbs m).length-1))=t at *;generalize (limbs m).length=l at *;obtain ⟨i,rfl⟩:∃ i,l=i+1:=⟨l-1,by omega⟩;rw [Nat.add_sub_cancel] at *;have p:∀ q,(18446744073709551616:Nat)^q=2^(64*q):=fun q=>by rw [Nat.pow_mul]
 constructor
 ·have:=Nat.mul_lt_mul_of_pos_right b (Nat.pow_pos (n:=64-t) (show 0<2 by decide));rw [←Nat.pow_add,show 64*i+t+(64-t)=64*(i+1) by omega,←p] at this;exact this
 ·have:=Nat.mul_le_mul_right (2^(64-t)) a;rw [←Nat.pow_add,show 64*i+t-1+(64-t)=64*i+63 by omega,Nat.pow_add,←p] at this;exact this
theorem Y5 (vs:List Nat)(h:Small vs)(n:Nat)(hn:vs.length=n)(h0:0<n)(hv:18446744073709551616^(n-1)*9223372036854775808≤val vs):9223372036854775808≤nth vs (n-1):=by
 have e:=Bf vs (n-1) (by omega);rw [show n-1+1=n by omega,List.take_of_length_le (by omega)] at e;have b:=val_lt _ (small_take h (n-1));rw [List.length_take,Nat.min_eq_left (by omega)] at b;generalize 18446744073709551616^(n-1)=P at *;have:P*9223372036854775808<P*(nth vs (n-1)+1):=by rw [Nat.mul_add];omega
 have:=Nat.lt_of_mul_lt_mul_left this;omega
theorem LongInv.start (n m s:Nat)(us vs:List Nat)(l d:Nat)(hs:Small us)(hl:us.length=l+2+d+1)(hv:val us=n*2^s)(hm:m≠0)(hml:(limbs m).length=l+2)(hn:(limbs n).length=l+2+d)(hV:val vs=m*2^s) :
 LongInv (n*2^s) (val vs) (l+2) us (List.replicate (d+1) 0) (d+1):=by
 refine ⟨hs,Cy _,by rw [hl,List.length_replicate];omega,?_,by rw [Eq,Nat.zero_mul,Nat.zero_add,hv],fun i _=>Dn _ i⟩;rw [Hh us hs,hv,hV,Nat.div_lt_iff_lt_mul (Nat.pow_pos (by decide))];have a:=lt_pow_length n;have b:=Dp m hm;rw [hn] at a;rw [hml,show l+2-1=l+1 by omega] at b;have c:18446744073709551616^(l+2+d)=18446744073709551616^(l+1)*18446744073709551616^(d+1):=by rw [←Nat.pow_add];congr 1;omega
 rw [c] at a;have e:=Nat.mul_lt_mul_of_pos_right a (Nat.pow_pos (n:=s) (show 0<2 by decide));refine Nat.lt_of_lt_of_le e ?_;rw [Nat.mul_right_comm];exact Nat.mul_le_mul_right _ (Nat.mul_le_mul_right _ b)
end Go.Proofs.YtinbgjcooolbiaaGreatDoor
