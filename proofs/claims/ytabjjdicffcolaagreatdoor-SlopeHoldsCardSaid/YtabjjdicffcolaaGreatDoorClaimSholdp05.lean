/- Words and contracts, part 5. -/
import Derived.Test.YtabjjdicffcolaaGreatDoorClaimSholdp02
set_option maxRecDepth 100000
set_option maxHeartbeats 0
namespace Go.Proofs.YtabjjdicffcolaaGreatDoor
def shS (xs:List Nat) (b:Nat):Nat→List Nat × Nat
 | 0=>(List.replicate xs.length 0,0)
 | d + 1 => let s := shS xs b d
   (s.1.set (xs.length-1-d) ((s.2*18446744073709551616+nth xs (xs.length-1-d))/b),(s.2*18446744073709551616+nth xs (xs.length-1-d))%b)
theorem K6 (xs:List Nat)(b d:Nat):shS xs b (d+1)=((shS xs b d).1.set (xs.length-1-d) (((shS xs b d).2*18446744073709551616+nth xs (xs.length-1-d))/b),((shS xs b d).2*18446744073709551616+nth xs (xs.length-1-d))%b):=rfl
theorem El (xs:List Nat)(b:Nat):∀ d,(shS xs b d).1.length=xs.length
 | 0=>by simp [shS]
 | d+1=>by rw [K6,List.length_set,El xs b d]
theorem Tm (xs:List Nat)(b:Nat)(hb:0<b):∀ d,(shS xs b d).2<b
 | 0=>by simpa [shS] using hb
 | d+1=>by rw [K6];exact Nat.mod_lt _ hb
theorem Ow (r x b:Nat)(hr:r<b)(hx:x<18446744073709551616):(r*18446744073709551616+x)/b<18446744073709551616:=by
 rw [Nat.div_lt_iff_lt_mul (by omega)];omega
theorem K5 (xs:List Nat)(h:Small xs)(b:Nat)(hb:0<b):∀ d,Small (shS xs b d).1
 | 0=>Eg _
 | d + 1 => by
   rw [K6];exact Dv (K5 xs h b hb d) _ _ (Ow _ _ _ (Tm xs b hb d) (nth_lt h _))
theorem Acu (xs:List Nat)(b:Nat):∀ d i,d≤xs.length→i<xs.length-d→nth (shS xs b d).1 i=0
 | 0,i,_,_=>Fe _ i
 | d + 1, i, hd, hi => by
   rw [K6]
   show nth ((shS xs b d).1.set _ _) i=0
   rw [Jg _ _ _ _ (by rw [El];omega),if_neg (by omega)];exact Acu xs b d i (by omega) (by omega)
theorem Pt (xs:List Nat)(h:Small xs)(b:Nat):∀ d,d≤xs.length→val (shS xs b d).1*b+18446744073709551616^(xs.length-d)*(shS xs b d).2+val (xs.take (xs.length-d))=val xs
 | 0, _ => by
   rw [shS,Nat.sub_zero,List.take_of_length_le (Nat.le_refl _)];simp [Gm]
 | d + 1, hd => by
   have ih:=Pt xs h b d (by omega);have hz:=Acu xs b d (xs.length-1-d) (by omega) (by omega);have hl:=El xs b d;rw [K6];generalize shS xs b d=s at *;obtain ⟨o,r⟩:=s;simp only at *;have e:xs.length-d=(xs.length-1-d)+1:=by omega
   have e':xs.length-(d+1)=xs.length-1-d:=by omega
   rw [e,Nat.pow_succ,Br xs _ (by omega)] at ih;rw [e'];generalize xs.length-1-d=i at *;have v:=Gu o i ((r*18446744073709551616+nth xs i)/b) (by omega);rw [hz,Nat.mul_zero,Nat.add_zero] at v;rw [v,Nat.add_mul];have a:=Nat.div_add_mod (r*18446744073709551616+nth xs i) b;generalize (r*18446744073709551616+nth xs i)/b=q at *;generalize (r*18446744073709551616+nth xs i)%b=t at *;generalize 18446744073709551616^i=p at *;have e2:p*q*b+p*t=p*18446744073709551616*r+p*nth xs i:=by
    rw [Nat.mul_assoc,←Nat.mul_add,Nat.mul_comm q,a,Nat.mul_add,Nat.mul_comm r,Nat.mul_assoc]
   omega
theorem Ajx (xs:List Nat)(h:Small xs)(b:Nat)(hb:0<b):val (shS xs b xs.length).1=val xs/b∧(shS xs b xs.length).2=val xs%b:=by
 have a:=Pt xs h b xs.length (Nat.le_refl _);have r:=Tm xs b hb xs.length;rw [Nat.sub_self,Nat.pow_zero,Nat.one_mul,List.take_zero,val,Nat.add_zero] at a;rw [←a];constructor
 ·rw [Nat.add_comm,Nat.add_mul_div_right _ _ hb,Nat.div_eq_of_lt r,Nat.zero_add]
 ·rw [Nat.add_comm,Nat.add_mul_mod_self_right,Nat.mod_eq_of_lt r]
structure Abl (U3 V2 v1 v2 u2 x r:Nat):Prop where
 sum:U3=x*(v1*18446744073709551616)+r*18446744073709551616+u2
 two:V2=v1*18446744073709551616+v2
theorem Aar {U3 V2 v1 v2 u2 x r:Nat}(h:Abl U3 V2 v1 v2 u2 x r)(hx:x<18446744073709551616)(h2:v2<18446744073709551616)(hc:x*v2≤r*18446744073709551616+u2∨18446744073709551616≤r):x*V2≤U3:=by
 rw [h.sum,h.two,Nat.mul_add];have:x*v2≤18446744073709551616*18446744073709551616:=Nat.mul_le_mul (by omega) (by omega);rcases hc with hc | hc
 ·omega
 ·omega
theorem Aaq {U3 V2 v1 v2 u2 x r:Nat}(h:Abl U3 V2 v1 v2 u2 x r)(hc:r*18446744073709551616+u2<x*v2):U3<x*V2∧Abl U3 V2 v1 v2 u2 (x-1) (r+v1):=by
 have hx:1≤x:=by
  by_cases e:x=0
  ·subst e;omega
  ·omega
 obtain ⟨k,rfl⟩:∃ k,x=k+1:=⟨x-1,by omega⟩;refine ⟨?_,⟨?_,h.two⟩⟩
 ·rw [h.sum,h.two,Nat.mul_add];omega
 ·rw [Nat.add_sub_cancel,h.sum,Nat.add_mul,Nat.add_mul];omega
theorem Adh (U3 V2 P u' v' x:Nat)(_hu:u'<P)(hv:v'<P)(hx:x<18446744073709551616)(h1:x*V2≤U3)(hV:18446744073709551616≤V2)(hq:(U3*P+u')/(V2*P+v')≤x):x=(U3*P+u')/(V2*P+v')∨x=(U3*P+u')/(V2*P+v')+1:=by
 have hp:0<P:=by omega
 have hV0:0<V2*P+v':=by
  have:18446744073709551616*P≤V2*P:=Nat.mul_le_mul_right _ hV;omega
 have a:(x-1)≤(U3*P+u')/(V2*P+v'):=by
  rw [Nat.le_div_iff_mul_le hV0];by_cases e:x=0
  ·subst e;simp
  ·obtain ⟨k,rfl⟩:∃ k,x=k+1:=⟨x-1,by omega⟩;rw [Nat.add_sub_cancel,Nat.mul_add];have b:(k+1)*V2*P≤U3*P:=Nat.mul_le_mul_right _ h1;rw [Nat.add_mul,Nat.add_mul,Nat.one_mul] at b;have c:18446744073709551616*P≤V2*P:=Nat.mul_le_mul_right _ hV;have d:k*v'≤18446744073709551616*P:=Nat.mul_le_mul (by omega) (by omega);have e:k*(V2*P)=k*V2*P:=(Nat.mul_assoc _ _ _).symm;omega
 generalize (U3*P+u')/(V2*P+v')=q at *;omega
theorem Aap (U3 V2 P u' v' x:Nat)(hu:u'<P)(h:U3<x*V2)(hV:0<V2):(U3*P+u')/(V2*P+v')≤x-1:=by
 have hp:0<P:=by omega
 have hV0:0<V2*P+v':=by
  have:=Nat.mul_pos hV hp;omega
 have:(U3*P+u')/(V2*P+v')<x:=by
  rw [Nat.div_lt_iff_lt_mul hV0,Nat.mul_add];have a:(U3+1)*P≤x*V2*P:=Nat.mul_le_mul_right _ h;rw [Nat.add_mul,Nat.mul_assoc] at a;omega
 exact Nat.le_sub_one_of_lt this
theorem Xy (U2 u2 v1 v2 P u' v':Nat)(hu2:u2<18446744073709551616)(hu:u'<P)(hv1:0<v1) :
 ((U2*18446744073709551616+u2)*P+u')/((v1*18446744073709551616+v2)*P+v')≤U2/v1:=by
 have hp:0<P:=by omega
 have c0:=Nat.div_mul_le_self ((U2*18446744073709551616+u2)*P+u') ((v1*18446744073709551616+v2)*P+v');generalize ((U2*18446744073709551616+u2)*P+u')/((v1*18446744073709551616+v2)*P+v')=a at *;rw [Nat.le_div_iff_mul_le hv1];have c1:a*v1*(18446744073709551616*P)<(U2+1)*(18446744073709551616*P):=by
  have e1:a*((v1*18446744073709551616+v2)*P+v')=a*v1*(18446744073709551616*P)+a*(v2*P)+a*v':=by
   rw [Nat.mul_add,Nat.add_mul,Nat.mul_add,Nat.mul_assoc v1,←Nat.mul_assoc a v1]
  have e2:(U2*18446744073709551616+u2)*P=U2*(18446744073709551616*P)+u2*P:=by rw [Nat.add_mul,Nat.mul_assoc]
  have e3:(u2+1)*P≤18446744073709551616*P:=Nat.mul_le_mul_right _ hu2;rw [e1,e2] at c0;rw [Nat.add_mul U2,Nat.one_mul];rw [Nat.add_mul] at e3;generalize 18446744073709551616*P=Q at *;omega
 have:=Nat.lt_of_mul_lt_mul_right c1;omega
def msS (wl:List Nat) (x:Nat) (vs:List Nat):Nat→List Nat × Nat × Nat
 | 0=>(wl,0,0)
 | k + 1 => let s := msS wl x vs k
   (s.1.set k ((nth s.1 k+18446744073709551616-(x*nth vs k+s.2.1)%18446744073709551616-s.2.2)%18446744073709551616),(x*nth vs k+s.2.1)/18446744073709551616,
     if nth s.1 k<(x*nth vs k+s.2.1)%18446744073709551616+s.2.2 then 1 else 0)
theorem Kw (wl:List Nat)(x:Nat)(vs:List Nat)(k:Nat):msS wl x vs (k+1)=((msS wl x vs k).1.set k ((nth (msS wl x vs k).1 k+18446744073709551616-(x*nth vs k+(msS wl x vs k).2.1)%18446744073709551616-(msS wl x vs k).2.2)%18446744073709551616),(x*nth vs k+(msS wl x vs k).2.1)/18446744073709551616,
 if nth (msS wl x vs k).1 k<(x*nth vs k+(msS wl x vs k).2.1)%18446744073709551616+(msS wl x vs k).2.2 then 1 else 0):=rfl
theorem Hu (wl:List Nat)(x:Nat)(vs:List Nat):∀ k,(msS wl x vs k).1.length=wl.length
 | 0=>rfl
 | k+1=>by rw [Kw,List.length_set,Hu wl x vs k]
theorem Jj (wl:List Nat)(x:Nat)(vs:List Nat)(h:Small wl):∀ k,Small (msS wl x vs k).1
 | 0=>h
 | k+1=>by rw [Kw];exact Dv (Jj wl x vs h k) _ _ (Nat.mod_lt _ (by decide))
theorem Uz (wl:List Nat)(x:Nat)(vs:List Nat)(hx:x<18446744073709551616)(h':Small vs):∀ k,(msS wl x vs k).2.1<18446744073709551616
 | 0=>by simp [msS]
 | k + 1 => by
   rw [Kw];have:=Nn x (nth vs k) (msS wl x vs k).2.1 0 hx (nth_lt h' k) (Uz wl x vs hx h' k) (by decide);rwa [Nat.add_zero] at this
theorem Ly (wl:List Nat)(x:Nat)(vs:List Nat):∀ k,(msS wl x vs k).2.2≤1
 | 0=>by simp [msS]
 | k + 1 => by
   rw [Kw]
   show (if _ then 1 else 0)≤1
   split<;>omega
theorem Tu (p x y c:Nat)(hx:x<18446744073709551616)(hy:y<18446744073709551616)(hc:c≤1) :
 p*((x+18446744073709551616-y-c)%18446744073709551616)+p*y+p*c=p*x+p*18446744073709551616*(if x<y+c then 1 else 0):=by
 by_cases hlt:x<y+c
 ·rw [if_pos hlt,Nat.mod_eq_of_lt (by omega),Nat.mul_one,←Nat.mul_add,←Nat.mul_add,←Nat.mul_add]
  congr 1;omega
 ·have e0:(x+18446744073709551616-y-c)%18446744073709551616=x-y-c:=by omega
  rw [if_neg hlt,e0,Nat.mul_zero,Nat.add_zero,←Nat.mul_add,←Nat.mul_add]
  congr 1;omega
theorem Wi (wl:List Nat)(x:Nat)(vs:List Nat)(h:Small wl):∀ k,k≤wl.length →
 val (msS wl x vs k).1+x*val (vs.take k)=val wl+18446744073709551616^k*((msS wl x vs k).2.1+(msS wl x vs k).2.2)
 | 0,_=>by simp [msS,val]
 | k + 1, hk => by
   have ih:=Wi wl x vs h k (by omega);have hl:=Hu wl x vs k;have hu:=nth_lt (Jj wl x vs h k) k;have hb:=Ly wl x vs k;rw [Kw,Hm,Nat.pow_succ];generalize msS wl x vs k=s at *;obtain ⟨o,c,b⟩:=s;simp only at *;generalize hT:x*nth vs k+c=T;have v:=Gu o k ((nth o k+18446744073709551616-T%18446744073709551616-b)%18446744073709551616) (by omega);have sl:=Tu (18446744073709551616^k) (nth o k) (T%18446744073709551616) b hu (Nat.mod_lt _ (by decide)) hb;generalize (if nth o k<T%18446744073709551616+b then 1 else 0)=b' at *;generalize (nth o k+18446744073709551616-T%18446744073709551616-b)%18446744073709551616=z at *
   generalize 18446744073709551616^k=p at *;have e:p*18446744073709551616*(T/18446744073709551616)+p*(T%18446744073709551616)=p*T:=by
    rw [Nat.mul_assoc,←Nat.mul_add,Nat.div_add_mod]
   have e2:p*T=x*(p*nth vs k)+p*c:=by rw [←hT,Nat.mul_add,Nat.mul_left_comm]
   rw [Nat.mul_add x,Nat.mul_add (p*18446744073709551616)];rw [Nat.mul_add] at ih;omega
theorem W7 (wl vs:List Nat)(n:Nat)(hl:wl.length=n+1)(hv:vs.length=n):val (D5 wl vs n).1+18446744073709551616^n*(D5 wl vs n).2=val wl+val vs:=by
 have:=Rw wl vs n (by omega);rwa [List.take_of_length_le (by omega)] at this
theorem Aag (wl vs:List Nat)(x n:Nat)(h:Small wl)(hl:wl.length=n+1)(hv:vs.length=n)(hx:x=val wl/val vs)(hc:(msS wl x vs n).2.1<18446744073709551616) :
 val ((msS wl x vs n).1.set n ((nth (msS wl x vs n).1 n+18446744073709551616-(msS wl x vs n).2.1-(msS wl x vs n).2.2)%18446744073709551616))=val wl%val vs ∧
 (if nth (msS wl x vs n).1 n<(msS wl x vs n).2.1+(msS wl x vs n).2.2 then 1 else 0)=0:=by
 have a:=Wi wl x vs h n (by omega);rw [List.take_of_length_le (by omega)] at a;have b:=Gu (msS wl x vs n).1 n ((nth (msS wl x vs n).1 n+18446744073709551616-(msS wl x vs n).2.1-(msS wl x vs n).2.2)%18446744073709551616) (by rw [Hu];omega);have sm:=Dv (Jj wl x vs h n) n ((nth (msS wl x vs n).1 n+18446744073709551616-(msS wl x vs n).2.1-(msS wl x vs n).2.2)%18446744073709551616) (Nat.mod_lt _ (by decide));have lt:=Ev _ sm;rw [List.length_set,Hu,hl,Nat.pow_succ] at lt;have sl:=Tu (18446744073709551616^n) (nth (msS wl x vs n).1 n) (msS wl x vs n).2.1 (msS wl x vs n).2.2 (nth_lt (Jj wl x vs h n) n) hc (Ly wl x vs n)
 have dm:=Nat.div_add_mod (val wl) (val vs);rw [←hx,Nat.mul_comm] at dm;generalize (nth (msS wl x vs n).1 n+18446744073709551616-(msS wl x vs n).2.1-(msS wl x vs n).2.2)%18446744073709551616=z at *;generalize val ((msS wl x vs n).1.set n z)=V' at *;rw [Nat.mul_add] at a;by_cases hlt:nth (msS wl x vs n).1 n<(msS wl x vs n).2.1+(msS wl x vs n).2.2
 ·rw [if_pos hlt,Nat.mul_one] at sl;exfalso;generalize 18446744073709551616^n=p at *;omega
 ·rw [if_neg hlt,Nat.mul_zero,Nat.add_zero] at sl;refine ⟨?_,if_neg hlt⟩;generalize 18446744073709551616^n=p at *;omega
theorem Aah (wl vs:List Nat)(x n:Nat)(h:Small wl)(hl:wl.length=n+1)(hv:vs.length=n)(hV:0<val vs)(hx:x=val wl/val vs+1)(hc:(msS wl x vs n).2.1<18446744073709551616) :
 val ((msS wl x vs n).1.set n ((nth (msS wl x vs n).1 n+18446744073709551616-(msS wl x vs n).2.1-(msS wl x vs n).2.2)%18446744073709551616))+val vs=val wl%val vs+18446744073709551616^n*18446744073709551616 ∧
 (if nth (msS wl x vs n).1 n<(msS wl x vs n).2.1+(msS wl x vs n).2.2 then 1 else 0)=1:=by
 have a:=Wi wl x vs h n (by omega);rw [List.take_of_length_le (by omega)] at a;have b:=Gu (msS wl x vs n).1 n ((nth (msS wl x vs n).1 n+18446744073709551616-(msS wl x vs n).2.1-(msS wl x vs n).2.2)%18446744073709551616) (by rw [Hu];omega);have sl:=Tu (18446744073709551616^n) (nth (msS wl x vs n).1 n) (msS wl x vs n).2.1 (msS wl x vs n).2.2 (nth_lt (Jj wl x vs h n) n) hc (Ly wl x vs n);have dm:=Nat.div_add_mod (val wl) (val vs);have ml:=Nat.mod_lt (val wl) hV;rw [hx,Nat.add_mul,Nat.one_mul,←hx,Nat.mul_comm (val wl/val vs)] at a;generalize (nth (msS wl x vs n).1 n+18446744073709551616-(msS wl x vs n).2.1-(msS wl x vs n).2.2)%18446744073709551616=z at *
 generalize val ((msS wl x vs n).1.set n z)=V' at *;rw [Nat.mul_add] at a;by_cases hlt:nth (msS wl x vs n).1 n<(msS wl x vs n).2.1+(msS wl x vs n).2.2
 ·rw [if_pos hlt,Nat.mul_one] at sl;refine ⟨?_,if_pos hlt⟩;generalize 18446744073709551616^n=p at *;omega
 ·rw [if_neg hlt,Nat.mul_zero,Nat.add_zero] at sl;exfalso;generalize 18446744073709551616^n=p at *;omega
theorem Aaf (w2 vs:List Nat)(n r:Nat)(h:Small w2)(h':Small vs)(hl:w2.length=n+1)(hv:vs.length=n)(_hr:r<val vs)(he:val w2+val vs=r+18446744073709551616^n*18446744073709551616) :
 val ((D5 w2 vs n).1.set n ((nth (D5 w2 vs n).1 n+(D5 w2 vs n).2)%18446744073709551616))=r:=by
 have a:=W7 w2 vs n hl hv;have b:=Gu (D5 w2 vs n).1 n ((nth (D5 w2 vs n).1 n+(D5 w2 vs n).2)%18446744073709551616) (by rw [Fp];omega);have sm:=Dv (Gv w2 vs h n) n ((nth (D5 w2 vs n).1 n+(D5 w2 vs n).2)%18446744073709551616) (Nat.mod_lt _ (by decide));have lt:=Ev _ sm;have ltv:=Ev vs h';rw [hv] at ltv;rw [List.length_set,Fp,hl,Nat.pow_succ] at lt;generalize hT:nth (D5 w2 vs n).1 n+(D5 w2 vs n).2=T at *;generalize val ((D5 w2 vs n).1.set n (T%18446744073709551616))=V' at *;have e:18446744073709551616^n*T=18446744073709551616^n*18446744073709551616*(T/18446744073709551616)+18446744073709551616^n*(T%18446744073709551616):=by
  rw [Nat.mul_assoc,←Nat.mul_add,Nat.div_add_mod]
 rw [←hT,Nat.mul_add,hT] at e;have ht:T/18446744073709551616≤1:=by
  have:=nth_lt (Gv w2 vs h n) n;have:=Lf w2 vs h h' n;omega
 generalize 18446744073709551616^n=p at *;generalize T/18446744073709551616=q at *;have hq:q=0∨q=1:=by omega
 rcases hq with rfl | rfl
 ·rw [Nat.mul_zero] at e;omega
 ·rw [Nat.mul_one] at e;omega
end Go.Proofs.YtabjjdicffcolaaGreatDoor
namespace Go.Proofs.YtabjjdicffcolaaGreatDoor
variable {vs wl:List Nat} {n r x:Nat}
structure DigIn (wl vs:List Nat) (n:Nat):Prop where
 n2:2≤n
 wlen:wl.length=n+1
 vlen:vs.length=n
 ws:Small wl
 vsm:Small vs
 top:9223372036854775808≤nth vs (n-1)
 lt:val wl<val vs*18446744073709551616
def Xk (wl:List Nat) (n:Nat):Nat:=(nth wl n*18446744073709551616+nth wl (n-1))*18446744073709551616+nth wl (n-2)
def Sb (vs:List Nat) (n:Nat):Nat:=nth vs (n-1)*18446744073709551616+nth vs (n-2)
theorem DigIn.U (h:DigIn wl vs n):val wl=Xk wl n*18446744073709551616^(n-2)+val (wl.take (n-2)):=by
 have h2:=h.n2;have e:=List.take_of_length_le (Nat.le_of_eq h.wlen);have a:=Br wl n (by rw [h.wlen];omega);have b:=Br wl (n-1) (by rw [h.wlen];omega);have c:=Br wl (n-2) (by rw [h.wlen];omega);rw [show n-1+1=n by omega] at b;rw [show n-2+1=n-1 by omega] at c;rw [e] at a;rw [a,b,c];have p1:18446744073709551616^n=18446744073709551616^(n-2)*18446744073709551616*18446744073709551616:=by
  rw [Nat.mul_assoc,←Nat.pow_two,←Nat.pow_add];congr 1;omega
 have p2:18446744073709551616^(n-1)=18446744073709551616^(n-2)*18446744073709551616:=by
  rw [←Nat.pow_succ];congr 1;omega
 rw [p1,p2];unfold Xk;generalize 18446744073709551616^(n-2)=P;generalize nth wl n=x;generalize nth wl (n-1)=y;generalize nth wl (n-2)=z;have e1:P*18446744073709551616*18446744073709551616*x=x*18446744073709551616*18446744073709551616*P:=by
  rw [Nat.mul_comm _ x,←Nat.mul_assoc,←Nat.mul_assoc,Nat.mul_right_comm x P,Nat.mul_right_comm (x*18446744073709551616) P]
 have e2:P*18446744073709551616*y=y*18446744073709551616*P:=by
  rw [Nat.mul_comm _ y,←Nat.mul_assoc,Nat.mul_right_comm y P]
 rw [e1,e2,Nat.mul_comm P z,Nat.add_mul,Nat.add_mul,Nat.add_mul];omega
theorem DigIn.V (h:DigIn wl vs n):val vs=Sb vs n*18446744073709551616^(n-2)+val (vs.take (n-2)):=by
 have h2:=h.n2;have e:=List.take_of_length_le (Nat.le_of_eq h.vlen);have b:=Br vs (n-1) (by rw [h.vlen];omega);have c:=Br vs (n-2) (by rw [h.vlen];omega);rw [show n-1+1=n by omega,e] at b;rw [show n-2+1=n-1 by omega] at c;rw [b,c];have p2:18446744073709551616^(n-1)=18446744073709551616^(n-2)*18446744073709551616:=by
  rw [←Nat.pow_succ];congr 1;omega
 rw [p2];unfold Sb;generalize 18446744073709551616^(n-2)=P;generalize nth vs (n-1)=y;generalize nth vs (n-2)=z;have e2:P*18446744073709551616*y=y*18446744073709551616*P:=by
  rw [Nat.mul_comm _ y,←Nat.mul_assoc,Nat.mul_right_comm y P]
 rw [e2,Nat.mul_comm P z,Nat.add_mul];omega
theorem DigIn.ulow (h:DigIn wl vs n):val (wl.take (n-2))<18446744073709551616^(n-2):=by
 have:=Ev _ (D3 h.ws (n-2));rwa [List.length_take,Nat.min_eq_left (by rw [h.wlen];omega)] at this
theorem DigIn.vlow (h:DigIn wl vs n):val (vs.take (n-2))<18446744073709551616^(n-2):=by
 have:=Ev _ (D3 h.vsm (n-2));rwa [List.length_take,Nat.min_eq_left (by rw [h.vlen];omega)] at this
theorem DigIn.v2pos (h:DigIn wl vs n):18446744073709551616≤Sb vs n:=by
 have:=h.top;unfold Sb;omega
theorem DigIn.vpos (h:DigIn wl vs n):0<val vs:=by
 have a:=h.V;have b:=Nat.mul_pos (show 0<Sb vs n by have:=h.v2pos;omega) (Nat.pow_pos (n:=n-2) (show 0<18446744073709551616 by decide));omega
theorem Ahq (M N A Q T P v':Nat)(h1:M≤N)(h2:M=A+Q*18446744073709551616)(h3:T+P≤Q)(h4:v'<P)(h5:N<A+T*18446744073709551616+v'*18446744073709551616):False:=by omega
theorem DigIn.tops (h:DigIn wl vs n):nth wl n≤nth vs (n-1):=by
 have a:=h.U;have b:=h.V;have c:=h.lt;have d:=h.vlow;have v2:=nth_lt h.vsm (n-2);rw [a,b] at c;unfold Xk Sb at c;generalize 18446744073709551616^(n-2)=P at *;generalize val (wl.take (n-2))=u' at *;generalize val (vs.take (n-2))=v' at *;generalize nth wl n=x at *;generalize nth wl (n-1)=y at *;generalize nth wl (n-2)=z at *;generalize nth vs (n-1)=s at *;generalize nth vs (n-2)=t at *;by_cases hle:x≤s
 ·exact hle
 ·exfalso;have e1:((s+1)*18446744073709551616*18446744073709551616)*P≤((x*18446744073709551616+y)*18446744073709551616+z)*P:=Nat.mul_le_mul_right _ (by omega);have e2:(t+1)*P≤18446744073709551616*P:=Nat.mul_le_mul_right _ v2;have e3:((s*18446744073709551616+t)*P+v')*18446744073709551616=s*18446744073709551616*18446744073709551616*P+t*P*18446744073709551616+v'*18446744073709551616:=by
   rw [Nat.add_mul,Nat.add_mul (s*18446744073709551616),Nat.add_mul,Nat.mul_right_comm (s*18446744073709551616) P]
  have e4:(s+1)*18446744073709551616*18446744073709551616*P=s*18446744073709551616*18446744073709551616*P+18446744073709551616*P*18446744073709551616:=by
   rw [Nat.add_mul,Nat.add_mul,Nat.add_mul,Nat.one_mul,Nat.mul_right_comm 18446744073709551616 18446744073709551616 P]
  rw [Nat.add_mul,Nat.one_mul] at e2;rw [e3] at c;exact Ahq _ _ _ _ _ _ _ e1 e4 e2 d (Nat.lt_of_le_of_lt (Nat.le_add_right _ _) c)
theorem DigIn.qlt (h:DigIn wl vs n):val wl/val vs<18446744073709551616:=by
 rw [Nat.div_lt_iff_lt_mul h.vpos,Nat.mul_comm];exact h.lt
structure DigInv (wl vs:List Nat) (n x r:Nat):Prop where
 g:Abl (Xk wl n) (Sb vs n) (nth vs (n-1)) (nth vs (n-2)) (nth wl (n-2)) x r
 ge:val wl/val vs≤x
 lt:x<18446744073709551616
theorem Aeg (T s z:Nat):T*18446744073709551616+z=T/s*(s*18446744073709551616)+T%s*18446744073709551616+z:=by
 rw [←Nat.mul_assoc,←Nat.add_mul,Nat.mul_comm (T/s),Nat.div_add_mod]
theorem DigIn.start_lt (h:DigIn wl vs n)(hlt:nth wl n<nth vs (n-1)) :
 DigInv wl vs n ((nth wl n*18446744073709551616+nth wl (n-1))/nth vs (n-1)) ((nth wl n*18446744073709551616+nth wl (n-1))%nth vs (n-1)):=by
 have ht:=h.top;refine ⟨⟨?_,rfl⟩,?_,Ow _ _ _ hlt (nth_lt h.ws _)⟩
 ·exact Aeg _ _ _
 ·have:=Xy (nth wl n*18446744073709551616+nth wl (n-1)) (nth wl (n-2)) (nth vs (n-1)) (nth vs (n-2)) (18446744073709551616^(n-2)) (val (wl.take (n-2))) (val (vs.take (n-2))) (nth_lt h.ws _) h.ulow (by omega);rw [h.U,h.V];exact this
theorem DigIn.start_eq (h:DigIn wl vs n)(he:¬nth wl n<nth vs (n-1)) :
 DigInv wl vs n 18446744073709551615 (nth wl (n-1)+nth vs (n-1)):=by
 have ht:=h.tops;have e:nth wl n=nth vs (n-1):=by omega
 refine ⟨⟨?_,rfl⟩,?_,by decide⟩
 ·unfold Xk;rw [e];omega
 ·exact Nat.le_of_lt_succ h.qlt
theorem DigInv.less (h:DigInv wl vs n x r)(hi:DigIn wl vs n)(hc:r*18446744073709551616+nth wl (n-2)<x*nth vs (n-2)):1≤x∧DigInv wl vs n (x-1) (r+nth vs (n-1)):=by
 have hx:1≤x:=by
  by_cases e:x=0
  ·subst e;omega
  ·omega
 obtain ⟨a,b⟩:=Aaq h.g hc;have v2:=hi.v2pos;refine ⟨hx,b,?_,by have:=h.lt;omega⟩;rw [hi.U,hi.V];exact Aap _ _ _ _ _ _ hi.ulow a (by omega)
theorem DigInv.done (h:DigInv wl vs n x r)(hi:DigIn wl vs n)(hc:x*nth vs (n-2)≤r*18446744073709551616+nth wl (n-2)∨18446744073709551616≤r):x=val wl/val vs∨x=val wl/val vs+1:=by
 have a:=Aar h.g h.lt (nth_lt hi.vsm _) hc;have b:=h.ge;rw [hi.U,hi.V] at b ⊢;exact Adh _ _ _ _ _ _ hi.ulow hi.vlow h.lt a hi.v2pos b
theorem Ajb (p r u:Nat)(hu:u<18446744073709551616):p≤r*18446744073709551616+u↔(p/18446744073709551616<r∨p/18446744073709551616=r∧p%18446744073709551616≤u):=by
 omega
end Go.Proofs.YtabjjdicffcolaaGreatDoor
namespace Go.Proofs.YtabjjdicffcolaaGreatDoor
variable {qs us vs:List Nat} {N V j n:Nat}
structure LongInv (N V:Nat) (n:Nat) (us qs:List Nat) (k:Nat):Prop where
 us_small:Small us
 qs_small:Small qs
 lens:us.length=qs.length+n
 low:val (us.drop k)<V
 sum:val qs*V+val us=N
 zero:∀ i,i<k→nth qs i=0
theorem LongInv.window (h:LongInv N V n us qs (j+1))(hj:j<qs.length)(hn:2≤n)(hV:V=val vs)(hvl:vs.length=n)(hvs:Small vs)(ht:9223372036854775808≤nth vs (n-1)) :
 DigIn ((us.drop j).take (n+1)) vs n∧val (us.drop (j+(n+1)))=0:=by
 have hl:=h.lens;have e:us.drop j=nth us j::us.drop (j+1):=Xn us j (by omega);have hlow:=h.low;have hx:=nth_lt h.us_small j;have hd:val (us.drop j)<V*18446744073709551616:=by
  rw [e,val];omega
 have hvlt:=Ev vs hvs;rw [hvl,←hV] at hvlt;have sm:Small (us.drop j):=J0 h.us_small j;have ap:=Cn ((us.drop j).take (n+1)) ((us.drop j).drop (n+1));rw [List.take_append_drop,List.length_take,List.length_drop,Nat.min_eq_left (by omega),List.drop_drop] at ap;have hp:18446744073709551616^(n+1)=18446744073709551616^n*18446744073709551616:=Nat.pow_succ ..;have hz:val (us.drop (j+(n+1)))=0:=by
  by_cases hz:val (us.drop (j+(n+1)))=0
  ·exact hz
  ·exfalso;have:18446744073709551616^(n+1)*1≤18446744073709551616^(n+1)*val (us.drop (j+(n+1))):=Nat.mul_le_mul_left _ (by omega);rw [hp] at this ap;generalize 18446744073709551616^n=P at *;generalize P*18446744073709551616*val (us.drop (j+(n+1)))=T at *;omega
 refine ⟨⟨hn,?_,hvl,D3 sm _,hvs,ht,?_⟩,hz⟩
 ·rw [List.length_take,List.length_drop];omega
 ·rw [←hV];rw [hz,Nat.mul_zero,Nat.add_zero] at ap;rw [←ap];exact hd
theorem Q7 (us:List Nat)(j m:Nat):us=us.take j++((us.drop j).take m++us.drop (j+m)):=by
 rw [←List.drop_drop,List.take_append_drop,List.take_append_drop]
theorem LongInv.next {wl':List Nat}(h:LongInv N V n us qs (j+1))(hj:j<qs.length)(hV:V=val vs)(hz:val (us.drop (j+(n+1)))=0)
 (hq:val ((us.drop j).take (n+1))/val vs<18446744073709551616) (hV0:0<val vs) (hl':wl'.length=((us.drop j).take (n+1)).length) (hs':Small wl') (hv':val wl'=val ((us.drop j).take (n+1))%val vs) :
 LongInv N V n (us.take j++(wl'++us.drop (j+(n+1)))) (qs.set j (val ((us.drop j).take (n+1))/val vs)) j:=by
 have hl:=h.lens;have ht:(us.take j).length=j:=by rw [List.length_take];omega
 have e:=Q7 us j (n+1);have lw:((us.drop j).take (n+1)).length=n+1:=by rw [List.length_take,List.length_drop];omega
 refine ⟨?_,Dv h.qs_small _ _ hq,?_,?_,?_,?_⟩
 ·intro x hx;rcases List.mem_append.1 hx with hx | hx
  ·exact D3 h.us_small j x hx
  ·rcases List.mem_append.1 hx with hx | hx
   ·exact hs' x hx
   ·exact J0 h.us_small _ x hx
 ·rw [List.length_set,List.length_append,List.length_append,hl',lw,List.length_drop,ht];omega
 ·rw [List.drop_append_of_le_length (by omega),List.drop_of_length_le (by omega),List.nil_append,Cn,hz,Nat.mul_zero,Nat.add_zero,hv',hV];exact Nat.mod_lt _ hV0
 ·have v:=Gu qs j (val ((us.drop j).take (n+1))/val vs) hj;rw [h.zero j (by omega),Nat.mul_zero,Nat.add_zero] at v;have s:=h.sum;have u1:val us=val (us.take j)+18446744073709551616^j*(val ((us.drop j).take (n+1))+18446744073709551616^(n+1)*val (us.drop (j+(n+1)))):=by
   conv=>lhs;rw [e]
   rw [Cn,Cn,ht,lw]
  have u2:val (us.take j++(wl'++us.drop (j+(n+1))))=val (us.take j)+18446744073709551616^j*(val wl'+18446744073709551616^(n+1)*val (us.drop (j+(n+1)))):=by
   rw [Cn,Cn,ht,hl',lw]
  rw [hz,Nat.mul_zero,Nat.add_zero (val ((us.drop j).take (n+1)))] at u1;rw [hz,Nat.mul_zero,Nat.add_zero (val wl')] at u2;rw [v,u2,hv',Nat.add_mul,hV];rw [u1,hV] at s;have dm:=Nat.div_add_mod (val ((us.drop j).take (n+1))) (val vs);generalize val ((us.drop j).take (n+1))/val vs=q at *;generalize val ((us.drop j).take (n+1))%val vs=r at *;generalize val ((us.drop j).take (n+1))=W at *;generalize 18446744073709551616^j=P at *;have e3:P*q*val vs+P*r=P*W:=by rw [Nat.mul_assoc,←Nat.mul_add,Nat.mul_comm q,dm]
  omega
 ·intro i hi;rw [Jg _ _ _ _ hj,if_neg (by omega)];exact h.zero i (by omega)
theorem LongInv.finish (h:LongInv N V n us qs 0):val qs=N/V∧val us=N%V:=by
 have a:=h.low;have b:=h.sum;rw [List.drop_zero] at a;have hV:0<V:=by omega
 rw [←b,Nat.add_comm];exact ⟨by rw [Nat.add_mul_div_right _ _ hV,Nat.div_eq_of_lt a,Nat.zero_add],by rw [Nat.add_mul_mod_self_right,Nat.mod_eq_of_lt a]⟩
theorem Aej (us:List Nat)(h:Small us)(n:Nat)(hn:n≤us.length)(hV:val us<18446744073709551616^n):val (us.take n)=val us:=by
 have e:=Cn (us.take n) (us.drop n);rw [List.take_append_drop,List.length_take,Nat.min_eq_left hn] at e;have:val (us.drop n)=0:=by
  rw [T0 us h n,Nat.div_eq_of_lt hV]
 rw [this,Nat.mul_zero,Nat.add_zero] at e;exact e.symm
theorem Ac3 (n:Nat)(k:Nat):val (limbs n++List.replicate k 0)=n:=by
 rw [Cn,Gm,Nat.mul_zero,Nat.add_zero,Bn]
theorem Vc (n k:Nat):Small (limbs n++List.replicate k 0):=by
 intro x hx;rcases List.mem_append.1 hx with hx | hx
 ·exact Dj n x hx
 ·exact Eg k x hx
theorem Cv (n k:Nat)(h:n<18446744073709551616^k):(limbs n).length≤k:=by
 by_cases h0:n=0
 ·subst h0;rw [Au];exact Nat.zero_le _
 ·have a:=Gk n h0;by_cases hk:(limbs n).length≤k
  ·exact hk
  ·have:18446744073709551616^k≤18446744073709551616^((limbs n).length-1):=Nat.pow_le_pow_right (by decide) (by omega);omega
theorem Rb (n k:Nat)(h:18446744073709551616^k≤n):k<(limbs n).length:=by
 have a:=Ce n;by_cases hk:k<(limbs n).length
 ·exact hk
 ·have:18446744073709551616^(limbs n).length≤18446744073709551616^k:=Nat.pow_le_pow_right (by decide) (by omega);omega
theorem Wm (m:Nat)(h:m≠0):m*2^(64-bl (nth (limbs m) ((limbs m).length-1)))<18446744073709551616^(limbs m).length ∧
 18446744073709551616^((limbs m).length-1)*9223372036854775808≤m*2^(64-bl (nth (limbs m) ((limbs m).length-1))):=by
 have ht:=Rx m h;have hp:=Bc m h;have hb:=O7 _ (nth_lt (Dj m) ((limbs m).length-1));have hb0:=Cr _ (Js m h);have a:=Cz m h;have b:=Ba m;rw [ht] at a b;generalize bl (nth (limbs m) ((limbs m).length-1))=t at *;generalize (limbs m).length=l at *;obtain ⟨i,rfl⟩:∃ i,l=i+1:=⟨l-1,by omega⟩;rw [Nat.add_sub_cancel] at *;have p:∀ q,(18446744073709551616:Nat)^q=2^(64*q):=fun q=>by rw [Nat.pow_mul]
 constructor
 ·have:=Nat.mul_lt_mul_of_pos_right b (Nat.pow_pos (n:=64-t) (show 0<2 by decide));rw [←Nat.pow_add,show 64*i+t+(64-t)=64*(i+1) by omega,←p] at this;exact this
 ·have:=Nat.mul_le_mul_right (2^(64-t)) a;rw [←Nat.pow_add,show 64*i+t-1+(64-t)=64*i+63 by omega,Nat.pow_add,←p] at this;exact this
theorem Aho (vs:List Nat)(h:Small vs)(n:Nat)(hn:vs.length=n)(h0:0<n)(hv:18446744073709551616^(n-1)*9223372036854775808≤val vs):9223372036854775808≤nth vs (n-1):=by
 have e:=Br vs (n-1) (by omega);rw [show n-1+1=n by omega,List.take_of_length_le (by omega)] at e;have b:=Ev _ (D3 h (n-1));rw [List.length_take,Nat.min_eq_left (by omega)] at b;generalize 18446744073709551616^(n-1)=P at *;have:P*9223372036854775808<P*(nth vs (n-1)+1):=by rw [Nat.mul_add];omega
 have:=Nat.lt_of_mul_lt_mul_left this;omega
theorem LongInv.start (n m s:Nat)(us vs:List Nat)(l d:Nat)(hs:Small us)(hl:us.length=l+2+d+1)(hv:val us=n*2^s)(hm:m≠0)(hml:(limbs m).length=l+2)(hn:(limbs n).length=l+2+d)(hV:val vs=m*2^s) :
 LongInv (n*2^s) (val vs) (l+2) us (List.replicate (d+1) 0) (d+1):=by
 refine ⟨hs,Eg _,by rw [hl,List.length_replicate];omega,?_,by rw [Gm,Nat.zero_mul,Nat.zero_add,hv],fun i _=>Fe _ i⟩;rw [T0 us hs,hv,hV,Nat.div_lt_iff_lt_mul (Nat.pow_pos (by decide))];have a:=Ce n;have b:=Gk m hm;rw [hn] at a;rw [hml,show l+2-1=l+1 by omega] at b;have c:18446744073709551616^(l+2+d)=18446744073709551616^(l+1)*18446744073709551616^(d+1):=by rw [←Nat.pow_add];congr 1;omega
 rw [c] at a;have e:=Nat.mul_lt_mul_of_pos_right a (Nat.pow_pos (n:=s) (show 0<2 by decide));refine Nat.lt_of_lt_of_le e ?_;rw [Nat.mul_right_comm];exact Nat.mul_le_mul_right _ (Nat.mul_le_mul_right _ b)
end Go.Proofs.YtabjjdicffcolaaGreatDoor
namespace Go.Proofs.YtabjjdicffcolaaGreatDoor
variable {α β:Type} {d:Dy} {x y:Rat}
def Gl (a b:Dy):Int :=
 if (bl a.m:Int)+a.e<bl b.m+b.e then -1 else if (bl b.m:Int)+b.e<bl a.m+a.e then 1
 else Du (a.m*2^(a.e-min a.e b.e).toNat) (b.m*2^(b.e-min a.e b.e).toNat)
theorem Wh {m:Nat}(h:m≠0)(e:Int):pw (bl m+e-1)≤(m:Rat)*pw e∧(m:Rat)*pw e<pw (bl m+e):=by
 have h1:=Cz m h;have h2:=Ba m;have h3:=Cr m h;constructor
 ·have e1:pw (bl m+e-1)=((2^(bl m-1):Nat):Rat)*pw e:=by
   rw [←I7,←Es];congr 1;omega
  rw [e1,G7,Co];exact h1
 ·have e1:pw (bl m+e)=((2^bl m:Nat):Rat)*pw e:=by
   rw [←I7,←Es]
  rw [e1,U4,Cy];exact h2
theorem Oe (h:x<y):Cg x y=-1:=by unfold Cg;rw [if_pos h]
theorem Od (h:y<x):Cg x y=1:=by unfold Cg;rw [if_neg (by grind),if_neg (by grind)]
theorem Acv {a b:Dy}(ha:a.m≠0)(hb:b.m≠0):Gl a b=Cg ((a.m:Rat)*pw a.e) ((b.m:Rat)*pw b.e):=by
 obtain ⟨a1,a2⟩:=Wh ha a.e;obtain ⟨b1,b2⟩:=Wh hb b.e;unfold Gl;by_cases h1:(bl a.m:Int)+a.e<bl b.m+b.e
 ·rw [if_pos h1,Oe];have:=F7 (show (bl a.m:Int)+a.e≤bl b.m+b.e-1 by omega);grind
 ·rw [if_neg h1];by_cases h2:(bl b.m:Int)+b.e<bl a.m+a.e
  ·rw [if_pos h2,Od];have:=F7 (show (bl b.m:Int)+b.e≤bl a.m+a.e-1 by omega);grind
  ·rw [if_neg h2];exact (Ae8 a.m b.m (Int.min_le_left _ _) (Int.min_le_right _ _)).symm
def sg (d:Dy):Int:=if d.m=0 then 0 else if d.neg then -1 else 1
theorem Abd (h:sg d=1):0<d.q∧d.q=(d.m:Rat)*pw d.e∧d.m≠0:=by
 unfold sg at h;by_cases h0:d.m=0
 ·rw [if_pos h0] at h;exact absurd h (by decide)
 ·rw [if_neg h0] at h;unfold Dy.q sq;cases hn:d.neg
  ·simp only [Bool.false_eq_true,if_false];exact ⟨S5 h0 _,trivial,h0⟩
  ·rw [hn] at h;exact absurd h (by decide)
theorem Tk (h:sg d=-1):d.q<0∧d.q=-((d.m:Rat)*pw d.e)∧d.m≠0:=by
 unfold sg at h;by_cases h0:d.m=0
 ·rw [if_pos h0] at h;exact absurd h (by decide)
 ·rw [if_neg h0] at h;unfold Dy.q sq;cases hn:d.neg
  ·rw [hn] at h;exact absurd h (by decide)
  ·simp only [if_true,Rat.neg_mul];have:=S5 h0 d.e;exact ⟨by grind,trivial,h0⟩
theorem Wu (h:sg d=0):d.q=0:=by
 unfold sg at h;by_cases h0:d.m=0
 ·exact Oy h0
 ·rw [if_neg h0] at h;split at h<;>exact absurd h (by decide)
theorem I0 (d:Dy):sg d=-1∨sg d=0∨sg d=1:=by
 unfold sg;split
 ·exact .inr (.inl rfl)
 ·split
  ·exact .inl rfl
  ·exact .inr (.inr rfl)
theorem Aec (d:Dy):sg d=Cg d.q 0:=by
 rcases I0 d with h | h | h
 ·rw [h,Oe (Tk h).1]
 ·rw [h,Wu h,Uk]
 ·rw [h,Od (Abd h).1]
theorem Z9 {a b:Dy}(h:sg a<sg b):Cg a.q b.q=-1:=by
 apply Oe;rw [Aec,Aec] at h;have h1:=@Lj a.q 0;have h2:=@Abt b.q 0;have h3:=@Je a.q 0;have h4:=@Nf b.q 0;rcases I0 a with ha | ha | ha<;>rcases I0 b with hb | hb | hb<;>rw [Aec] at ha hb<;>rw [ha,hb] at h<;>first | (exact absurd h (by decide)) | skip
 all_goals (rw [ha] at h1 h3;rw [hb] at h2 h4;simp at h1 h2 h3 h4;grind)
theorem Ae9 {a b:Dy}(h:sg b<sg a):Cg a.q b.q=1:=by
 have h1:=Z9 h;have h2:=Xf b.q a.q;have h3:=@Lj b.q a.q;rw [h1] at h3;exact Od (h3.1 (by decide))
theorem Xg {a b:Dy}(h:sg a=sg b):Cg a.q b.q=if sg a=0 then 0 else sg a*Gl a b:=by
 rcases I0 a with ha | ha | ha
 ·rw [ha,if_neg (by decide)];obtain ⟨_,a1,a2⟩:=Tk ha;obtain ⟨_,b1,b2⟩:=Tk (h▸ha);rw [a1,b1,Xf,Acv a2 b2];omega
 ·rw [ha,if_pos rfl,Wu ha,Wu (h▸ha),Uk]
 ·rw [ha,if_neg (by decide)];obtain ⟨_,a1,a2⟩:=Abd ha;obtain ⟨_,b1,b2⟩:=Abd (h▸ha);rw [a1,b1,Acv a2 b2];omega
structure Iv where
 lo:Dy
 hi:Dy
def iz:Iv:=⟨dz,dz⟩
structure RawI where
 lo:Raw
 hi:Raw
def Iv.raw (a:Iv):RawI:=⟨a.lo.raw,a.hi.raw⟩
structure Iv.Ok (a:Iv):Prop where
 lo:a.lo.Ok
 hi:a.hi.Ok
 le:a.lo.q≤a.hi.q
def Fh (a:RawI):Bool:=Ew a.lo&&Ew a.hi&&decide (Cg a.lo.dy.q a.hi.dy.q≤0)
theorem Dt {a:Iv}(h:a.Ok):Fh a.raw=true:=by
 unfold Fh Iv.raw;simp only [h.lo.may,h.hi.may,Dy.raw_dy,Bool.true_and,decide_eq_true_eq];exact Je.2 h.le
def Outc.bind {α β:Type} (o:Outc α) (z:β) (f:α→Outc β):Outc β:=if o.k=0 then f o.v else ⟨z,o.k⟩
theorem Outc.bind_ok {o:Outc α}{z:β}{f:α→Outc β}(h:(o.bind z f).k=0):o.k=0∧o.bind z f=f o.v:=by
 unfold Outc.bind at *;by_cases hk:o.k=0
 ·rw [if_pos hk] at h ⊢;exact ⟨hk,rfl⟩
 ·rw [if_neg hk] at h;exact absurd h hk
theorem Outc.bind_of {o:Outc α}(z:β)(f:α→Outc β)(h:o.k=0):o.bind z f=f o.v:=by unfold Outc.bind;rw [if_pos h]
def Gg (lo hi:Outc Dy):Outc Iv:=lo.bind iz fun l=>hi.bind iz fun h=>⟨⟨l,h⟩,0⟩
theorem Lm {lo hi:Outc Dy}(h:(Gg lo hi).k=0):lo.k=0∧hi.k=0∧(Gg lo hi).v=⟨lo.v,hi.v⟩:=by
 unfold Gg at *;obtain ⟨h1,h2⟩:=Outc.bind_ok h;rw [h2] at h ⊢;obtain ⟨h3,h4⟩:=Outc.bind_ok h;rw [h4];exact ⟨h1,h3,rfl⟩
def Ql (o:Outc Dy) (p:Nat) (up:Bool):Outc Dy:=o.bind dz fun d=>Dh d p up
def Ge (a b:Iv) (p:Nat):Outc Iv:=Gg (Ql (Dq a.lo b.lo) p false) (Ql (Dq a.hi b.hi) p true)
def J1 (a b:Iv) (p:Nat):Outc Iv:=Gg (Ql (Dq a.lo (Cu b.hi)) p false) (Ql (Dq a.hi (Cu b.lo)) p true)
def Kk (a:Iv) (p:Nat):Outc Iv:=Gg (Dh (Cu a.hi) p false) (Dh (Cu a.lo) p true)
def Bx (d:Dy):List Dy→Dy
 | []=>d
 | x::l=>Bx (if Cg x.q d.q<0 then x else d) l
def Az (d:Dy):List Dy→Dy
 | []=>d
 | x::l=>Az (if 0<Cg x.q d.q then x else d) l
def Fo (a b c d:Outc Dy) (f:Dy→Dy→Dy→Dy→Outc Iv):Outc Iv :=
 a.bind iz fun x=>b.bind iz fun y=>c.bind iz fun z=>d.bind iz fun u=>f x y z u
def Fi (a b:Iv) (p:Nat):Outc Iv :=
 Fo (Bt a.lo b.lo) (Bt a.lo b.hi) (Bt a.hi b.lo) (Bt a.hi b.hi) fun x y z u =>
  Gg (Dh (Bx x [x,y,z,u]) p false) (Dh (Az x [x,y,z,u]) p true)
def Dn (b:Iv):Bool:=decide (Cg b.lo.q 0≤0)&&decide (Cg 0 b.hi.q≤0)
def Fu (a b:Iv) (p:Nat):Outc Iv :=
 if Dn b then ⟨iz,4⟩ else
 Fo (Bg a.lo b.lo p false) (Bg a.lo b.hi p false) (Bg a.hi b.lo p false) (Bg a.hi b.hi p false) fun x y z u =>
 Fo (Bg a.lo b.lo p true) (Bg a.lo b.hi p true) (Bg a.hi b.lo p true) (Bg a.hi b.hi p true) fun x' y' z' u' =>
  ⟨⟨Bx x [x,y,z,u],Az x' [x',y',z',u']⟩,0⟩
def I9 (a:Iv) (p:Nat):Outc Iv :=
 (Bt a.lo a.lo).bind iz fun x=>(Bt a.hi a.hi).bind iz fun y =>
   Gg (Dh (if Dn a then dz else Bx x [x,y]) p false) (Dh (Az x [x,y]) p true)
def Fc (a:Iv) (p:Nat):Outc Iv :=
 if sg a.lo<0 then ⟨iz,4⟩ else Gg (Iy a.lo p false) (Iy a.hi p true)
end Go.Proofs.YtabjjdicffcolaaGreatDoor
namespace Go.Proofs.YtabjjdicffcolaaGreatDoor
variable {d u x y z:Dy} {a:Iv} {l:List Dy} {p:Nat} {L b c:Rat}
theorem St {a:Rat}(h:a≤b)(hc:0≤c):c*a≤c*b:=Rat.mul_le_mul_of_nonneg_left h hc
theorem Ae0 {u a v d:Rat}(hu:a≤u)(hu':u≤b)(hv:c≤v)(hv':v≤d)(h1:L≤a*c)(h2:L≤a*d)(h3:L≤b*c)(h4:L≤b*d):L≤u*v:=by
 have key:∀ x,L≤x*c→L≤x*d→L≤x*v:=by
  intro x hc hd;by_cases hx:0≤x
  ·have:=St hv hx;grind
  ·have:=St hv' (show 0≤-x by grind);grind
 have ka:=key a h1 h2;have kb:=key b h3 h4;by_cases hv0:0≤v
 ·have:=Rat.mul_le_mul_of_nonneg_right hu hv0;grind
 ·have:=Rat.mul_le_mul_of_nonneg_right hu' (show 0≤-v by grind);grind
theorem Ae1 {u a v d:Rat}(hu:a≤u)(hu':u≤b)(hv:c≤v)(hv':v≤d)(h1:a*c≤L)(h2:a*d≤L)(h3:b*c≤L)(h4:b*d≤L):u*v≤L:=by
 have:=Ae0 (u:=-u) (a:=-b) (b:=-a) (v:=v) (c:=c) (d:=d) (L:=-L) (by grind) (by grind) hv hv' (by grind) (by grind) (by grind) (by grind);grind
theorem Uv (l:List Dy):∀ d:Dy,(Bx d l).q≤d.q∧∀ x∈l,(Bx d l).q≤x.q:=by
 induction l with
 | nil=>intro d;exact ⟨Rat.le_refl,fun x hx=>by cases hx⟩
 | cons y l ih =>
   intro d;unfold Bx;obtain ⟨h1,h2⟩:=ih (if Cg y.q d.q<0 then y else d);have hc:=@Lj y.q d.q;have h3:(if Cg y.q d.q<0 then y else d).q≤d.q∧(if Cg y.q d.q<0 then y else d).q≤y.q:=by
    by_cases h:Cg y.q d.q<0
    ·rw [if_pos h];have:=hc.1 h;constructor<;>grind
    ·rw [if_neg h];have:¬y.q<d.q:=fun hh=>h (hc.2 hh);constructor<;>grind
   refine ⟨by grind,fun x hx=>?_⟩;rcases List.mem_cons.1 hx with rfl | hx
   ·grind
   ·exact h2 x hx
theorem Lw (l:List Dy):∀ d:Dy,Bx d l=d∨Bx d l∈l:=by
 induction l with
 | nil=>intro d;exact .inl rfl
 | cons y l ih =>
   intro d;unfold Bx;rcases ih (if Cg y.q d.q<0 then y else d) with h | h
   ·rw [h];split
    ·exact .inr (List.mem_cons_self ..)
    ·exact .inl rfl
   ·exact .inr (List.mem_cons_of_mem _ h)
theorem Ph (l:List Dy):∀ d:Dy,d.q≤(Az d l).q∧∀ x∈l,x.q≤(Az d l).q:=by
 induction l with
 | nil=>intro d;exact ⟨Rat.le_refl,fun x hx=>by cases hx⟩
 | cons y l ih =>
   intro d;unfold Az;obtain ⟨h1,h2⟩:=ih (if 0<Cg y.q d.q then y else d);have hc:=@Abt y.q d.q;have h3:d.q≤(if 0<Cg y.q d.q then y else d).q∧y.q≤(if 0<Cg y.q d.q then y else d).q:=by
    by_cases h:0<Cg y.q d.q
    ·rw [if_pos h];have:=hc.1 h;constructor<;>grind
    ·rw [if_neg h];have:¬d.q<y.q:=fun hh=>h (hc.2 hh);constructor<;>grind
   refine ⟨by grind,fun x hx=>?_⟩;rcases List.mem_cons.1 hx with rfl | hx
   ·grind
   ·exact h2 x hx
theorem Ik (l:List Dy):∀ d:Dy,Az d l=d∨Az d l∈l:=by
 induction l with
 | nil=>intro d;exact .inl rfl
 | cons y l ih =>
   intro d;unfold Az;rcases ih (if 0<Cg y.q d.q then y else d) with h | h
   ·rw [h];split
    ·exact .inr (List.mem_cons_self ..)
    ·exact .inl rfl
   ·exact .inr (List.mem_cons_of_mem _ h)
theorem Qc (hd:d.Ok)(hl:∀ x∈l,Dy.Ok x):(Bx d l).Ok:=by
 rcases Lw l d with h | h
 ·rw [h];exact hd
 ·exact hl _ h
theorem Ls (hd:d.Ok)(hl:∀ x∈l,Dy.Ok x):(Az d l).Ok:=by
 rcases Ik l d with h | h
 ·rw [h];exact hd
 ·exact hl _ h
theorem Wd :(Bx x [x,y,z,u]).q≤x.q∧(Bx x [x,y,z,u]).q≤y.q∧(Bx x [x,y,z,u]).q≤z.q∧(Bx x [x,y,z,u]).q≤u.q:=by
 obtain ⟨a,b⟩:=Uv [x,y,z,u] x;exact ⟨a,b y (by simp),b z (by simp),b u (by simp)⟩
theorem Ni :x.q≤(Az x [x,y,z,u]).q∧y.q≤(Az x [x,y,z,u]).q∧z.q≤(Az x [x,y,z,u]).q∧u.q≤(Az x [x,y,z,u]).q:=by
 obtain ⟨a,b⟩:=Ph [x,y,z,u] x;exact ⟨a,b y (by simp),b z (by simp),b u (by simp)⟩
theorem Afx :(Bx x [x,y]).q≤x.q∧(Bx x [x,y]).q≤y.q:=by
 obtain ⟨a,b⟩:=Uv [x,y] x;exact ⟨a,b y (by simp)⟩
theorem Us :x.q≤(Az x [x,y]).q∧y.q≤(Az x [x,y]).q:=by
 obtain ⟨a,b⟩:=Ph [x,y] x;exact ⟨a,b y (by simp)⟩
theorem Sn :Bx x [x,y,z,u]=x∨Bx x [x,y,z,u]=y∨Bx x [x,y,z,u]=z∨Bx x [x,y,z,u]=u:=by
 rcases Lw [x,y,z,u] x with h | h
 ·exact .inl h
 ·simpa using h
theorem N1 :Az x [x,y,z,u]=x∨Az x [x,y,z,u]=y∨Az x [x,y,z,u]=z∨Az x [x,y,z,u]=u:=by
 rcases Ik [x,y,z,u] x with h | h
 ·exact .inl h
 ·simpa using h
theorem Aat :Bx x [x,y]=x∨Bx x [x,y]=y:=by
 rcases Lw [x,y] x with h | h
 ·exact .inl h
 ·simpa using h
theorem T6 :Az x [x,y]=x∨Az x [x,y]=y:=by
 rcases Ik [x,y] x with h | h
 ·exact .inl h
 ·simpa using h
theorem Fd (hp:1≤p)(hk:(Dh d p false).k=0):IsDown p d.q (Dh d p false).v.q:=Sc hp hk
theorem Ig (hp:1≤p)(hk:(Dh d p true).k=0):IsUp p d.q (Dh d p true).v.q:=Sc hp hk
theorem Ps {o:Outc Dy}{up:Bool}(hk:(Ql o p up).k=0):o.k=0∧Ql o p up=Dh o.v p up:=Outc.bind_ok hk
theorem Ug {b:Iv}(hp:1≤p)(hk:(Ge a b p).k=0) :
 IsDown p (a.lo.q+b.lo.q) (Ge a b p).v.lo.q∧IsUp p (a.hi.q+b.hi.q) (Ge a b p).v.hi.q:=by
 unfold Ge at *;obtain ⟨h1,h2,h3⟩:=Lm hk;obtain ⟨h4,h5⟩:=Ps h1;obtain ⟨h6,h7⟩:=Ps h2;rw [h3];simp only;rw [h5] at h1 ⊢;rw [h7] at h2 ⊢;rw [←Qs h4,←Qs h6];exact ⟨Fd hp h1,Ig hp h2⟩
theorem V7 {a b c d:Outc Dy}{f:Dy→Dy→Dy→Dy→Outc Iv}(hk:(Fo a b c d f).k=0) :
 a.k=0∧b.k=0∧c.k=0∧d.k=0∧Fo a b c d f=f a.v b.v c.v d.v:=by
 unfold Fo at *;obtain ⟨h1,e1⟩:=Outc.bind_ok hk;rw [e1] at hk ⊢;obtain ⟨h2,e2⟩:=Outc.bind_ok hk;rw [e2] at hk ⊢;obtain ⟨h3,e3⟩:=Outc.bind_ok hk;rw [e3] at hk ⊢;obtain ⟨h4,e4⟩:=Outc.bind_ok hk;rw [e4];exact ⟨h1,h2,h3,h4,rfl⟩
theorem U0 {b:Iv}(hp:1≤p)(hk:(Fi a b p).k=0) :
 ∃ L H : Rat, IsDown p L (Fi   a b p).v.lo.q ∧ IsUp p H (Fi   a b p).v.hi.q ∧
   (L≤a.lo.q*b.lo.q∧L≤a.lo.q*b.hi.q∧L≤a.hi.q*b.lo.q∧L≤a.hi.q*b.hi.q) ∧
   (a.lo.q*b.lo.q≤H∧a.lo.q*b.hi.q≤H∧a.hi.q*b.lo.q≤H∧a.hi.q*b.hi.q≤H) ∧
   (L=a.lo.q*b.lo.q∨L=a.lo.q*b.hi.q∨L=a.hi.q*b.lo.q∨L=a.hi.q*b.hi.q) ∧
   (H=a.lo.q*b.lo.q∨H=a.lo.q*b.hi.q∨H=a.hi.q*b.lo.q∨H=a.hi.q*b.hi.q):=by
 unfold Fi at *;obtain ⟨k1,k2,k3,k4,e⟩:=V7 hk;rw [e] at hk ⊢;obtain ⟨h1,h2,h3⟩:=Lm hk;rw [h3];simp only;rw [←Kj k1,←Kj k2,←Kj k3,←Kj k4];refine ⟨_,_,Fd hp h1,Ig hp h2,Wd,Ni,?_,?_⟩
 ·rcases Sn (x:=(Bt a.lo b.lo).v) (y:=(Bt a.lo b.hi).v) (z:=(Bt a.hi b.lo).v) (u:=(Bt a.hi b.hi).v) with h | h | h | h<;>rw [h]<;>simp
 ·rcases N1 (x:=(Bt a.lo b.lo).v) (y:=(Bt a.lo b.hi).v) (z:=(Bt a.hi b.lo).v) (u:=(Bt a.hi b.hi).v) with h | h | h | h<;>rw [h]<;>simp
theorem G0 (b:Iv):Dn b=true↔b.lo.q≤0∧0≤b.hi.q:=by
 unfold Dn;simp only [Bool.and_eq_true,decide_eq_true_eq];rw [Je,Je]
theorem Vd (hp:1≤p)(hk:(I9 a p).k=0) :
 ∃ L H : Rat, IsDown p L (I9   a p).v.lo.q ∧ IsUp p H (I9   a p).v.hi.q ∧
   L≤a.lo.q*a.lo.q∧L≤a.hi.q*a.hi.q∧a.lo.q*a.lo.q≤H∧a.hi.q*a.hi.q≤H∧0≤L ∧
   (H=a.lo.q*a.lo.q∨H=a.hi.q*a.hi.q)∧((L=0∧a.lo.q≤0∧0≤a.hi.q)∨(¬(a.lo.q≤0∧0≤a.hi.q)∧(L=a.lo.q*a.lo.q∨L=a.hi.q*a.hi.q))):=by
 have sqn:∀ x:Rat,0≤x*x:=fun x=>by
  by_cases h:0≤x
  ·exact Rat.mul_nonneg h h
  ·have:=Rat.mul_nonneg (show 0≤-x by grind) (show 0≤-x by grind);grind
 unfold I9 at *;obtain ⟨k1,e1⟩:=Outc.bind_ok hk;rw [e1] at hk ⊢;obtain ⟨k2,e2⟩:=Outc.bind_ok hk;rw [e2] at hk ⊢;obtain ⟨h1,h2,h3⟩:=Lm hk;rw [h3];simp only;have hg:=Us (x:=(Bt a.lo a.lo).v) (y:=(Bt a.hi a.hi).v);have hl:=Afx (x:=(Bt a.lo a.lo).v) (y:=(Bt a.hi a.hi).v);have q1:=Kj k1;have q2:=Kj k2;have s1:=sqn a.lo.q;have s2:=sqn a.hi.q;refine ⟨_,_,Fd hp h1,Ig hp h2,?_⟩;rw [←q1,←q2] at *;have hH:((Az (Bt a.lo a.lo).v [(Bt a.lo a.lo).v,(Bt a.hi a.hi).v]).q=(Bt a.lo a.lo).v.q∨(Az (Bt a.lo a.lo).v [(Bt a.lo a.lo).v,(Bt a.hi a.hi).v]).q=(Bt a.hi a.hi).v.q):=by
  rcases T6 (x:=(Bt a.lo a.lo).v) (y:=(Bt a.hi a.hi).v) with h | h<;>rw [h]<;>simp
 have hL:((Bx (Bt a.lo a.lo).v [(Bt a.lo a.lo).v,(Bt a.hi a.hi).v]).q=(Bt a.lo a.lo).v.q∨(Bx (Bt a.lo a.lo).v [(Bt a.lo a.lo).v,(Bt a.hi a.hi).v]).q=(Bt a.hi a.hi).v.q):=by
  rcases Aat (x:=(Bt a.lo a.lo).v) (y:=(Bt a.hi a.hi).v) with h | h<;>rw [h]<;>simp
 by_cases hz:Dn a=true
 ·have hz':=(G0 a).1 hz;rw [if_pos hz,Xr];exact ⟨s1,s2,hg.1,hg.2,Rat.le_refl,hH,.inl ⟨rfl,hz'.1,hz'.2⟩⟩
 ·rw [if_neg hz];have hz':¬(a.lo.q≤0∧0≤a.hi.q):=fun h=>hz ((G0 a).2 h)
  refine ⟨hl.1,hl.2,hg.1,hg.2,?_,hH,.inr ⟨hz',hL⟩⟩;rcases hL with h | h<;>rw [h]<;>assumption
theorem Abg {H u:Rat}(hu:a.lo.q≤u)(hu':u≤a.hi.q)(l1:L≤a.lo.q*a.lo.q)(l2:L≤a.hi.q*a.hi.q)(g1:a.lo.q*a.lo.q≤H)(g2:a.hi.q*a.hi.q≤H)
 (hL:(L=0∧a.lo.q≤0∧0≤a.hi.q)∨(¬(a.lo.q≤0∧0≤a.hi.q)∧(L=a.lo.q*a.lo.q∨L=a.hi.q*a.hi.q))):L≤u*u∧u*u≤H:=by
 have sqn:∀ x:Rat,0≤x*x:=fun x=>by
  by_cases h:0≤x
  ·exact Rat.mul_nonneg h h
  ·have:=Rat.mul_nonneg (show 0≤-x by grind) (show 0≤-x by grind);grind
 constructor
 ·rcases hL with ⟨rfl,_⟩ | ⟨hz,_⟩
  ·exact sqn u
  ·by_cases h:0≤a.lo.q
   ·have:=N5 h hu;grind
   ·have h2:a.hi.q<0:=by
     by_cases h3:a.hi.q<0
     ·exact h3
     ·exact absurd ⟨by grind,by grind⟩ hz
    have:=N5 (show 0≤-a.hi.q by grind) (show -a.hi.q≤-u by grind);grind
 ·by_cases h:0≤u
  ·have:=N5 h hu';grind
  ·have:=N5 (show 0≤-u by grind) (show -u≤-a.lo.q by grind);grind
end Go.Proofs.YtabjjdicffcolaaGreatDoor
namespace Go.Proofs.YtabjjdicffcolaaGreatDoor
variable {d:Dy} {f:Dy→Dy→Dy→Dy→Outc Iv} {a b x y:Iv} {m n p:Nat}
def OkI (o:Outc Iv):Prop:=o.v.Ok∧(o.k≠0→o.v=iz)
theorem Sm:iz.Ok:=⟨Md,Md,Rat.le_refl⟩
theorem Ie (k:Int):OkI ⟨iz,k⟩:=⟨Sm,fun _=>rfl⟩
theorem Kp {lo hi:Outc Dy}(h1:lo.Ok)(h2:hi.Ok)(h:lo.k=0→hi.k=0→lo.v.q≤hi.v.q):OkI (Gg lo hi):=by
 unfold Gg Outc.bind;by_cases k1:lo.k=0
 ·simp only [if_pos k1];by_cases k2:hi.k=0
  ·simp only [if_pos k2];exact ⟨⟨h1.1,h2.1,h k1 k2⟩,fun h=>absurd rfl h⟩
  ·simp only [if_neg k2];exact Ie _
 ·simp only [if_neg k1];exact Ie _
theorem Acr (o:Outc Dy)(p:Nat)(up:Bool):(Ql o p up).Ok:=by
 unfold Ql Outc.bind;by_cases k1:o.k=0
 ·simp only [if_pos k1];exact Hf _ _ _
 ·simp only [if_neg k1];exact Mj _
theorem Si {a b c d:Outc Dy}(h:a.k=0→b.k=0→c.k=0→d.k=0→OkI (f a.v b.v c.v d.v)):OkI (Fo a b c d f):=by
 unfold Fo Outc.bind;by_cases k1:a.k=0
 ·simp only [if_pos k1];by_cases k2:b.k=0
  ·simp only [if_pos k2];by_cases k3:c.k=0
   ·simp only [if_pos k3];by_cases k4:d.k=0
    ·simp only [if_pos k4];exact h k1 k2 k3 k4
    ·simp only [if_neg k4];exact Ie _
   ·simp only [if_neg k3];exact Ie _
  ·simp only [if_neg k2];exact Ie _
 ·simp only [if_neg k1];exact Ie _
theorem Vp (ha:a.Ok)(hb:b.Ok)(hp:1≤p):OkI (Ge a b p):=by
 unfold Ge;refine Kp (Acr _ _ _) (Acr _ _ _) fun k1 k2=>?_
 obtain ⟨h4,h5⟩:=Ps k1;obtain ⟨h6,h7⟩:=Ps k2;rw [h5] at k1 ⊢;rw [h7] at k2 ⊢;have d1:=(Fd hp k1).le;have d2:=(Ig hp k2).le;rw [Qs h4] at d1;rw [Qs h6] at d2;have:=ha.le;have:=hb.le;grind
theorem Agm (hb:b.Ok):(Iv.mk (Cu b.hi) (Cu b.lo)).Ok :=
 ⟨Iq hb.hi,Iq hb.lo,by simp only [Qh];have:=hb.le;grind⟩
theorem Pw (a b:Iv)(p:Nat):J1 a b p=Ge a ⟨Cu b.hi,Cu b.lo⟩ p:=rfl
theorem Acy (ha:a.Ok)(hb:b.Ok)(hp:1≤p):OkI (J1 a b p):=by
 rw [Pw];exact Vp ha (Agm hb) hp
theorem Ach (ha:a.Ok)(hp:1≤p):OkI (Kk a p):=by
 unfold Kk;refine Kp (Hf _ _ _) (Hf _ _ _) fun k1 k2=>?_
 have d1:=(Fd hp k1).le;have d2:=(Ig hp k2).le;have:=(Agm ha).le;simp only at this;grind
theorem Ace (hp:1≤p):OkI (Fi a b p):=by
 unfold Fi;refine Si fun h1 h2 h3 h4=>Kp (Hf _ _ _) (Hf _ _ _) fun k1 k2=>?_
 have d1:=(Fd hp k1).le;have d2:=(Ig hp k2).le;have l:=(Wd (x:=(Bt a.lo b.lo).v) (y:=(Bt a.lo b.hi).v) (z:=(Bt a.hi b.lo).v) (u:=(Bt a.hi b.hi).v)).1;have g:=(Ni (x:=(Bt a.lo b.lo).v) (y:=(Bt a.lo b.hi).v) (z:=(Bt a.hi b.lo).v) (u:=(Bt a.hi b.hi).v)).1;grind
theorem Om (hb:b.Ok)(h:¬Dn b=true):¬b.lo.m=0∧¬b.hi.m=0:=by
 have hz:=fun x=>h ((G0 b).2 x)
 have:=hb.le;constructor
 ·intro h0;have:=Oy h0;exact hz ⟨by grind,by grind⟩
 ·intro h0;have:=Oy h0;exact hz ⟨by grind,by grind⟩
theorem Jx {a b:Dy}(hp:1≤p)(hb:¬b.m=0)(hk:(Bg a b p false).k=0):IsDown p (a.q/b.q) (Bg a b p false).v.q:=Nq hp hb hk
theorem Mx {a b:Dy}(hp:1≤p)(hb:¬b.m=0)(hk:(Bg a b p true).k=0):IsUp p (a.q/b.q) (Bg a b p true).v.q:=Nq hp hb hk
theorem Abw (hb:b.Ok)(hp:1≤p):OkI (Fu a b p):=by
 unfold Fu;by_cases hz:Dn b=true
 ·rw [if_pos hz];exact Ie _
 ·rw [if_neg hz];obtain ⟨n1,n2⟩:=Om hb hz;refine Si fun h1 h2 h3 h4=>Si fun k1 k2 k3 k4=>⟨⟨?_,?_,?_⟩,fun h=>absurd rfl h⟩
  ·refine Qc (Et _ _ _ _).1 fun x hx=>?_
   simp only [List.mem_cons,List.not_mem_nil,or_false] at hx;rcases hx with rfl | rfl | rfl | rfl<;>exact (Et _ _ _ _).1
  ·refine Ls (Et _ _ _ _).1 fun x hx=>?_
   simp only [List.mem_cons,List.not_mem_nil,or_false] at hx;rcases hx with rfl | rfl | rfl | rfl<;>exact (Et _ _ _ _).1
  ·have d1:=(Jx hp n1 h1).le;have d2:=(Mx hp n1 k1).le;have l:=(Wd (x:=(Bg a.lo b.lo p false).v) (y:=(Bg a.lo b.hi p false).v) (z:=(Bg a.hi b.lo p false).v) (u:=(Bg a.hi b.hi p false).v)).1;have g:=(Ni (x:=(Bg a.lo b.lo p true).v) (y:=(Bg a.lo b.hi p true).v) (z:=(Bg a.hi b.lo p true).v) (u:=(Bg a.hi b.hi p true).v)).1
   show (Bx _ _).q≤(Az _ _).q
   grind
theorem Aj1 (hp:1≤p):OkI (I9 a p):=by
 have sqn:∀ x:Rat,0≤x*x:=fun x=>by
  by_cases h:0≤x
  ·exact Rat.mul_nonneg h h
  ·have:=Rat.mul_nonneg (show 0≤-x by grind) (show 0≤-x by grind);grind
 unfold I9 Outc.bind;by_cases h1:(Bt a.lo a.lo).k=0
 ·simp only [if_pos h1];by_cases h2:(Bt a.hi a.hi).k=0
  ·simp only [if_pos h2];refine Kp (Hf _ _ _) (Hf _ _ _) fun k1 k2=>?_
   have d1:=(Fd hp k1).le;have d2:=(Ig hp k2).le;have l:=(Afx (x:=(Bt a.lo a.lo).v) (y:=(Bt a.hi a.hi).v)).1;have g:=(Us (x:=(Bt a.lo a.lo).v) (y:=(Bt a.hi a.hi).v)).1;have q1:=Kj h1;have:=sqn a.lo.q;have hl:(if Dn a=true then dz else Bx (Bt a.lo a.lo).v [(Bt a.lo a.lo).v,(Bt a.hi a.hi).v]).q≤(Bt a.lo a.lo).v.q:=by
    split
    ·rw [Xr];grind
    ·exact l
   grind
  ·simp only [if_neg h2];exact Ie _
 ·simp only [if_neg h1];exact Ie _
theorem Ajs {x y d e:Rat}(hd:d*d≤x)(hxy:x≤y)(he:0≤e)(hy:y≤e*e):d≤e:=by
 by_cases h:d≤e
 ·exact h
 ·have:=Af3 he (show e<d by grind);grind
theorem Qq (ha:a.Ok)(h:¬sg a.lo<0):a.lo.neg=false∧a.hi.neg=false:=by
 rw [Aec] at h;have h0:0≤a.lo.q:=by
  have:=@Lj a.lo.q 0;grind
 have h1:0≤a.hi.q:=by have:=ha.le;grind
 have key:∀ d:Dy,d.Ok→0≤d.q→d.neg=false:=by
  intro d hd hq;by_cases hm:d.m=0
  ·exact (hd.zero hm).1
  ·cases hn:d.neg
   ·rfl
   ·have:sg d=-1:=by unfold sg;rw [if_neg hm,hn];rfl
    have:=(Tk this).1;grind
 exact ⟨key _ ha.lo h0,key _ ha.hi h1⟩
theorem Ou (hp:1≤p)(hn:d.neg=false)(hk:(Iy d p false).k=0):IsRootDown p d.q (Iy d p false).v.q:=U6 hp hn hk
theorem Te (hp:1≤p)(hn:d.neg=false)(hk:(Iy d p true).k=0):IsRootUp p d.q (Iy d p true).v.q:=U6 hp hn hk
theorem Ahc (ha:a.Ok)(hp:1≤p):OkI (Fc a p):=by
 unfold Fc;by_cases hs:sg a.lo<0
 ·rw [if_pos hs];exact Ie _
 ·rw [if_neg hs];obtain ⟨n1,n2⟩:=Qq ha hs;refine Kp (Td _ _ _) (Td _ _ _) fun k1 k2=>?_
  have d1:=Ou hp n1 k1;have d2:=Te hp n2 k2;exact Ajs d1.le ha.le d2.nonneg d2.le
theorem Afo {a b c d:Outc Dy}(h1:a.k=0)(h2:b.k=0)(h3:c.k=0)(h4:d.k=0):Fo a b c d f=f a.v b.v c.v d.v:=by
 unfold Fo;rw [Outc.bind_of _ _ h1,Outc.bind_of _ _ h2,Outc.bind_of _ _ h3,Outc.bind_of _ _ h4]
theorem IsDown.sign {x d:Rat}(h:IsDown p x d)(hx:0≤x):0≤d:=h.best 0 (Fits.zero p) hx
theorem Sl (hm:1≤m)(hn:m≤n)(x1:x.lo.q≤a.lo.q)(x2:a.hi.q≤x.hi.q)(y1:y.lo.q≤b.lo.q)(y2:b.hi.q≤y.hi.q)
 (h1:(Ge a b n).k=0) (h2:(Ge x y m).k=0):(Ge x y m).v.lo.q≤(Ge a b n).v.lo.q∧(Ge a b n).v.hi.q≤(Ge x y m).v.hi.q:=by
 obtain ⟨d1,d2⟩:=Ug (Nat.le_trans hm hn) h1;obtain ⟨e1,e2⟩:=Ug hm h2;exact ⟨e1.mono d1 hn (by grind),e2.mono d2 hn (by grind)⟩
theorem Xx (hm:1≤m)(hn:m≤n)(x1:x.lo.q≤a.lo.q)(x2:a.hi.q≤x.hi.q)(y1:y.lo.q≤b.lo.q)(y2:b.hi.q≤y.hi.q)
 (h1:(J1 a b n).k=0) (h2:(J1 x y m).k=0):(J1 x y m).v.lo.q≤(J1 a b n).v.lo.q∧(J1 a b n).v.hi.q≤(J1 x y m).v.hi.q:=by
 have i1:(Iv.mk (Cu y.hi) (Cu y.lo)).lo.q≤(Iv.mk (Cu b.hi) (Cu b.lo)).lo.q:=by simp only [Qh];grind
 have i2:(Iv.mk (Cu b.hi) (Cu b.lo)).hi.q≤(Iv.mk (Cu y.hi) (Cu y.lo)).hi.q:=by simp only [Qh];grind
 rw [Pw] at h1 h2;rw [Pw,Pw];exact Sl (a:=a) (b:=⟨Cu b.hi,Cu b.lo⟩) (x:=x) (y:=⟨Cu y.hi,Cu y.lo⟩) hm hn x1 x2 i1 i2 h1 h2
theorem Xv (ha:a.lo.q≤a.hi.q)(hb:b.lo.q≤b.hi.q)(hm:1≤m)(hn:m≤n)(x1:x.lo.q≤a.lo.q)(x2:a.hi.q≤x.hi.q)(y1:y.lo.q≤b.lo.q)(y2:b.hi.q≤y.hi.q)
 (h1:(Fi a b n).k=0) (h2:(Fi x y m).k=0):(Fi x y m).v.lo.q≤(Fi a b n).v.lo.q∧(Fi a b n).v.hi.q≤(Fi x y m).v.hi.q:=by
 obtain ⟨L,H,d1,d2,-,-,l,g⟩:=U0 (Nat.le_trans hm hn) h1;obtain ⟨L',H',e1,e2,⟨t1,t2,t3,t4⟩,⟨u1,u2,u3,u4⟩,-,-⟩:=U0 hm h2;have lo:∀ u v,x.lo.q≤u→u≤x.hi.q→y.lo.q≤v→v≤y.hi.q→L'≤u*v:=fun u v a b c d=>Ae0 a b c d t1 t2 t3 t4
 have hi:∀ u v,x.lo.q≤u→u≤x.hi.q→y.lo.q≤v→v≤y.hi.q→u*v≤H':=fun u v a b c d=>Ae1 a b c d u1 u2 u3 u4
 refine ⟨e1.mono d1 hn ?_,e2.mono d2 hn ?_⟩
 ·rcases l with rfl | rfl | rfl | rfl<;>exact lo _ _ (by grind) (by grind) (by grind) (by grind)
 ·rcases g with rfl | rfl | rfl | rfl<;>exact hi _ _ (by grind) (by grind) (by grind) (by grind)
theorem Afs (_ha:a.lo.q≤a.hi.q)(hm:1≤m)(hn:m≤n)(x1:x.lo.q≤a.lo.q)(x2:a.hi.q≤x.hi.q)
 (h1:(I9 a n).k=0) (h2:(I9 x m).k=0):(I9 x m).v.lo.q≤(I9 a n).v.lo.q∧(I9 a n).v.hi.q≤(I9 x m).v.hi.q:=by
 obtain ⟨L,H,d1,d2,s1,s2,s3,s4,s5,s6,s7⟩:=Vd (Nat.le_trans hm hn) h1;obtain ⟨L',H',e1,e2,t1,t2,t3,t4,t5,t6,t7⟩:=Vd hm h2;have B:∀ u,x.lo.q≤u→u≤x.hi.q→L'≤u*u∧u*u≤H':=fun u a b=>Abg a b t1 t2 t3 t4 t7
 refine ⟨e1.mono d1 hn ?_,e2.mono d2 hn ?_⟩
 ·rcases s7 with ⟨rfl,z1,z2⟩ | ⟨-,rfl | rfl⟩
  ·rcases t7 with ⟨rfl,-,-⟩ | ⟨h,-⟩
   ·exact Rat.le_refl
   ·exact absurd ⟨by grind,by grind⟩ h
  ·exact (B _ (by grind) (by grind)).1
  ·exact (B _ (by grind) (by grind)).1
 ·rcases s6 with rfl | rfl
  ·exact (B _ (by grind) (by grind)).2
  ·exact (B _ (by grind) (by grind)).2
theorem Qd {k:Nat}(h:bl n≤64*k):(limbs n).length≤k:=by
 apply Cv;have h1:=Ba n;have h2:2^bl n≤2^(64*k):=Nat.pow_le_pow_right (by decide) h;rw [Nat.pow_mul 2 64 k] at h2;exact Nat.lt_of_lt_of_le h1 h2
end Go.Proofs.YtabjjdicffcolaaGreatDoor
namespace Go.Proofs.YtabjjdicffcolaaGreatDoor
variable {d x y:Dy} {n p:Nat}
theorem Ac2 (h:n%2=1):tz n=0:=Hb n 0 n h (by simp)
theorem Qa (h:d.Ok):Bu d.neg d.m d.e=⟨d,0⟩:=by
 unfold Bu;by_cases h0:d.m=0
 ·rw [if_pos h0];obtain ⟨a,b⟩:=h.zero h0;cases d with | mk n m e =>
   simp only at a b h0;subst a b h0;rfl
 ·rw [if_neg h0,Ac2 (h.odd h0)];have hl:=h.len;have h1:=h.lo;have h2:=h.hi;rw [if_neg (by simpa using hl),if_neg (by simp;omega),if_neg (by simp;omega)];simp [good]
theorem Jo (h:d.Ok)(hp:bl d.m≤p)(up:Bool):Dh d p up=⟨d,0⟩:=by
 unfold Dh J5 E7 Jf;have e0:bl d.m-p=0:=by omega
 simp only [e0,Nat.lt_irrefl,decide_false,Bool.false_and,Bool.or_false,Bool.false_eq_true,if_false,Nat.pow_zero,Nat.div_one,Int.ofNat_zero,Int.add_zero];exact Qa h
structure Few (d:Dy) (b:Nat) (e:Int):Prop where
 ok:d.Ok
 bl:bl d.m≤b
 lo:-e≤d.e
 hi:d.e≤e
theorem Jq {neg:Bool}{e:Int}(h:bl n≤1000)(e1:-1000≤e)(e2:e≤1000):(Bu neg n e).k=0∧bl (Bu neg n e).v.m≤bl n:=by
 have hb:bl (n/2^tz n)≤bl n:=Gn (Nat.div_le_self _ _);have hl:(limbs (n/2^tz n)).length≤64:=Qd (k:=64) (by omega);by_cases h0:n=0
 ·subst h0;refine ⟨rfl,?_⟩
  show bl dz.m≤_
  simp [dz]
 ·have ht:tz n<bl n:=M8 n (bl n) h0 (Ba n);unfold Bu;rw [if_neg h0,if_neg (by omega),if_neg (by omega),if_neg (by omega)];exact ⟨rfl,hb⟩
theorem G5 {m a b:Nat}(hm:bl m≤a)(hn:bl n≤b):bl (m*n)≤a+b:=by
 apply Fl;rw [Nat.pow_add];have h1:=Ba m;have h2:=Ba n;have h3:2^bl m≤2^a:=Nat.pow_le_pow_right (by decide) hm;have h4:2^bl n≤2^b:=Nat.pow_le_pow_right (by decide) hn;exact Nat.mul_lt_mul'' (by omega) (by omega)
theorem Agd (hx:Few x 128 100)(hy:Few y 128 100):(Bt x y).k=0∧(Bt x y).v.Ok∧bl (Bt x y).v.m≤600:=by
 have hb:=G5 hx.bl hy.bl;have:=hx.lo;have:=hx.hi;have:=hy.lo;have:=hy.hi;obtain ⟨h1,h2⟩:=Jq (neg:=(x.neg != y.neg)) (n:=x.m*y.m) (e:=x.e+y.e) (by omega) (by omega) (by omega);exact ⟨h1,(Ip x y).1,by unfold Bt;omega⟩
theorem Akz {m a:Nat}(hm:bl m≤a)(hn:bl n≤a):bl (m+n)≤a+1:=by
 apply Fl;have h1:=Ba m;have h2:=Ba n;have h3:2^bl m≤2^a:=Nat.pow_le_pow_right (by decide) hm;have h4:2^bl n≤2^a:=Nat.pow_le_pow_right (by decide) hn;have h5:(2:Nat)^(a+1)=2^a+2^a:=Nat.two_pow_succ a;omega
theorem Zm {a b:Dy}(ha:Few a 128 100)(hb:Few b 128 100)(_h:b.e≤a.e):(J7 a b).k=0∧bl (J7 a b).v.m≤600:=by
 have:=ha.lo;have:=ha.hi;have:=hb.lo;have:=hb.hi;have hp:bl (2^(a.e-b.e).toNat)≤201:=by
  apply Fl;exact Nat.pow_lt_pow_right (by decide) (by omega)
 have hm:=G5 ha.bl hp;have hs:bl (a.m*2^(a.e-b.e).toNat+b.m)≤330:=Akz (a:=329) hm (by have:=hb.bl;omega);have hd:bl (a.m*2^(a.e-b.e).toNat-b.m)≤330:=Nat.le_trans (Gn (Nat.le_trans (Nat.sub_le _ _) (Nat.le_add_right _ b.m))) hs;have hd':bl (b.m-a.m*2^(a.e-b.e).toNat)≤330:=Nat.le_trans (Gn (Nat.le_trans (Nat.sub_le _ _) (Nat.le_add_left b.m (a.m*2^(a.e-b.e).toNat)))) hs;have hbl:=ha.bl;unfold J7;rw [if_neg (by omega)];split
 ·have:=Jq (neg:=a.neg) (n:=a.m*2^(a.e-b.e).toNat+b.m) (e:=b.e) (by omega) (by omega) (by omega);exact ⟨this.1,by omega⟩
 ·split
  ·have:=Jq (neg:=a.neg) (n:=a.m*2^(a.e-b.e).toNat-b.m) (e:=b.e) (by omega) (by omega) (by omega);exact ⟨this.1,by omega⟩
  ·have:=Jq (neg:=b.neg) (n:=b.m-a.m*2^(a.e-b.e).toNat) (e:=b.e) (by omega) (by omega) (by omega);exact ⟨this.1,by omega⟩
theorem Ahj (hx:Few x 128 100)(hy:Few y 128 100):(Dq x y).k=0∧(Dq x y).v.Ok∧bl (Dq x y).v.m≤600:=by
 have ok:=(Jh hx.ok hy.ok).1;have b1:=hx.bl;have b2:=hy.bl;unfold Dq at *;by_cases h1:x.m=0
 ·rw [if_pos h1] at ok ⊢;exact ⟨rfl,ok,by show bl y.m≤600;omega⟩
 ·rw [if_neg h1] at ok ⊢;by_cases h2:y.m=0
  ·rw [if_pos h2] at ok ⊢;exact ⟨rfl,ok,by show bl x.m≤600;omega⟩
  ·rw [if_neg h2] at ok ⊢;by_cases h3:x.e<y.e
   ·rw [if_pos h3] at ok ⊢;have:=Zm hy hx (by omega);exact ⟨this.1,ok,this.2⟩
   ·rw [if_neg h3] at ok ⊢;have:=Zm hx hy (by omega);exact ⟨this.1,ok,this.2⟩
def pt (d:Dy):Iv:=⟨d,d⟩
theorem Yn (h:d.Ok):(pt d).Ok:=⟨h,h,Rat.le_refl⟩
theorem S9 {o:Outc Dy}(h0:o.k=0)(h:o.v.Ok)(hp:bl o.v.m≤p)(up:Bool):Ql o p up=⟨o.v,0⟩:=by
 unfold Ql;rw [Outc.bind_of _ _ h0,Jo h hp]
theorem X8 (x:Dy)(l:List Dy)(h:∀ y∈l,y=x):Bx x l=x:=by
 rcases Lw l x with e | e
 ·exact e
 ·exact h _ e
theorem Sj (x:Dy)(l:List Dy)(h:∀ y∈l,y=x):Az x l=x:=by
 rcases Ik l x with e | e
 ·exact e
 ·exact h _ e
end Go.Proofs.YtabjjdicffcolaaGreatDoor
