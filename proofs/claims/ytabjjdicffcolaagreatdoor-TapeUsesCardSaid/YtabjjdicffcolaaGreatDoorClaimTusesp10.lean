/- Plain mathematics, no program: of points with bits enough operations are exact. -/
import Derived.Test.YtabjjdicffcolaaGreatDoorClaimTusesp09
set_option maxRecDepth 100000
set_option maxHeartbeats 16000000
namespace Go.Proofs.YtabjjdicffcolaaGreatDoor
def shS (xs:List Nat) (b:Nat):Nat→List Nat × Nat
 | 0=>(List.replicate xs.length 0,0)
 | d + 1 => let s := shS xs b d
   (s.1.set (xs.length-1-d) ((s.2*18446744073709551616+nth xs (xs.length-1-d))/b),(s.2*18446744073709551616+nth xs (xs.length-1-d))%b)
theorem J2 (xs:List Nat)(b d:Nat):shS xs b (d+1)=((shS xs b d).1.set (xs.length-1-d) (((shS xs b d).2*18446744073709551616+nth xs (xs.length-1-d))/b),((shS xs b d).2*18446744073709551616+nth xs (xs.length-1-d))%b):=rfl
theorem Ei (xs:List Nat)(b:Nat):∀ d,(shS xs b d).1.length=xs.length
 | 0=>by simp [shS]
 | d+1=>by rw [J2,List.length_set,Ei xs b d]
theorem Ry (xs:List Nat)(b:Nat)(hb:0<b):∀ d,(shS xs b d).2<b
 | 0=>by simpa [shS] using hb
 | d+1=>by rw [J2];exact Nat.mod_lt _ hb
theorem Mt (r x b:Nat)(hr:r<b)(hx:x<18446744073709551616):(r*18446744073709551616+x)/b<18446744073709551616:=by
 rw [Nat.div_lt_iff_lt_mul (by omega)];omega
theorem Jv (xs:List Nat)(h:Small xs)(b:Nat)(hb:0<b):∀ d,Small (shS xs b d).1
 | 0=>D7 _
 | d + 1 => by
   rw [J2];exact Dn (Jv xs h b hb d) _ _ (Mt _ _ _ (Ry xs b hb d) (nth_lt h _))
theorem Y4 (xs:List Nat)(b:Nat):∀ d i,d≤xs.length→i<xs.length-d→nth (shS xs b d).1 i=0
 | 0,i,_,_=>Fa _ i
 | d + 1, i, hd, hi => by
   rw [J2]
   show nth ((shS xs b d).1.set _ _) i=0
   rw [Ij _ _ _ _ (by rw [Ei];omega),if_neg (by omega)];exact Y4 xs b d i (by omega) (by omega)
theorem Nc (xs:List Nat)(h:Small xs)(b:Nat):∀ d,d≤xs.length→val (shS xs b d).1*b+18446744073709551616^(xs.length-d)*(shS xs b d).2+val (xs.take (xs.length-d))=val xs
 | 0, _ => by
   rw [shS,Nat.sub_zero,List.take_of_length_le (Nat.le_refl _)]
   simp [Ga]
 | d + 1, hd => by
   have ih:=Nc xs h b d (by omega);have hz:=Y4 xs b d (xs.length-1-d) (by omega) (by omega);have hl:=Ei xs b d;rw [J2];generalize shS xs b d=s at *;obtain ⟨o,r⟩:=s;simp only at *;have e:xs.length-d=(xs.length-1-d)+1:=by omega
   have e':xs.length-(d+1)=xs.length-1-d:=by omega
   rw [e,Nat.pow_succ,Bu xs _ (by omega)] at ih;rw [e'];generalize xs.length-1-d=i at *;have v:=Gi o i ((r*18446744073709551616+nth xs i)/b) (by omega);rw [hz,Nat.mul_zero,Nat.add_zero] at v;rw [v,Nat.add_mul];have a:=Nat.div_add_mod (r*18446744073709551616+nth xs i) b;generalize (r*18446744073709551616+nth xs i)/b=q at *;generalize (r*18446744073709551616+nth xs i)%b=t at *;generalize 18446744073709551616^i=p at *;have e2:p*q*b+p*t=p*18446744073709551616*r+p*nth xs i:=by
    rw [Nat.mul_assoc,←Nat.mul_add,Nat.mul_comm q,a,Nat.mul_add,Nat.mul_comm r,Nat.mul_assoc]
   omega
theorem Agm (xs:List Nat)(h:Small xs)(b:Nat)(hb:0<b):val (shS xs b xs.length).1=val xs/b∧(shS xs b xs.length).2=val xs%b:=by
 have a:=Nc xs h b xs.length (Nat.le_refl _);have r:=Ry xs b hb xs.length;rw [Nat.sub_self,Nat.pow_zero,Nat.one_mul,List.take_zero,val,Nat.add_zero] at a;rw [←a];constructor
 ·rw [Nat.add_comm,Nat.add_mul_div_right _ _ hb,Nat.div_eq_of_lt r,Nat.zero_add]
 ·rw [Nat.add_comm,Nat.add_mul_mod_self_right,Nat.mod_eq_of_lt r]
structure Zm (U3 V2 v1 v2 u2 x r:Nat):Prop where
 sum:U3=x*(v1*18446744073709551616)+r*18446744073709551616+u2
 two:V2=v1*18446744073709551616+v2
theorem Yf {U3 V2 v1 v2 u2 x r:Nat}(h:Zm U3 V2 v1 v2 u2 x r)(hx:x<18446744073709551616)(h2:v2<18446744073709551616)(hc:x*v2≤r*18446744073709551616+u2∨18446744073709551616≤r):x*V2≤U3:=by
 rw [h.sum,h.two,Nat.mul_add];have:x*v2≤18446744073709551616*18446744073709551616:=Nat.mul_le_mul (by omega) (by omega)
 rcases hc with hc | hc
 ·omega
 ·omega
theorem Xs {U3 V2 v1 v2 u2 x r:Nat}(h:Zm U3 V2 v1 v2 u2 x r)(hc:r*18446744073709551616+u2<x*v2):U3<x*V2∧Zm U3 V2 v1 v2 u2 (x-1) (r+v1):=by
 have hx:1≤x:=by
  by_cases e:x=0
  ·subst e;omega
  ·omega
 obtain ⟨k,rfl⟩:∃ k,x=k+1:=⟨x-1,by omega⟩;refine ⟨?_,⟨?_,h.two⟩⟩
 ·rw [h.sum,h.two,Nat.mul_add];omega
 ·rw [Nat.add_sub_cancel,h.sum,Nat.add_mul,Nat.add_mul];omega
theorem Aal (U3 V2 P u' v' x:Nat)(_hu:u'<P)(hv:v'<P)(hx:x<18446744073709551616)(h1:x*V2≤U3)(hV:18446744073709551616≤V2)(hq:(U3*P+u')/(V2*P+v')≤x):x=(U3*P+u')/(V2*P+v')∨x=(U3*P+u')/(V2*P+v')+1:=by
 have hp:0<P:=by omega
 have hV0:0<V2*P+v':=by
  have:18446744073709551616*P≤V2*P:=Nat.mul_le_mul_right _ hV;omega
 have a:(x-1)≤(U3*P+u')/(V2*P+v'):=by
  rw [Nat.le_div_iff_mul_le hV0]
  by_cases e:x=0
  ·subst e;simp
  ·obtain ⟨k, rfl⟩ : ∃ k, x = k + 1 := ⟨x - 1, by omega⟩;rw [Nat.add_sub_cancel,Nat.mul_add];have b:(k+1)*V2*P≤U3*P:=Nat.mul_le_mul_right _ h1;rw [Nat.add_mul,Nat.add_mul,Nat.one_mul] at b;have c:18446744073709551616*P≤V2*P:=Nat.mul_le_mul_right _ hV;have d:k*v'≤18446744073709551616*P:=Nat.mul_le_mul (by omega) (by omega);have e:k*(V2*P)=k*V2*P:=(Nat.mul_assoc _ _ _).symm;omega
 generalize (U3*P+u')/(V2*P+v')=q at *;omega
theorem W7 (U3 V2 P u' v' x:Nat)(hu:u'<P)(h:U3<x*V2)(hV:0<V2):(U3*P+u')/(V2*P+v')≤x-1:=by
 have hp:0<P:=by omega
 have hV0:0<V2*P+v':=by
  have:=Nat.mul_pos hV hp;omega
 have:(U3*P+u')/(V2*P+v')<x:=by
  rw [Nat.div_lt_iff_lt_mul hV0,Nat.mul_add];have a:(U3+1)*P≤x*V2*P:=Nat.mul_le_mul_right _ h;rw [Nat.add_mul,Nat.mul_assoc] at a;omega
 exact Nat.le_sub_one_of_lt this
theorem Vk (U2 u2 v1 v2 P u' v':Nat)(hu2:u2<18446744073709551616)(hu:u'<P)(hv1:0<v1) :
 ((U2*18446744073709551616+u2)*P+u')/((v1*18446744073709551616+v2)*P+v')≤U2/v1:=by
 have hp:0<P:=by omega
 have c0:=Nat.div_mul_le_self ((U2*18446744073709551616+u2)*P+u') ((v1*18446744073709551616+v2)*P+v');generalize ((U2*18446744073709551616+u2)*P+u')/((v1*18446744073709551616+v2)*P+v')=a at *;rw [Nat.le_div_iff_mul_le hv1];have c1:a*v1*(18446744073709551616*P)<(U2+1)*(18446744073709551616*P):=by
  have e1:a*((v1*18446744073709551616+v2)*P+v')=a*v1*(18446744073709551616*P)+a*(v2*P)+a*v':=by
   rw [Nat.mul_add,Nat.add_mul,Nat.mul_add,Nat.mul_assoc v1,←Nat.mul_assoc a v1]
  have e2:(U2*18446744073709551616+u2)*P=U2*(18446744073709551616*P)+u2*P:=by rw [Nat.add_mul,Nat.mul_assoc]
  have e3:(u2+1)*P≤18446744073709551616*P:=Nat.mul_le_mul_right _ hu2;rw [e1,e2] at c0;rw [Nat.add_mul U2,Nat.one_mul];rw [Nat.add_mul] at e3;generalize 18446744073709551616*P=Q at *;omega
 have:=Nat.lt_of_mul_lt_mul_right c1;omega
def msS (wl:List Nat) (x:Nat) (vs:List Nat):Nat→List Nat × Nat × Nat
 | 0=>(wl,0,0)
 | k + 1 => let s := msS wl x vs k
   (s.1.set k ((nth s.1 k+18446744073709551616-(x*nth vs k+s.2.1)%18446744073709551616-s.2.2)%18446744073709551616),(x*nth vs k+s.2.1)/18446744073709551616,
     if nth s.1 k<(x*nth vs k+s.2.1)%18446744073709551616+s.2.2 then 1 else 0)
theorem J3 (wl:List Nat)(x:Nat)(vs:List Nat)(k:Nat):msS wl x vs (k+1)=((msS wl x vs k).1.set k ((nth (msS wl x vs k).1 k+18446744073709551616-(x*nth vs k+(msS wl x vs k).2.1)%18446744073709551616-(msS wl x vs k).2.2)%18446744073709551616),(x*nth vs k+(msS wl x vs k).2.1)/18446744073709551616,
 if nth (msS wl x vs k).1 k<(x*nth vs k+(msS wl x vs k).2.1)%18446744073709551616+(msS wl x vs k).2.2 then 1 else 0):=rfl
theorem He (wl:List Nat)(x:Nat)(vs:List Nat):∀ k,(msS wl x vs k).1.length=wl.length
 | 0=>rfl
 | k+1=>by rw [J3,List.length_set,He wl x vs k]
theorem Ik (wl:List Nat)(x:Nat)(vs:List Nat)(h:Small wl):∀ k,Small (msS wl x vs k).1
 | 0=>h
 | k+1=>by rw [J3];exact Dn (Ik wl x vs h k) _ _ (Nat.mod_lt _ (by decide))
theorem S6 (wl:List Nat)(x:Nat)(vs:List Nat)(hx:x<18446744073709551616)(h':Small vs):∀ k,(msS wl x vs k).2.1<18446744073709551616
 | 0=>by simp [msS]
 | k + 1 => by
   rw [J3];have:=L7 x (nth vs k) (msS wl x vs k).2.1 0 hx (nth_lt h' k) (S6 wl x vs hx h' k) (by decide)
   rwa [Nat.add_zero] at this
theorem Ko (wl:List Nat)(x:Nat)(vs:List Nat):∀ k,(msS wl x vs k).2.2≤1
 | 0=>by simp [msS]
 | k + 1 => by
   rw [J3]
   show (if _ then 1 else 0)≤1
   split<;>omega
theorem Qz (p x y c:Nat)(hx:x<18446744073709551616)(hy:y<18446744073709551616)(hc:c≤1) :
 p*((x+18446744073709551616-y-c)%18446744073709551616)+p*y+p*c=p*x+p*18446744073709551616*(if x<y+c then 1 else 0):=by
 by_cases hlt:x<y+c
 ·rw [if_pos hlt, Nat.mod_eq_of_lt (by omega), Nat.mul_one, ← Nat.mul_add, ← Nat.mul_add, ← Nat.mul_add]
  congr 1;omega
 ·have e0 : (x + 18446744073709551616 - y - c) % 18446744073709551616 = x - y - c := by omega
  rw [if_neg hlt,e0,Nat.mul_zero,Nat.add_zero,←Nat.mul_add,←Nat.mul_add]
  congr 1;omega
theorem Up (wl:List Nat)(x:Nat)(vs:List Nat)(h:Small wl):∀ k,k≤wl.length →
 val (msS wl x vs k).1+x*val (vs.take k)=val wl+18446744073709551616^k*((msS wl x vs k).2.1+(msS wl x vs k).2.2)
 | 0,_=>by simp [msS,val]
 | k + 1, hk => by
   have ih:=Up wl x vs h k (by omega);have hl:=He wl x vs k;have hu:=nth_lt (Ik wl x vs h k) k;have hb:=Ko wl x vs k;rw [J3,Gx,Nat.pow_succ];generalize msS wl x vs k=s at *;obtain ⟨o,c,b⟩:=s;simp only at *;generalize hT:x*nth vs k+c=T;have v:=Gi o k ((nth o k+18446744073709551616-T%18446744073709551616-b)%18446744073709551616) (by omega);have sl:=Qz (18446744073709551616^k) (nth o k) (T%18446744073709551616) b hu (Nat.mod_lt _ (by decide)) hb;generalize (if nth o k<T%18446744073709551616+b then 1 else 0)=b' at *;generalize (nth o k+18446744073709551616-T%18446744073709551616-b)%18446744073709551616=z at *
   generalize 18446744073709551616^k=p at *;have e:p*18446744073709551616*(T/18446744073709551616)+p*(T%18446744073709551616)=p*T:=by
    rw [Nat.mul_assoc,←Nat.mul_add,Nat.div_add_mod]
   have e2:p*T=x*(p*nth vs k)+p*c:=by rw [←hT,Nat.mul_add,Nat.mul_left_comm]
   rw [Nat.mul_add x,Nat.mul_add (p*18446744073709551616)];rw [Nat.mul_add] at ih;omega
theorem Uz (wl vs:List Nat)(n:Nat)(hl:wl.length=n+1)(hv:vs.length=n):val (Du wl vs n).1+18446744073709551616^n*(Du wl vs n).2=val wl+val vs:=by
 have:=Ru wl vs n (by omega)
 rwa [List.take_of_length_le (by omega)] at this
theorem Xe (wl vs:List Nat)(x n:Nat)(h:Small wl)(hl:wl.length=n+1)(hv:vs.length=n)(hx:x=val wl/val vs)(hc:(msS wl x vs n).2.1<18446744073709551616) :
 val ((msS wl x vs n).1.set n ((nth (msS wl x vs n).1 n+18446744073709551616-(msS wl x vs n).2.1-(msS wl x vs n).2.2)%18446744073709551616))=val wl%val vs ∧
 (if nth (msS wl x vs n).1 n<(msS wl x vs n).2.1+(msS wl x vs n).2.2 then 1 else 0)=0:=by
 have a:=Up wl x vs h n (by omega);rw [List.take_of_length_le (by omega)] at a;have b:=Gi (msS wl x vs n).1 n ((nth (msS wl x vs n).1 n+18446744073709551616-(msS wl x vs n).2.1-(msS wl x vs n).2.2)%18446744073709551616) (by rw [He];omega);have sm:=Dn (Ik wl x vs h n) n ((nth (msS wl x vs n).1 n+18446744073709551616-(msS wl x vs n).2.1-(msS wl x vs n).2.2)%18446744073709551616) (Nat.mod_lt _ (by decide));have lt:=Em _ sm;rw [List.length_set,He,hl,Nat.pow_succ] at lt;have sl:=Qz (18446744073709551616^n) (nth (msS wl x vs n).1 n) (msS wl x vs n).2.1 (msS wl x vs n).2.2 (nth_lt (Ik wl x vs h n) n) hc (Ko wl x vs n)
 have dm:=Nat.div_add_mod (val wl) (val vs);rw [←hx,Nat.mul_comm] at dm;generalize (nth (msS wl x vs n).1 n+18446744073709551616-(msS wl x vs n).2.1-(msS wl x vs n).2.2)%18446744073709551616=z at *;generalize val ((msS wl x vs n).1.set n z)=V' at *;rw [Nat.mul_add] at a
 by_cases hlt:nth (msS wl x vs n).1 n<(msS wl x vs n).2.1+(msS wl x vs n).2.2
 ·rw [if_pos hlt, Nat.mul_one] at sl
  exfalso
  generalize 18446744073709551616^n=p at *;omega
 ·rw [if_neg hlt, Nat.mul_zero, Nat.add_zero] at sl;refine ⟨?_,if_neg hlt⟩;generalize 18446744073709551616^n=p at *;omega
theorem Ya (wl vs:List Nat)(x n:Nat)(h:Small wl)(hl:wl.length=n+1)(hv:vs.length=n)(hV:0<val vs)(hx:x=val wl/val vs+1)(hc:(msS wl x vs n).2.1<18446744073709551616) :
 val ((msS wl x vs n).1.set n ((nth (msS wl x vs n).1 n+18446744073709551616-(msS wl x vs n).2.1-(msS wl x vs n).2.2)%18446744073709551616))+val vs=val wl%val vs+18446744073709551616^n*18446744073709551616 ∧
 (if nth (msS wl x vs n).1 n<(msS wl x vs n).2.1+(msS wl x vs n).2.2 then 1 else 0)=1:=by
 have a:=Up wl x vs h n (by omega);rw [List.take_of_length_le (by omega)] at a;have b:=Gi (msS wl x vs n).1 n ((nth (msS wl x vs n).1 n+18446744073709551616-(msS wl x vs n).2.1-(msS wl x vs n).2.2)%18446744073709551616) (by rw [He];omega);have sl:=Qz (18446744073709551616^n) (nth (msS wl x vs n).1 n) (msS wl x vs n).2.1 (msS wl x vs n).2.2 (nth_lt (Ik wl x vs h n) n) hc (Ko wl x vs n);have dm:=Nat.div_add_mod (val wl) (val vs);have ml:=Nat.mod_lt (val wl) hV;rw [hx,Nat.add_mul,Nat.one_mul,←hx,Nat.mul_comm (val wl/val vs)] at a;generalize (nth (msS wl x vs n).1 n+18446744073709551616-(msS wl x vs n).2.1-(msS wl x vs n).2.2)%18446744073709551616=z at *
 generalize val ((msS wl x vs n).1.set n z)=V' at *;rw [Nat.mul_add] at a
 by_cases hlt:nth (msS wl x vs n).1 n<(msS wl x vs n).2.1+(msS wl x vs n).2.2
 ·rw [if_pos hlt, Nat.mul_one] at sl;refine ⟨?_,if_pos hlt⟩;generalize 18446744073709551616^n=p at *;omega
 ·rw [if_neg hlt, Nat.mul_zero, Nat.add_zero] at sl
  exfalso
  generalize 18446744073709551616^n=p at *;omega
theorem Xg (w2 vs:List Nat)(n r:Nat)(h:Small w2)(h':Small vs)(hl:w2.length=n+1)(hv:vs.length=n)(_hr:r<val vs)(he:val w2+val vs=r+18446744073709551616^n*18446744073709551616) :
 val ((Du w2 vs n).1.set n ((nth (Du w2 vs n).1 n+(Du w2 vs n).2)%18446744073709551616))=r:=by
 have a:=Uz w2 vs n hl hv;have b:=Gi (Du w2 vs n).1 n ((nth (Du w2 vs n).1 n+(Du w2 vs n).2)%18446744073709551616) (by rw [Fp];omega);have sm:=Dn (Gk w2 vs h n) n ((nth (Du w2 vs n).1 n+(Du w2 vs n).2)%18446744073709551616) (Nat.mod_lt _ (by decide));have lt:=Em _ sm;have ltv:=Em vs h';rw [hv] at ltv;rw [List.length_set,Fp,hl,Nat.pow_succ] at lt;generalize hT:nth (Du w2 vs n).1 n+(Du w2 vs n).2=T at *;generalize val ((Du w2 vs n).1.set n (T%18446744073709551616))=V' at *;have e:18446744073709551616^n*T=18446744073709551616^n*18446744073709551616*(T/18446744073709551616)+18446744073709551616^n*(T%18446744073709551616):=by
  rw [Nat.mul_assoc,←Nat.mul_add,Nat.div_add_mod]
 rw [←hT,Nat.mul_add,hT] at e;have ht:T/18446744073709551616≤1:=by
  have:=nth_lt (Gk w2 vs h n) n;have:=Kj w2 vs h h' n;omega
 generalize 18446744073709551616^n=p at *;generalize T/18446744073709551616=q at *;have hq:q=0∨q=1:=by omega
 rcases hq with rfl | rfl
 ·rw [Nat.mul_zero] at e;omega
 ·rw [Nat.mul_one] at e;omega
end Go.Proofs.YtabjjdicffcolaaGreatDoor
namespace Go.Proofs.YtabjjdicffcolaaGreatDoor
structure DigIn (wl vs:List Nat) (n:Nat):Prop where
 n2:2≤n
 wlen:wl.length=n+1
 vlen:vs.length=n
 ws:Small wl
 vsm:Small vs
 top:9223372036854775808≤nth vs (n-1)
 lt:val wl<val vs*18446744073709551616
def Uu (wl:List Nat) (n:Nat):Nat:=(nth wl n*18446744073709551616+nth wl (n-1))*18446744073709551616+nth wl (n-2)
def Qm (vs:List Nat) (n:Nat):Nat:=nth vs (n-1)*18446744073709551616+nth vs (n-2)
theorem DigIn.U {wl vs:List Nat}{n:Nat}(h:DigIn wl vs n):val wl=Uu wl n*18446744073709551616^(n-2)+val (wl.take (n-2)):=by
 have h2:=h.n2;have e:=List.take_of_length_le (Nat.le_of_eq h.wlen);have a:=Bu wl n (by rw [h.wlen];omega);have b:=Bu wl (n-1) (by rw [h.wlen];omega);have c:=Bu wl (n-2) (by rw [h.wlen];omega);rw [show n-1+1=n by omega] at b;rw [show n-2+1=n-1 by omega] at c;rw [e] at a;rw [a,b,c];have p1:18446744073709551616^n=18446744073709551616^(n-2)*18446744073709551616*18446744073709551616:=by
  rw [Nat.mul_assoc,←Nat.pow_two,←Nat.pow_add];congr 1;omega
 have p2:18446744073709551616^(n-1)=18446744073709551616^(n-2)*18446744073709551616:=by
  rw [←Nat.pow_succ];congr 1;omega
 rw [p1,p2];unfold Uu;generalize 18446744073709551616^(n-2)=P;generalize nth wl n=x;generalize nth wl (n-1)=y;generalize nth wl (n-2)=z;have e1:P*18446744073709551616*18446744073709551616*x=x*18446744073709551616*18446744073709551616*P:=by
  rw [Nat.mul_comm _ x,←Nat.mul_assoc,←Nat.mul_assoc,Nat.mul_right_comm x P,Nat.mul_right_comm (x*18446744073709551616) P]
 have e2:P*18446744073709551616*y=y*18446744073709551616*P:=by
  rw [Nat.mul_comm _ y,←Nat.mul_assoc,Nat.mul_right_comm y P]
 rw [e1,e2,Nat.mul_comm P z,Nat.add_mul,Nat.add_mul,Nat.add_mul];omega
theorem DigIn.V {wl vs:List Nat}{n:Nat}(h:DigIn wl vs n):val vs=Qm vs n*18446744073709551616^(n-2)+val (vs.take (n-2)):=by
 have h2:=h.n2;have e:=List.take_of_length_le (Nat.le_of_eq h.vlen);have b:=Bu vs (n-1) (by rw [h.vlen];omega);have c:=Bu vs (n-2) (by rw [h.vlen];omega);rw [show n-1+1=n by omega,e] at b;rw [show n-2+1=n-1 by omega] at c;rw [b,c];have p2:18446744073709551616^(n-1)=18446744073709551616^(n-2)*18446744073709551616:=by
  rw [←Nat.pow_succ];congr 1;omega
 rw [p2];unfold Qm;generalize 18446744073709551616^(n-2)=P;generalize nth vs (n-1)=y;generalize nth vs (n-2)=z;have e2:P*18446744073709551616*y=y*18446744073709551616*P:=by
  rw [Nat.mul_comm _ y,←Nat.mul_assoc,Nat.mul_right_comm y P]
 rw [e2,Nat.mul_comm P z,Nat.add_mul];omega
theorem DigIn.ulow {wl vs:List Nat}{n:Nat}(h:DigIn wl vs n):val (wl.take (n-2))<18446744073709551616^(n-2):=by
 have:=Em _ (Dq h.ws (n-2))
 rwa [List.length_take,Nat.min_eq_left (by rw [h.wlen];omega)] at this
theorem DigIn.vlow {wl vs:List Nat}{n:Nat}(h:DigIn wl vs n):val (vs.take (n-2))<18446744073709551616^(n-2):=by
 have:=Em _ (Dq h.vsm (n-2))
 rwa [List.length_take,Nat.min_eq_left (by rw [h.vlen];omega)] at this
theorem DigIn.v2pos {wl vs:List Nat}{n:Nat}(h:DigIn wl vs n):18446744073709551616≤Qm vs n:=by
 have:=h.top;unfold Qm;omega
theorem DigIn.vpos {wl vs:List Nat}{n:Nat}(h:DigIn wl vs n):0<val vs:=by
 have a:=h.V;have b:=Nat.mul_pos (show 0<Qm vs n by have:=h.v2pos;omega) (Nat.pow_pos (n:=n-2) (show 0<18446744073709551616 by decide));omega
theorem Aeh (M N A Q T P v':Nat)(h1:M≤N)(h2:M=A+Q*18446744073709551616)(h3:T+P≤Q)(h4:v'<P)(h5:N<A+T*18446744073709551616+v'*18446744073709551616):False:=by omega
theorem DigIn.tops {wl vs:List Nat}{n:Nat}(h:DigIn wl vs n):nth wl n≤nth vs (n-1):=by
 have a:=h.U;have b:=h.V;have c:=h.lt;have d:=h.vlow;have v2:=nth_lt h.vsm (n-2);rw [a,b] at c;unfold Uu Qm at c;generalize 18446744073709551616^(n-2)=P at *;generalize val (wl.take (n-2))=u' at *;generalize val (vs.take (n-2))=v' at *;generalize nth wl n=x at *;generalize nth wl (n-1)=y at *;generalize nth wl (n-2)=z at *;generalize nth vs (n-1)=s at *;generalize nth vs (n-2)=t at *
 by_cases hle:x≤s
 ·exact hle
 ·exfalso
  have e1:((s+1)*18446744073709551616*18446744073709551616)*P≤((x*18446744073709551616+y)*18446744073709551616+z)*P:=Nat.mul_le_mul_right _ (by omega);have e2:(t+1)*P≤18446744073709551616*P:=Nat.mul_le_mul_right _ v2;have e3:((s*18446744073709551616+t)*P+v')*18446744073709551616=s*18446744073709551616*18446744073709551616*P+t*P*18446744073709551616+v'*18446744073709551616:=by
   rw [Nat.add_mul,Nat.add_mul (s*18446744073709551616),Nat.add_mul,Nat.mul_right_comm (s*18446744073709551616) P]
  have e4:(s+1)*18446744073709551616*18446744073709551616*P=s*18446744073709551616*18446744073709551616*P+18446744073709551616*P*18446744073709551616:=by
   rw [Nat.add_mul,Nat.add_mul,Nat.add_mul,Nat.one_mul,Nat.mul_right_comm 18446744073709551616 18446744073709551616 P]
  rw [Nat.add_mul,Nat.one_mul] at e2;rw [e3] at c;exact Aeh _ _ _ _ _ _ _ e1 e4 e2 d (Nat.lt_of_le_of_lt (Nat.le_add_right _ _) c)
theorem DigIn.qlt {wl vs:List Nat}{n:Nat}(h:DigIn wl vs n):val wl/val vs<18446744073709551616:=by
 rw [Nat.div_lt_iff_lt_mul h.vpos,Nat.mul_comm];exact h.lt
structure DigInv (wl vs:List Nat) (n x r:Nat):Prop where
 g:Zm (Uu wl n) (Qm vs n) (nth vs (n-1)) (nth vs (n-2)) (nth wl (n-2)) x r
 ge:val wl/val vs≤x
 lt:x<18446744073709551616
theorem Abi (T s z:Nat):T*18446744073709551616+z=T/s*(s*18446744073709551616)+T%s*18446744073709551616+z:=by
 rw [←Nat.mul_assoc,←Nat.add_mul,Nat.mul_comm (T/s),Nat.div_add_mod]
theorem DigIn.start_lt {wl vs:List Nat}{n:Nat}(h:DigIn wl vs n)(hlt:nth wl n<nth vs (n-1)) :
 DigInv wl vs n ((nth wl n*18446744073709551616+nth wl (n-1))/nth vs (n-1)) ((nth wl n*18446744073709551616+nth wl (n-1))%nth vs (n-1)):=by
 have ht:=h.top;refine ⟨⟨?_,rfl⟩,?_,Mt _ _ _ hlt (nth_lt h.ws _)⟩
 ·exact Abi _ _ _
 ·have := Vk (nth wl n * 18446744073709551616 + nth wl (n - 1)) (nth wl (n - 2)) (nth vs (n - 1)) (nth vs (n - 2)) (18446744073709551616 ^ (n - 2)) (val (wl.take (n - 2))) (val (vs.take (n - 2))) (nth_lt h.ws _) h.ulow (by omega);rw [h.U,h.V];exact this
theorem DigIn.start_eq {wl vs:List Nat}{n:Nat}(h:DigIn wl vs n)(he:¬nth wl n<nth vs (n-1)) :
 DigInv wl vs n 18446744073709551615 (nth wl (n-1)+nth vs (n-1)):=by
 have ht:=h.tops;have e:nth wl n=nth vs (n-1):=by omega
 refine ⟨⟨?_,rfl⟩,?_,by decide⟩
 ·unfold Uu;rw [e];omega
 ·exact Nat.le_of_lt_succ h.qlt
theorem DigInv.less {wl vs:List Nat}{n x r:Nat}(h:DigInv wl vs n x r)(hi:DigIn wl vs n)(hc:r*18446744073709551616+nth wl (n-2)<x*nth vs (n-2)):1≤x∧DigInv wl vs n (x-1) (r+nth vs (n-1)):=by
 have hx:1≤x:=by
  by_cases e:x=0
  ·subst e;omega
  ·omega
 obtain ⟨a,b⟩:=Xs h.g hc;have v2:=hi.v2pos;refine ⟨hx,b,?_,by have:=h.lt;omega⟩;rw [hi.U,hi.V];exact W7 _ _ _ _ _ _ hi.ulow a (by omega)
theorem DigInv.done {wl vs:List Nat}{n x r:Nat}(h:DigInv wl vs n x r)(hi:DigIn wl vs n)(hc:x*nth vs (n-2)≤r*18446744073709551616+nth wl (n-2)∨18446744073709551616≤r):x=val wl/val vs∨x=val wl/val vs+1:=by
 have a:=Yf h.g h.lt (nth_lt hi.vsm _) hc;have b:=h.ge;rw [hi.U,hi.V] at b ⊢;exact Aal _ _ _ _ _ _ hi.ulow hi.vlow h.lt a hi.v2pos b
theorem Ae8 (p r u:Nat)(hu:u<18446744073709551616):p≤r*18446744073709551616+u↔(p/18446744073709551616<r∨p/18446744073709551616=r∧p%18446744073709551616≤u):=by
 omega
end Go.Proofs.YtabjjdicffcolaaGreatDoor
namespace Go.Proofs.YtabjjdicffcolaaGreatDoor
structure LongInv (N V:Nat) (n:Nat) (us qs:List Nat) (k:Nat):Prop where
 us_small:Small us
 qs_small:Small qs
 lens:us.length=qs.length+n
 low:val (us.drop k)<V
 sum:val qs*V+val us=N
 zero:∀ i,i<k→nth qs i=0
theorem LongInv.window {N V n:Nat}{us qs vs:List Nat}{j:Nat}(h:LongInv N V n us qs (j+1))(hj:j<qs.length)(hn:2≤n)(hV:V=val vs)(hvl:vs.length=n)(hvs:Small vs)(ht:9223372036854775808≤nth vs (n-1)) :
 DigIn ((us.drop j).take (n+1)) vs n∧val (us.drop (j+(n+1)))=0:=by
 have hl:=h.lens;have e:us.drop j=nth us j::us.drop (j+1):=Vq us j (by omega);have hlow:=h.low;have hx:=nth_lt h.us_small j;have hd:val (us.drop j)<V*18446744073709551616:=by
  rw [e,val];omega
 have hvlt:=Em vs hvs;rw [hvl,←hV] at hvlt;have sm:Small (us.drop j):=Iz h.us_small j;have ap:=Cp ((us.drop j).take (n+1)) ((us.drop j).drop (n+1));rw [List.take_append_drop,List.length_take,List.length_drop,Nat.min_eq_left (by omega),List.drop_drop] at ap;have hp:18446744073709551616^(n+1)=18446744073709551616^n*18446744073709551616:=Nat.pow_succ ..;have hz:val (us.drop (j+(n+1)))=0:=by
  by_cases hz:val (us.drop (j+(n+1)))=0
  ·exact hz
  ·exfalso
   have:18446744073709551616^(n+1)*1≤18446744073709551616^(n+1)*val (us.drop (j+(n+1))):=Nat.mul_le_mul_left _ (by omega);rw [hp] at this ap;generalize 18446744073709551616^n=P at *;generalize P*18446744073709551616*val (us.drop (j+(n+1)))=T at *;omega
 refine ⟨⟨hn,?_,hvl,Dq sm _,hvs,ht,?_⟩,hz⟩
 ·rw [List.length_take,List.length_drop];omega
 ·rw [← hV];rw [hz,Nat.mul_zero,Nat.add_zero] at ap;rw [←ap];exact hd
theorem Pb (us:List Nat)(j m:Nat):us=us.take j++((us.drop j).take m++us.drop (j+m)):=by
 rw [←List.drop_drop,List.take_append_drop,List.take_append_drop]
theorem LongInv.next {N V n:Nat}{us qs vs wl':List Nat}{j:Nat}(h:LongInv N V n us qs (j+1))(hj:j<qs.length)(hV:V=val vs)(hz:val (us.drop (j+(n+1)))=0)
 (hq:val ((us.drop j).take (n+1))/val vs<18446744073709551616) (hV0:0<val vs) (hl':wl'.length=((us.drop j).take (n+1)).length) (hs':Small wl') (hv':val wl'=val ((us.drop j).take (n+1))%val vs) :
 LongInv N V n (us.take j++(wl'++us.drop (j+(n+1)))) (qs.set j (val ((us.drop j).take (n+1))/val vs)) j:=by
 have hl:=h.lens;have ht:(us.take j).length=j:=by rw [List.length_take];omega
 have e:=Pb us j (n+1);have lw:((us.drop j).take (n+1)).length=n+1:=by rw [List.length_take,List.length_drop];omega
 refine ⟨?_,Dn h.qs_small _ _ hq,?_,?_,?_,?_⟩
 ·intro x hx
  rcases List.mem_append.1 hx with hx | hx
  ·exact Dq h.us_small j x hx
  ·rcases List.mem_append.1 hx with hx | hx
   ·exact hs' x hx
   ·exact Iz h.us_small _ x hx
 ·rw [List.length_set,List.length_append,List.length_append,hl',lw,List.length_drop,ht];omega
 ·rw [List.drop_append_of_le_length (by omega), List.drop_of_length_le (by omega), List.nil_append, Cp, hz, Nat.mul_zero, Nat.add_zero, hv', hV];exact Nat.mod_lt _ hV0
 ·have v := Gi      qs j (val ((us.drop j).take (n + 1)) / val vs) hj;rw [h.zero j (by omega),Nat.mul_zero,Nat.add_zero] at v;have s:=h.sum;have u1:val us=val (us.take j)+18446744073709551616^j*(val ((us.drop j).take (n+1))+18446744073709551616^(n+1)*val (us.drop (j+(n+1)))):=by
   conv=>lhs;rw [e]
   rw [Cp,Cp,ht,lw]
  have u2:val (us.take j++(wl'++us.drop (j+(n+1))))=val (us.take j)+18446744073709551616^j*(val wl'+18446744073709551616^(n+1)*val (us.drop (j+(n+1)))):=by
   rw [Cp,Cp,ht,hl',lw]
  rw [hz,Nat.mul_zero,Nat.add_zero (val ((us.drop j).take (n+1)))] at u1;rw [hz,Nat.mul_zero,Nat.add_zero (val wl')] at u2;rw [v,u2,hv',Nat.add_mul,hV];rw [u1,hV] at s;have dm:=Nat.div_add_mod (val ((us.drop j).take (n+1))) (val vs);generalize val ((us.drop j).take (n+1))/val vs=q at *;generalize val ((us.drop j).take (n+1))%val vs=r at *;generalize val ((us.drop j).take (n+1))=W at *;generalize 18446744073709551616^j=P at *;have e3:P*q*val vs+P*r=P*W:=by rw [Nat.mul_assoc,←Nat.mul_add,Nat.mul_comm q,dm]
  omega
 ·intro i hi;rw [Ij _ _ _ _ hj,if_neg (by omega)];exact h.zero i (by omega)
theorem LongInv.finish {N V n:Nat}{us qs:List Nat}(h:LongInv N V n us qs 0):val qs=N/V∧val us=N%V:=by
 have a:=h.low;have b:=h.sum;rw [List.drop_zero] at a;have hV:0<V:=by omega
 rw [←b,Nat.add_comm];exact ⟨by rw [Nat.add_mul_div_right _ _ hV,Nat.div_eq_of_lt a,Nat.zero_add],by rw [Nat.add_mul_mod_self_right,Nat.mod_eq_of_lt a]⟩
theorem Aai (us:List Nat)(h:Small us)(n:Nat)(hn:n≤us.length)(hV:val us<18446744073709551616^n):val (us.take n)=val us:=by
 have e:=Cp (us.take n) (us.drop n);rw [List.take_append_drop,List.length_take,Nat.min_eq_left hn] at e;have:val (us.drop n)=0:=by
  rw [Qu us h n,Nat.div_eq_of_lt hV]
 rw [this,Nat.mul_zero,Nat.add_zero] at e;exact e.symm
theorem Zj (n:Nat)(k:Nat):val (limbs n++List.replicate k 0)=n:=by
 rw [Cp,Ga,Nat.mul_zero,Nat.add_zero,Bq]
theorem Te (n k:Nat):Small (limbs n++List.replicate k 0):=by
 intro x hx
 rcases List.mem_append.1 hx with hx | hx
 ·exact Dd n x hx
 ·exact D7 k x hx
theorem Cu (n k:Nat)(h:n<18446744073709551616^k):(limbs n).length≤k:=by
 by_cases h0:n=0
 ·subst h0;rw [Av];exact Nat.zero_le _
 ·have a := F8            n h0
  by_cases hk:(limbs n).length≤k
  ·exact hk
  ·have : 18446744073709551616 ^ k ≤ 18446744073709551616 ^ ((limbs n).length - 1) := Nat.pow_le_pow_right (by decide) (by omega);omega
theorem Pi (n k:Nat)(h:18446744073709551616^k≤n):k<(limbs n).length:=by
 have a:=Cc n
 by_cases hk:k<(limbs n).length
 ·exact hk
 ·have : 18446744073709551616 ^ (limbs n).length ≤ 18446744073709551616 ^ k := Nat.pow_le_pow_right (by decide) (by omega);omega
theorem Tz (m:Nat)(h:m≠0):m*2^(64-bl (nth (limbs m) ((limbs m).length-1)))<18446744073709551616^(limbs m).length ∧
 18446744073709551616^((limbs m).length-1)*9223372036854775808≤m*2^(64-bl (nth (limbs m) ((limbs m).length-1))):=by
 have ht:=P9 m h;have hp:=Bg m h;have hb:=N1 _ (nth_lt (Dd m) ((limbs m).length-1));have hb0:=Ct _ (I9 m h);have a:=Cv m h;have b:=Bl m;rw [ht] at a b;generalize bl (nth (limbs m) ((limbs m).length-1))=t at *;generalize (limbs m).length=l at *;obtain ⟨i,rfl⟩:∃ i,l=i+1:=⟨l-1,by omega⟩;rw [Nat.add_sub_cancel] at *;have p:∀ q,(18446744073709551616:Nat)^q=2^(64*q):=fun q=>by rw [Nat.pow_mul]
 constructor
 ·have := Nat.mul_lt_mul_of_pos_right b (Nat.pow_pos (n := 64 - t) (show 0 < 2 by decide));rw [←Nat.pow_add,show 64*i+t+(64-t)=64*(i+1) by omega,←p] at this;exact this
 ·have := Nat.mul_le_mul_right (2 ^ (64 - t)) a;rw [←Nat.pow_add,show 64*i+t-1+(64-t)=64*i+63 by omega,Nat.pow_add,←p] at this;exact this
theorem Ad0 (vs:List Nat)(h:Small vs)(n:Nat)(hn:vs.length=n)(h0:0<n)(hv:18446744073709551616^(n-1)*9223372036854775808≤val vs):9223372036854775808≤nth vs (n-1):=by
 have e:=Bu vs (n-1) (by omega);rw [show n-1+1=n by omega,List.take_of_length_le (by omega)] at e;have b:=Em _ (Dq h (n-1));rw [List.length_take,Nat.min_eq_left (by omega)] at b;generalize 18446744073709551616^(n-1)=P at *;have:P*9223372036854775808<P*(nth vs (n-1)+1):=by rw [Nat.mul_add];omega
 have:=Nat.lt_of_mul_lt_mul_left this;omega
theorem LongInv.start (n m s:Nat)(us vs:List Nat)(l d:Nat)(hs:Small us)(hl:us.length=l+2+d+1)(hv:val us=n*2^s)(hm:m≠0)(hml:(limbs m).length=l+2)(hn:(limbs n).length=l+2+d)(hV:val vs=m*2^s) :
 LongInv (n*2^s) (val vs) (l+2) us (List.replicate (d+1) 0) (d+1):=by
 refine ⟨hs,D7 _,by rw [hl,List.length_replicate];omega,?_,by rw [Ga,Nat.zero_mul,Nat.zero_add,hv],fun i _=>Fa _ i⟩;rw [Qu us hs,hv,hV,Nat.div_lt_iff_lt_mul (Nat.pow_pos (by decide))];have a:=Cc n;have b:=F8 m hm;rw [hn] at a;rw [hml,show l+2-1=l+1 by omega] at b;have c:18446744073709551616^(l+2+d)=18446744073709551616^(l+1)*18446744073709551616^(d+1):=by rw [←Nat.pow_add];congr 1;omega
 rw [c] at a;have e:=Nat.mul_lt_mul_of_pos_right a (Nat.pow_pos (n:=s) (show 0<2 by decide));refine Nat.lt_of_lt_of_le e ?_;rw [Nat.mul_right_comm];exact Nat.mul_le_mul_right _ (Nat.mul_le_mul_right _ b)
end Go.Proofs.YtabjjdicffcolaaGreatDoor
namespace Go.Proofs.YtabjjdicffcolaaGreatDoor
def F5 (a b:Dy):Int :=
 if (bl a.m:Int)+a.e<bl b.m+b.e then -1 else if (bl b.m:Int)+b.e<bl a.m+a.e then 1
 else Dm (a.m*2^(a.e-min a.e b.e).toNat) (b.m*2^(b.e-min a.e b.e).toNat)
theorem Ts {m:Nat}(h:m≠0)(e:Int):pw (bl m+e-1)≤(m:Rat)*pw e∧(m:Rat)*pw e<pw (bl m+e):=by
 have h1:=Cv m h;have h2:=Bl m;have h3:=Ct m h;constructor
 ·have e1 : pw (bl m + e - 1) = ((2 ^ (bl m - 1) : Nat) : Rat) * pw e := by
   rw [←Ia,←Ez];congr 1;omega
  rw [e1,Gp,Cq];exact h1
 ·have e1 : pw (bl m + e) = ((2 ^ bl m : Nat) : Rat) * pw e := by
   rw [←Ia,←Ez]
  rw [e1,Ti,Cx];exact h2
theorem My {x y:Rat}(h:x<y):Cj x y=-1:=by unfold Cj;rw [if_pos h]
theorem M9 {x y:Rat}(h:y<x):Cj x y=1:=by unfold Cj;rw [if_neg (by grind),if_neg (by grind)]
theorem Yv {a b:Dy}(ha:a.m≠0)(hb:b.m≠0):F5 a b=Cj ((a.m:Rat)*pw a.e) ((b.m:Rat)*pw b.e):=by
 obtain ⟨a1,a2⟩:=Ts ha a.e;obtain ⟨b1,b2⟩:=Ts hb b.e;unfold F5
 by_cases h1:(bl a.m:Int)+a.e<bl b.m+b.e
 ·rw [if_pos h1, My        ];have:=Fw      (show (bl a.m:Int)+a.e≤bl b.m+b.e-1 by omega)
  grind
 ·rw [if_neg h1]
  by_cases h2:(bl b.m:Int)+b.e<bl a.m+a.e
  ·rw [if_pos h2, M9        ];have:=Fw      (show (bl b.m:Int)+b.e≤bl a.m+a.e-1 by omega)
   grind
  ·rw [if_neg h2];exact (Aev a.m b.m (Int.min_le_left _ _) (Int.min_le_right _ _)).symm
def sg (d:Dy):Int:=if d.m=0 then 0 else if d.neg then -1 else 1
theorem X7 {d:Dy}(h:sg d=1):0<d.q∧d.q=(d.m:Rat)*pw d.e∧d.m≠0:=by
 unfold sg at h
 by_cases h0:d.m=0
 ·rw [if_pos h0] at h;exact absurd h (by decide)
 ·rw [if_neg h0] at h;unfold Dy.q sq;cases hn:d.neg
  ·simp only [Bool.false_eq_true,if_false];exact ⟨Zu h0 _,trivial,h0⟩
  ·rw [hn] at h;exact absurd h (by decide)
theorem Rf {d:Dy}(h:sg d=-1):d.q<0∧d.q=-((d.m:Rat)*pw d.e)∧d.m≠0:=by
 unfold sg at h
 by_cases h0:d.m=0
 ·rw [if_pos h0] at h;exact absurd h (by decide)
 ·rw [if_neg h0] at h;unfold Dy.q sq;cases hn:d.neg
  ·rw [hn] at h;exact absurd h (by decide)
  ·simp only [if_true, Rat.neg_mul];have:=Zu h0 d.e;exact ⟨by grind,trivial,h0⟩
theorem Tv {d:Dy}(h:sg d=0):d.q=0:=by
 unfold sg at h
 by_cases h0:d.m=0
 ·exact Mw h0
 ·rw [if_neg h0] at h;split at h<;>exact absurd h (by decide)
theorem Hs (d:Dy):sg d=-1∨sg d=0∨sg d=1:=by
 unfold sg;split
 ·exact .inr (.inl rfl)
 ·split
  ·exact .inl rfl
  ·exact .inr (.inr rfl)
theorem Acs (d:Dy):sg d=Cj d.q 0:=by
 rcases Hs d with h | h | h
 ·rw [h,My (Rf h).1]
 ·rw [h,Tv h,Sj]
 ·rw [h,M9 (X7 h).1]
theorem Xn {a b:Dy}(h:sg a<sg b):Cj a.q b.q=-1:=by
 apply My
 rw [Acs,Acs] at h;have h1:=@Pp a.q 0;have h2:=@Zz b.q 0;have h3:=@Kh a.q 0;have h4:=@Pu b.q 0
 rcases Hs a with ha | ha | ha<;>rcases Hs b with hb | hb | hb<;>rw [Acs] at ha hb<;>rw [ha,hb] at h<;>first | (exact absurd h (by decide)) | skip
 all_goals (rw [ha] at h1 h3;rw [hb] at h2 h4;simp at h1 h2 h3 h4;grind)
theorem Aeo {a b:Dy}(h:sg b<sg a):Cj a.q b.q=1:=by
 have h1:=Xn h;have h2:=Vf b.q a.q;have h3:=@Pp b.q a.q;rw [h1] at h3;exact M9 (h3.1 (by decide))
theorem Ux {a b:Dy}(h:sg a=sg b):Cj a.q b.q=if sg a=0 then 0 else sg a*F5 a b:=by
 rcases Hs a with ha | ha | ha
 ·rw [ha, if_neg (by decide)];obtain ⟨_,a1,a2⟩:=Rf ha;obtain ⟨_,b1,b2⟩:=Rf (h▸ha);rw [a1,b1,Vf,Yv a2 b2];omega
 ·rw [ha,if_pos rfl,Tv ha,Tv (h▸ha),Sj]
 ·rw [ha, if_neg (by decide)];obtain ⟨_,a1,a2⟩:=X7 ha;obtain ⟨_,b1,b2⟩:=X7 (h▸ha);rw [a1,b1,Yv a2 b2];omega
structure Iv where
 lo:Dy
 hi:Dy
def iz:Iv:=⟨dz,dz⟩
structure RawI where
 lo:Raw
 hi:Raw
def Iv.raw (a:Iv):RawI:=⟨a.lo.raw,a.hi.raw⟩
structure Iv.Ok (a:Iv):Prop where
 lo:a.lo.Ok
 hi:a.hi.Ok
 le:a.lo.q≤a.hi.q
def Fz (a:RawI):Bool:=Fc a.lo&&Fc a.hi&&decide (Cj a.lo.dy.q a.hi.dy.q≤0)
theorem E5 {a:Iv}(h:a.Ok):Fz a.raw=true:=by
 unfold Fz Iv.raw;simp only [h.lo.may,h.hi.may,Dy.raw_dy,Bool.true_and,decide_eq_true_eq];exact Kh.2 h.le
def Outc.bind {α β:Type} (o:Outc α) (z:β) (f:α→Outc β):Outc β:=if o.k=0 then f o.v else ⟨z,o.k⟩
theorem Outc.bind_ok {α β:Type}{o:Outc α}{z:β}{f:α→Outc β}(h:(o.bind z f).k=0):o.k=0∧o.bind z f=f o.v:=by
 unfold Outc.bind at *
 by_cases hk:o.k=0
 ·rw [if_pos hk] at h ⊢;exact ⟨hk,rfl⟩
 ·rw [if_neg hk] at h;exact absurd h hk
theorem Outc.bind_of {α β:Type}{o:Outc α}(z:β)(f:α→Outc β)(h:o.k=0):o.bind z f=f o.v:=by unfold Outc.bind;rw [if_pos h]
def G0 (lo hi:Outc Dy):Outc Iv:=lo.bind iz fun l=>hi.bind iz fun h=>⟨⟨l,h⟩,0⟩
def Sh (o:Outc Dy) (p:Nat) (up:Bool):Outc Dy:=o.bind dz fun d=>Dh d p up
def Mz (a b:Iv) (p:Nat):Outc Iv:=G0 (Sh (D5 a.lo b.lo) p false) (Sh (D5 a.hi b.hi) p true)
def N2 (a b:Iv) (p:Nat):Outc Iv:=G0 (Sh (D5 a.lo (Ea b.hi)) p false) (Sh (D5 a.hi (Ea b.lo)) p true)
def N8 (a:Iv) (p:Nat):Outc Iv:=G0 (Dh (Ea a.hi) p false) (Dh (Ea a.lo) p true)
def Ci (d:Dy):List Dy→Dy
 | []=>d
 | x::l=>Ci (if Cj x.q d.q<0 then x else d) l
def Bm (d:Dy):List Dy→Dy
 | []=>d
 | x::l=>Bm (if 0<Cj x.q d.q then x else d) l
def Gt (a b c d:Outc Dy) (f:Dy→Dy→Dy→Dy→Outc Iv):Outc Iv :=
 a.bind iz fun x=>b.bind iz fun y=>c.bind iz fun z=>d.bind iz fun u=>f x y z u
def Nz (a b:Iv) (p:Nat):Outc Iv :=
 Gt (Cw a.lo b.lo) (Cw a.lo b.hi) (Cw a.hi b.lo) (Cw a.hi b.hi) fun x y z u =>
  G0 (Dh (Ci x [x,y,z,u]) p false) (Dh (Bm x [x,y,z,u]) p true)
def Ed (b:Iv):Bool:=decide (Cj b.lo.q 0≤0)&&decide (Cj 0 b.hi.q≤0)
def Kq (a b:Iv) (p:Nat):Outc Iv :=
 if Ed b then ⟨iz,4⟩ else
 Gt (Bt a.lo b.lo p false) (Bt a.lo b.hi p false) (Bt a.hi b.lo p false) (Bt a.hi b.hi p false) fun x y z u =>
 Gt (Bt a.lo b.lo p true) (Bt a.lo b.hi p true) (Bt a.hi b.lo p true) (Bt a.hi b.hi p true) fun x' y' z' u' =>
  ⟨⟨Ci x [x,y,z,u],Bm x' [x',y',z',u']⟩,0⟩
def Nr (a:Iv) (p:Nat):Outc Iv :=
 (Cw a.lo a.lo).bind iz fun x=>(Cw a.hi a.hi).bind iz fun y =>
   G0 (Dh (if Ed a then dz else Ci x [x,y]) p false) (Dh (Bm x [x,y]) p true)
def Hw (a:Iv) (p:Nat):Outc Iv :=
 if sg a.lo<0 then ⟨iz,4⟩ else G0 (Hr a.lo p false) (Hr a.hi p true)
end Go.Proofs.YtabjjdicffcolaaGreatDoor
namespace Go.Proofs.YtabjjdicffcolaaGreatDoor
theorem St (l:List Dy):∀ d:Dy,(Ci d l).q≤d.q∧∀ x∈l,(Ci d l).q≤x.q:=by
 induction l with
 | nil=>intro d;exact ⟨Rat.le_refl,fun x hx=>by cases hx⟩
 | cons y l ih =>
   intro d;unfold Ci;obtain ⟨h1,h2⟩:=ih (if Cj y.q d.q<0 then y else d);have hc:=@Pp y.q d.q;have h3:(if Cj y.q d.q<0 then y else d).q≤d.q∧(if Cj y.q d.q<0 then y else d).q≤y.q:=by
    by_cases h:Cj y.q d.q<0
    ·rw [if_pos h];have:=hc.1 h;constructor<;>grind
    ·rw [if_neg h];have:¬y.q<d.q:=fun hh=>h (hc.2 hh);constructor<;>grind
   refine ⟨by grind,fun x hx=>?_⟩
   rcases List.mem_cons.1 hx with rfl | hx
   ·grind
   ·exact h2 x hx
theorem Ye (l:List Dy):∀ d:Dy,Ci d l=d∨Ci d l∈l:=by
 induction l with
 | nil=>intro d;exact .inl rfl
 | cons y l ih =>
   intro d;unfold Ci
   rcases ih (if Cj y.q d.q<0 then y else d) with h | h
   ·rw [h]
    split
    ·exact .inr (List.mem_cons_self ..)
    ·exact .inl rfl
   ·exact .inr (List.mem_cons_of_mem _ h)
theorem Ns (l:List Dy):∀ d:Dy,d.q≤(Bm d l).q∧∀ x∈l,x.q≤(Bm d l).q:=by
 induction l with
 | nil=>intro d;exact ⟨Rat.le_refl,fun x hx=>by cases hx⟩
 | cons y l ih =>
   intro d;unfold Bm;obtain ⟨h1,h2⟩:=ih (if 0<Cj y.q d.q then y else d);have hc:=@Zz y.q d.q;have h3:d.q≤(if 0<Cj y.q d.q then y else d).q∧y.q≤(if 0<Cj y.q d.q then y else d).q:=by
    by_cases h:0<Cj y.q d.q
    ·rw [if_pos h];have:=hc.1 h;constructor<;>grind
    ·rw [if_neg h];have:¬d.q<y.q:=fun hh=>h (hc.2 hh);constructor<;>grind
   refine ⟨by grind,fun x hx=>?_⟩
   rcases List.mem_cons.1 hx with rfl | hx
   ·grind
   ·exact h2 x hx
theorem Sa (l:List Dy):∀ d:Dy,Bm d l=d∨Bm d l∈l:=by
 induction l with
 | nil=>intro d;exact .inl rfl
 | cons y l ih =>
   intro d;unfold Bm
   rcases ih (if 0<Cj y.q d.q then y else d) with h | h
   ·rw [h]
    split
    ·exact .inr (List.mem_cons_self ..)
    ·exact .inl rfl
   ·exact .inr (List.mem_cons_of_mem _ h)
theorem Ou {d:Dy}{l:List Dy}(hd:d.Ok)(hl:∀ x∈l,Dy.Ok x):(Ci d l).Ok:=by
 rcases Ye l d with h | h
 ·rw [h];exact hd
 ·exact hl _ h
theorem Kx {d:Dy}{l:List Dy}(hd:d.Ok)(hl:∀ x∈l,Dy.Ok x):(Bm d l).Ok:=by
 rcases Sa l d with h | h
 ·rw [h];exact hd
 ·exact hl _ h
theorem Ab8 {x y z u:Dy}:(Ci x [x,y,z,u]).q≤x.q∧(Ci x [x,y,z,u]).q≤y.q∧(Ci x [x,y,z,u]).q≤z.q∧(Ci x [x,y,z,u]).q≤u.q:=by
 obtain ⟨a,b⟩:=St [x,y,z,u] x;exact ⟨a,b y (by simp),b z (by simp),b u (by simp)⟩
theorem S8 {x y z u:Dy}:x.q≤(Bm x [x,y,z,u]).q∧y.q≤(Bm x [x,y,z,u]).q∧z.q≤(Bm x [x,y,z,u]).q∧u.q≤(Bm x [x,y,z,u]).q:=by
 obtain ⟨a,b⟩:=Ns [x,y,z,u] x;exact ⟨a,b y (by simp),b z (by simp),b u (by simp)⟩
theorem Ai7 {x y:Dy}:(Ci x [x,y]).q≤x.q∧(Ci x [x,y]).q≤y.q:=by
 obtain ⟨a,b⟩:=St [x,y] x;exact ⟨a,b y (by simp)⟩
theorem Aaw {x y:Dy}:x.q≤(Bm x [x,y]).q∧y.q≤(Bm x [x,y]).q:=by
 obtain ⟨a,b⟩:=Ns [x,y] x;exact ⟨a,b y (by simp)⟩
theorem Jt {d:Dy}{p:Nat}(hp:1≤p)(hk:(Dh d p false).k=0):IsDown p d.q (Dh d p false).v.q:=Rt hp hk
theorem Nk {d:Dy}{p:Nat}(hp:1≤p)(hk:(Dh d p true).k=0):IsUp p d.q (Dh d p true).v.q:=Rt hp hk
theorem Vi {o:Outc Dy}{p:Nat}{up:Bool}(hk:(Sh o p up).k=0):o.k=0∧Sh o p up=Dh o.v p up:=Outc.bind_ok hk
theorem Wi (b:Iv):Ed b=true↔b.lo.q≤0∧0≤b.hi.q:=by
 unfold Ed;simp only [Bool.and_eq_true,decide_eq_true_eq];rw [Kh,Kh]
end Go.Proofs.YtabjjdicffcolaaGreatDoor
namespace Go.Proofs.YtabjjdicffcolaaGreatDoor
def OkI (o:Outc Iv):Prop:=o.v.Ok∧(o.k≠0→o.v=iz)
theorem Abu:iz.Ok:=⟨Ky,Ky,Rat.le_refl⟩
theorem Hl (k:Int):OkI ⟨iz,k⟩:=⟨Abu,fun _=>rfl⟩
theorem J7 {lo hi:Outc Dy}(h1:lo.Ok)(h2:hi.Ok)(h:lo.k=0→hi.k=0→lo.v.q≤hi.v.q):OkI (G0 lo hi):=by
 unfold G0 Outc.bind
 by_cases k1:lo.k=0
 ·simp only [if_pos k1]
  by_cases k2:hi.k=0
  ·simp only [if_pos k2];exact ⟨⟨h1.1,h2.1,h k1 k2⟩,fun h=>absurd rfl h⟩
  ·simp only [if_neg k2];exact Hl _
 ·simp only [if_neg k1];exact Hl _
theorem Zd (o:Outc Dy)(p:Nat)(up:Bool):(Sh o p up).Ok:=by
 unfold Sh Outc.bind
 by_cases k1:o.k=0
 ·simp only [if_pos k1];exact Gw _ _ _
 ·simp only [if_neg k1];exact Lg _
theorem P5 {a b c d:Outc Dy}{f:Dy→Dy→Dy→Dy→Outc Iv}(h:a.k=0→b.k=0→c.k=0→d.k=0→OkI (f a.v b.v c.v d.v)):OkI (Gt a b c d f):=by
 unfold Gt Outc.bind
 by_cases k1:a.k=0
 ·simp only [if_pos k1]
  by_cases k2:b.k=0
  ·simp only [if_pos k2]
   by_cases k3:c.k=0
   ·simp only [if_pos k3]
    by_cases k4:d.k=0
    ·simp only [if_pos k4];exact h k1 k2 k3 k4
    ·simp only [if_neg k4];exact Hl _
   ·simp only [if_neg k3];exact Hl _
  ·simp only [if_neg k2];exact Hl _
 ·simp only [if_neg k1];exact Hl _
theorem Yn {a b:Iv}(ha:a.Ok)(hb:b.Ok){p:Nat}(hp:1≤p):OkI (Mz a b p):=by
 unfold Mz;refine J7 (Zd _ _ _) (Zd _ _ _) fun k1 k2=>?_
 obtain ⟨h4,h5⟩:=Vi k1;obtain ⟨h6,h7⟩:=Vi k2;rw [h5] at k1 ⊢;rw [h7] at k2 ⊢;have d1:=(Jt hp k1).le;have d2:=(Nk hp k2).le;rw [Xd h4] at d1;rw [Xd h6] at d2;have:=ha.le;have:=hb.le
 grind
theorem Ac3 {b:Iv}(hb:b.Ok):(Iv.mk (Ea b.hi) (Ea b.lo)).Ok :=
 ⟨Hm hb.hi,Hm hb.lo,by simp only [Ac9];have:=hb.le;grind⟩
theorem Ab9 (a b:Iv)(p:Nat):N2 a b p=Mz a ⟨Ea b.hi,Ea b.lo⟩ p:=rfl
theorem Afb {a b:Iv}(ha:a.Ok)(hb:b.Ok){p:Nat}(hp:1≤p):OkI (N2 a b p):=by
 rw [Ab9];exact Yn ha (Ac3 hb) hp
theorem Agp {a:Iv}(ha:a.Ok){p:Nat}(hp:1≤p):OkI (N8 a p):=by
 unfold N8;refine J7 (Gw _ _ _) (Gw _ _ _) fun k1 k2=>?_
 have d1:=(Jt hp k1).le;have d2:=(Nk hp k2).le;have:=(Ac3 ha).le;simp only at this
 grind
theorem Af7 {a b:Iv}{p:Nat}(hp:1≤p):OkI (Nz a b p):=by
 unfold Nz;refine P5 fun h1 h2 h3 h4=>J7 (Gw _ _ _) (Gw _ _ _) fun k1 k2=>?_
 have d1:=(Jt hp k1).le;have d2:=(Nk hp k2).le;have l:=(Ab8 (x:=(Cw a.lo b.lo).v) (y:=(Cw a.lo b.hi).v) (z:=(Cw a.hi b.lo).v) (u:=(Cw a.hi b.hi).v)).1;have g:=(S8 (x:=(Cw a.lo b.lo).v) (y:=(Cw a.lo b.hi).v) (z:=(Cw a.hi b.lo).v) (u:=(Cw a.hi b.hi).v)).1
 grind
theorem Qt {b:Iv}(hb:b.Ok)(h:¬Ed b=true):¬b.lo.m=0∧¬b.hi.m=0:=by
 have hz:=fun x=>h ((Wi b).2 x)
 have:=hb.le;constructor
 ·intro h0;have:=Mw h0;exact hz ⟨by grind,by grind⟩
 ·intro h0;have:=Mw h0;exact hz ⟨by grind,by grind⟩
theorem Xu {a b:Dy}{p:Nat}(hp:1≤p)(hb:¬b.m=0)(hk:(Bt a b p false).k=0):IsDown p (a.q/b.q) (Bt a b p false).v.q:=Ma hp hb hk
theorem Aby {a b:Dy}{p:Nat}(hp:1≤p)(hb:¬b.m=0)(hk:(Bt a b p true).k=0):IsUp p (a.q/b.q) (Bt a b p true).v.q:=Ma hp hb hk
theorem Ahj {a b:Iv}(hb:b.Ok){p:Nat}(hp:1≤p):OkI (Kq a b p):=by
 unfold Kq
 by_cases hz:Ed b=true
 ·rw [if_pos hz];exact Hl _
 ·rw [if_neg hz];obtain ⟨n1,n2⟩:=Qt         hb hz;refine P5       fun h1 h2 h3 h4=>P5       fun k1 k2 k3 k4=>⟨⟨?_,?_,?_⟩,fun h=>absurd rfl h⟩
  ·refine Ou        (Eo       _ _ _ _).1 fun x hx => ?_
   simp only [List.mem_cons,List.not_mem_nil,or_false] at hx
   rcases hx with rfl | rfl | rfl | rfl<;>exact (Eo _ _ _ _).1
  ·refine Kx           (Eo       _ _ _ _).1 fun x hx => ?_
   simp only [List.mem_cons,List.not_mem_nil,or_false] at hx
   rcases hx with rfl | rfl | rfl | rfl<;>exact (Eo _ _ _ _).1
  ·have d1 := (Xu         hp n1 h1).le;have d2:=(Aby      hp n1 k1).le;have l:=(Ab8    (x:=(Bt    a.lo b.lo p false).v) (y:=(Bt    a.lo b.hi p false).v) (z:=(Bt    a.hi b.lo p false).v) (u:=(Bt    a.hi b.hi p false).v)).1;have g:=(S8        (x:=(Bt    a.lo b.lo p true).v) (y:=(Bt    a.lo b.hi p true).v) (z:=(Bt    a.hi b.lo p true).v) (u:=(Bt    a.hi b.hi p true).v)).1
   show (Ci _ _).q≤(Bm _ _).q
   grind
theorem Agh {a:Iv}{p:Nat}(hp:1≤p):OkI (Nr a p):=by
 have sqn:∀ x:Rat,0≤x*x:=fun x=>by
  by_cases h:0≤x
  ·exact Rat.mul_nonneg h h
  ·have:=Rat.mul_nonneg (show 0≤-x by grind) (show 0≤-x by grind);grind
 unfold Nr Outc.bind
 by_cases h1:(Cw a.lo a.lo).k=0
 ·simp only [if_pos h1]
  by_cases h2:(Cw a.hi a.hi).k=0
  ·simp only [if_pos h2];refine J7       (Gw      _ _ _) (Gw      _ _ _) fun k1 k2=>?_
   have d1:=(Jt hp k1).le;have d2:=(Nk hp k2).le;have l:=(Ai7 (x:=(Cw a.lo a.lo).v) (y:=(Cw a.hi a.hi).v)).1;have g:=(Aaw (x:=(Cw a.lo a.lo).v) (y:=(Cw a.hi a.hi).v)).1;have q1:=Xh h1;have:=sqn a.lo.q;have hl:(if Ed a=true then dz else Ci (Cw a.lo a.lo).v [(Cw a.lo a.lo).v,(Cw a.hi a.hi).v]).q≤(Cw a.lo a.lo).v.q:=by
    split
    ·rw [Aaz];grind
    ·exact l
   grind
  ·simp only [if_neg h2];exact Hl _
 ·simp only [if_neg h1];exact Hl _
theorem Agn {x y d e:Rat}(hd:d*d≤x)(hxy:x≤y)(he:0≤e)(hy:y≤e*e):d≤e:=by
 by_cases h:d≤e
 ·exact h
 ·have := Abs   he (show e < d by grind)
  grind
theorem Abo {a:Iv}(ha:a.Ok)(h:¬sg a.lo<0):a.lo.neg=false∧a.hi.neg=false:=by
 rw [Acs] at h;have h0:0≤a.lo.q:=by
  have:=@Pp a.lo.q 0
  grind
 have h1:0≤a.hi.q:=by have:=ha.le;grind
 have key:∀ d:Dy,d.Ok→0≤d.q→d.neg=false:=by
  intro d hd hq
  by_cases hm:d.m=0
  ·exact (hd.zero hm).1
  ·cases hn : d.neg
   ·rfl
   ·have : sg d = -1 := by unfold sg; rw [if_neg hm, hn]; rfl
    have:=(Rf this).1
    grind
 exact ⟨key _ ha.lo h0,key _ ha.hi h1⟩
theorem Wx {d:Dy}{p:Nat}(hp:1≤p)(hn:d.neg=false)(hk:(Hr d p false).k=0):IsRootDown p d.q (Hr d p false).v.q:=Ss hp hn hk
theorem Acx {d:Dy}{p:Nat}(hp:1≤p)(hn:d.neg=false)(hk:(Hr d p true).k=0):IsRootUp p d.q (Hr d p true).v.q:=Ss hp hn hk
theorem Aey {a:Iv}(ha:a.Ok){p:Nat}(hp:1≤p):OkI (Hw a p):=by
 unfold Hw
 by_cases hs:sg a.lo<0
 ·rw [if_pos hs];exact Hl _
 ·rw [if_neg hs];obtain ⟨n1,n2⟩:=Abo       ha hs;refine J7       (Qb       _ _ _) (Qb       _ _ _) fun k1 k2=>?_
  have d1:=Wx hp n1 k1;have d2:=Acx hp n2 k2;exact Agn d1.le ha.le d2.nonneg d2.le
theorem IsDown.sign {p:Nat}{x d:Rat}(h:IsDown p x d)(hx:0≤x):0≤d:=h.best 0 (Fits.zero p) hx
theorem Sq {n k:Nat}(h:bl n≤64*k):(limbs n).length≤k:=by
 apply Cu
 have h1:=Bl n;have h2:2^bl n≤2^(64*k):=Nat.pow_le_pow_right (by decide) h;rw [Nat.pow_mul 2 64 k] at h2;exact Nat.lt_of_lt_of_le h1 h2
end Go.Proofs.YtabjjdicffcolaaGreatDoor
namespace Go.Proofs.YtabjjdicffcolaaGreatDoor
theorem Yt {n:Nat}(h:n%2=1):tz n=0:=Ip n 0 n h (by simp)
theorem Aar {d:Dy}(h:d.Ok):Ch d.neg d.m d.e=⟨d,0⟩:=by
 unfold Ch
 by_cases h0:d.m=0
 ·rw [if_pos h0];obtain ⟨a,b⟩:=h.zero h0;cases d with | mk n m e =>
   simp only at a b h0;subst a b h0
   rfl
 ·rw [if_neg h0, Yt      (h.odd h0)];have hl:=h.len;have h1:=h.lo;have h2:=h.hi;rw [if_neg (by simpa using hl),if_neg (by simp;omega),if_neg (by simp;omega)]
  simp [good]
structure Few (d:Dy) (b:Nat) (e:Int):Prop where
 ok:d.Ok
 bl:bl d.m≤b
 lo:-e≤d.e
 hi:d.e≤e
theorem Im {m n a b:Nat}(hm:bl m≤a)(hn:bl n≤b):bl (m*n)≤a+b:=by
 apply Gu
 rw [Nat.pow_add];have h1:=Bl m;have h2:=Bl n;have h3:2^bl m≤2^a:=Nat.pow_le_pow_right (by decide) hm;have h4:2^bl n≤2^b:=Nat.pow_le_pow_right (by decide) hn;exact Nat.mul_lt_mul'' (by omega) (by omega)
end Go.Proofs.YtabjjdicffcolaaGreatDoor
