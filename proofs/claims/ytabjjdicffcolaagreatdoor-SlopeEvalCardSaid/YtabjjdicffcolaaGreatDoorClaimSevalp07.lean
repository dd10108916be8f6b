/- Words and contracts, part 7. -/
import Derived.Test.YtabjjdicffcolaaGreatDoorClaimSevalp02
set_option maxRecDepth 100000
set_option maxHeartbeats 0
namespace Go.Proofs.YtabjjdicffcolaaGreatDoor
theorem Ih (xs:List Nat)(i j y:Nat)(hi:i<xs.length):nth (xs.set i y) j=if i=j then y else nth xs j:=by
 unfold nth;rw [List.getD_eq_getElem?_getD,List.getD_eq_getElem?_getD,List.getElem?_set];by_cases e:i=j
 ·subst e;simp [hi]
 ·simp [e]
theorem O0 (xs:List Nat)(i:Nat)(h:xs.length≤i):nth xs i=0:=by
 unfold nth;rw [List.getD_eq_getElem?_getD,List.getElem?_eq_none h];rfl
theorem F2 (xs:List Nat)(i y:Nat)(hi:i<xs.length):val (xs.set i y)+18446744073709551616^i*nth xs i=val xs+18446744073709551616^i*y:=by
 induction xs generalizing i with
 | nil=>simp at hi
 | cons x xs ih =>
   cases i with
   | zero=>simp [val,nth];omega
   | succ i =>
     have:=ih i (by simpa using hi);rw [List.set_cons_succ,val,val,Hh,Nat.pow_succ];generalize 18446744073709551616^i=p at *;generalize val (xs.set i y)=a at *;generalize val xs=b at *;generalize nth xs i=c at *;have e1:p*18446744073709551616*c=18446744073709551616*(p*c):=by rw [Nat.mul_right_comm,Nat.mul_comm]
     have e2:p*18446744073709551616*y=18446744073709551616*(p*y):=by rw [Nat.mul_right_comm,Nat.mul_comm]
     rw [e1,e2];omega
theorem Dk {xs:List Nat}(h:Small xs)(i y:Nat)(hy:y<18446744073709551616):Small (xs.set i y):=by
 intro x hx;rcases List.mem_or_eq_of_mem_set hx with h' | rfl
 ·exact h x h'
 ·exact hy
theorem D3 (n:Nat):Small (List.replicate n 0):=by
 intro x hx;rw [(List.mem_replicate.1 hx).2];decide
theorem Fv (n:Nat):val (List.replicate n 0)=0:=by
 induction n with
 | zero=>rfl
 | succ n ih=>rw [List.replicate_succ,val,ih]
theorem Ew (n i:Nat):nth (List.replicate n 0) i=0:=by
 unfold nth;rw [List.getD_eq_getElem?_getD,List.getElem?_replicate];split<;>rfl
theorem Aek {a b:Nat}(ha:a<18446744073709551616)(hb:b<18446744073709551616):a ||| b<18446744073709551616:=Nat.or_lt_two_pow (n:=64) ha hb
def Jt (out:List Nat) (q r i x:Nat):List Nat :=
 (out.set (q+i) (nth out (q+i) ||| (x*2^r%18446744073709551616))).set (q+i+1) (nth out (q+i+1) ||| (x/2/2^(63-r)))
def Fa (xs:List Nat) (q r n:Nat):Nat→List Nat
 | 0=>List.replicate n 0
 | k+1=>Jt (Fa xs q r n k) q r k (nth xs k)
theorem Kn (xs:List Nat)(q r n:Nat):∀ k,(Fa xs q r n k).length=n
 | 0=>by simp [Fa]
 | k+1=>by simp [Fa,Jt,Kn xs q r n k]
theorem Pj (xs:List Nat)(h:Small xs)(q r n:Nat):∀ k,Small (Fa xs q r n k)
 | 0=>D3 n
 | k + 1 => by
   have ih:=Pj xs h q r n k;unfold Fa Jt;refine Dk (Dk ih _ _ (Aek (Bo ih _) (Nat.mod_lt _ (by decide)))) _ _ (Aek (Bo ih _) ?_);refine Nat.lt_of_le_of_lt (Nat.div_le_self _ _) (Nat.lt_of_le_of_lt (Nat.div_le_self _ _) (Bo h _))
theorem Xa (x r:Nat)(hr:r<64):x/2/2^(63-r)=x*2^r/18446744073709551616:=by
 rw [Nat.div_div_eq_div_mul];have e:(18446744073709551616:Nat)=2*2^(63-r)*2^r:=by
  rw [Nat.mul_assoc,←Nat.pow_add,show 63-r+r=63 by omega]
 rw [e,Nat.mul_div_mul_right _ _ (Nat.pow_pos (by decide))]
theorem Aej (c x r:Nat)(hr:r<64)(hc:c<2^r):c ||| (x*2^r%18446744073709551616)=c+x*2^r%18446744073709551616:=by
 have e:(18446744073709551616:Nat)=2^(64-r)*2^r:=by
  rw [←Nat.pow_add,show 64-r+r=64 by omega]
 rw [e,Nat.mul_mod_mul_right,Nat.mul_comm,Nat.or_comm,←Nat.two_pow_add_eq_or_of_lt hc,Nat.add_comm]
theorem Ta (xs:List Nat)(h:Small xs)(q r n:Nat)(hr:r<64)(hn:n=q+xs.length+1):∀ k,k≤xs.length →
 val (Fa xs q r n k)=val (xs.take k)*2^r*18446744073709551616^q∧nth (Fa xs q r n k) (q+k)<2^r∧∀ j,q+k<j→nth (Fa xs q r n k) j=0
 | 0, _ => by
   refine ⟨by simp [Fa,Fv,val],?_,fun j _=>?_⟩
   ·rw [Fa,Ew];exact Nat.pow_pos (by decide)
   ·rw [Fa,Ew]
 | k + 1, hk => by
   obtain ⟨i1,i2,i3⟩:=Ta xs h q r n hr hn k (by omega);have hl:=Kn xs q r n k;have hx:=Bo h k;rw [Fa];generalize Fa xs q r n k=out at *;unfold Jt;have h0:=i3 (q+k+1) (by omega);rw [h0,Nat.zero_or,Xa _ r hr,Aej _ _ r hr i2];have hx2:nth xs k*2^r/18446744073709551616<2^r:=by
    rw [Nat.div_lt_iff_lt_mul (by decide),Nat.mul_comm (2^r)];exact Nat.mul_lt_mul_of_pos_right hx (Nat.pow_pos (by decide))
   generalize hX:nth xs k*2^r=X at *;have l1:q+k<out.length:=by omega
   have l2:q+k+1<(out.set (q+k) (nth out (q+k)+X%18446744073709551616)).length:=by rw [List.length_set];omega
   refine ⟨?_,?_,fun j hj=>?_⟩
   ·have v1:=F2 out (q+k) (nth out (q+k)+X%18446744073709551616) l1;have v2:=F2 _ (q+k+1) (X/18446744073709551616) l2;rw [Ih _ _ _ _ l1,if_neg (by omega),h0] at v2;rw [Bx xs k (by omega),Nat.add_mul,Nat.add_mul,←i1,Nat.mul_assoc (18446744073709551616^k),hX];rw [Nat.pow_succ] at v2;have e3:18446744073709551616^k*X*18446744073709551616^q=18446744073709551616^(q+k)*X:=by rw [Nat.mul_right_comm,←Nat.pow_add,Nat.add_comm k q]
    rw [e3];have e4:18446744073709551616^(q+k)*X=18446744073709551616^(q+k)*18446744073709551616*(X/18446744073709551616)+18446744073709551616^(q+k)*(X%18446744073709551616):=by
     rw [Nat.mul_assoc,←Nat.mul_add,Nat.div_add_mod]
    rw [e4];rw [Nat.mul_add] at v1;generalize 18446744073709551616^(q+k)*18446744073709551616*(X/18446744073709551616)=a at *;generalize 18446744073709551616^(q+k)*(X%18446744073709551616)=b at *;generalize 18446744073709551616^(q+k)*nth out (q+k)=c at *;omega
   ·rw [←Nat.add_assoc,Ih _ _ _ _ l2,if_pos rfl];exact hx2
   ·rw [Ih _ _ _ _ l2,if_neg (by omega),Ih _ _ _ _ l1,if_neg (by omega)];exact i3 j (by omega)
theorem Jo (n:Nat):2^n=2^(n%64)*18446744073709551616^(n/64):=by
 have e:(18446744073709551616:Nat)=2^64:=by decide
 rw [e,←Nat.pow_mul,←Nat.pow_add,Nat.mod_add_div]
theorem Abe (xs:List Nat)(h:Small xs)(n:Nat):val (Fa xs (n/64) (n%64) (n/64+xs.length+1) xs.length)=val xs*2^n:=by
 have:=(Ta xs h (n/64) (n%64) _ (Nat.mod_lt _ (by decide)) rfl xs.length (Nat.le_refl _)).1;rw [this,List.take_of_length_le (Nat.le_refl _),Nat.mul_assoc,←Jo]
def Dm (out ys:List Nat):Nat→List Nat × Nat
 | 0=>(out,0)
 | k + 1 => let s := Dm   out ys k
   (s.1.set k ((nth s.1 k+nth ys k+s.2)%18446744073709551616),(nth s.1 k+nth ys k+s.2)/18446744073709551616)
theorem Gr (out ys:List Nat)(k:Nat):Dm out ys (k+1)=((Dm out ys k).1.set k ((nth (Dm out ys k).1 k+nth ys k+(Dm out ys k).2)%18446744073709551616),(nth (Dm out ys k).1 k+nth ys k+(Dm out ys k).2)/18446744073709551616):=rfl
theorem E5 (out ys:List Nat):∀ k,(Dm out ys k).1.length=out.length
 | 0=>rfl
 | k+1=>by rw [Gr,List.length_set,E5 out ys k]
theorem F3 (out ys:List Nat)(h:Small out):∀ k,Small (Dm out ys k).1
 | 0=>h
 | k+1=>by rw [Gr];exact Dk (F3 out ys h k) _ _ (Nat.mod_lt _ (by decide))
theorem Kb (out ys:List Nat)(h:Small out)(h':Small ys):∀ k,(Dm out ys k).2≤1
 | 0=>by simp [Dm]
 | k + 1 => by
   have a:=Kb out ys h h' k;have b:=Bo (F3 out ys h k) k;have c:=Bo h' k;rw [Gr]
   show (nth (Dm out ys k).1 k+nth ys k+(Dm out ys k).2)/18446744073709551616≤1
   omega
theorem Gn (xs:List Nat)(k:Nat):val (xs.take (k+1))=val (xs.take k)+18446744073709551616^k*nth xs k:=by
 by_cases h:k<xs.length
 ·exact Bx xs k h
 ·rw [List.take_of_length_le (by omega),List.take_of_length_le (by omega),O0 xs k (by omega)];rfl
theorem Qf (out ys:List Nat):∀ k,k≤out.length→val (Dm out ys k).1+18446744073709551616^k*(Dm out ys k).2=val out+val (ys.take k)
 | 0,_=>by simp [Dm,val]
 | k + 1, hk => by
   have ih:=Qf out ys k (by omega);have hl:=E5 out ys k;rw [Gr,Gn];generalize Dm out ys k=s at *;obtain ⟨o,c⟩:=s;simp only at *;generalize hT:nth o k+nth ys k+c=T;have v:=F2 o k (T%18446744073709551616) (by omega);have e:18446744073709551616^(k+1)*(T/18446744073709551616)+18446744073709551616^k*(T%18446744073709551616)=18446744073709551616^k*T:=by
    rw [Nat.pow_succ,Nat.mul_assoc,←Nat.mul_add,Nat.div_add_mod]
   have e2:18446744073709551616^k*T=18446744073709551616^k*nth o k+18446744073709551616^k*nth ys k+18446744073709551616^k*c:=by
    rw [←hT,Nat.mul_add,Nat.mul_add]
   omega
theorem St (out ys:List Nat)(h:Small out)(k:Nat)(hy:ys.length≤k)(hc:(Dm out ys k).2=0):∀ d,k+d≤out.length→Dm out ys (k+d)=((Dm out ys k).1,0)
 | 0,_=>by rw [Nat.add_zero,←hc]
 | d + 1, hd => by
   have ih:=St out ys h k hy hc d (by omega);have hlt:=Bo (F3 out ys h k) (k+d);have hl:=E5 out ys k;rw [←Nat.add_assoc,Gr,ih,O0 ys (k+d) (by omega)];simp only [Nat.add_zero];rw [Nat.mod_eq_of_lt hlt,Nat.div_eq_of_lt hlt]
   congr 1
   apply List.ext_getElem
   ·simp
   ·intro i h1 h2;rw [List.getElem_set];split
    ·rename_i e;subst e;rw [nth,List.getD_eq_getElem?_getD,List.getElem?_eq_getElem h2];rfl
    ·rfl
theorem Vb (xs ys:List Nat)(h:Small xs)(h':Small ys)(hle:ys.length≤xs.length):val (Dm (xs++[0]) ys (xs.length+1)).1=val xs+val ys:=by
 have hs:Small (xs++[0]):=by
  intro x hx;rcases List.mem_append.1 hx with hx | hx
  ·exact h x hx
  ·have:x=0:=by simpa using hx
   omega
 have a:=Qf (xs++[0]) ys (xs.length+1) (by simp);rw [List.take_of_length_le (by omega),Du,Nat.pow_succ] at a;have b:=Fp _ h;have c:=Fp _ h';have d:18446744073709551616^ys.length≤18446744073709551616^xs.length:=Nat.pow_le_pow_right (by decide) hle;have e:val [0]=0:=by simp [val]
 rw [e,Nat.mul_zero,Nat.add_zero] at a;generalize (Dm (xs++[0]) ys (xs.length+1)).2=q at *;generalize (Dm (xs++[0]) ys (xs.length+1)).1=o at *;generalize 18446744073709551616^xs.length=p at *;generalize 18446744073709551616^ys.length=p' at *;have hq:q=0:=by
  by_cases hq:q=0
  ·exact hq
  ·have:p*18446744073709551616*1≤p*18446744073709551616*q:=Nat.mul_le_mul_left _ (by omega);omega
 rw [hq,Nat.mul_zero,Nat.add_zero] at a;exact a
end Go.Proofs.YtabjjdicffcolaaGreatDoor
namespace Go.Proofs.YtabjjdicffcolaaGreatDoor
def I7 (out ys:List Nat):Nat→List Nat × Nat
 | 0=>(out,0)
 | k + 1 => let s := I7   out ys k
   (s.1.set k ((nth s.1 k+18446744073709551616-nth ys k-s.2)%18446744073709551616),if nth s.1 k<nth ys k+s.2 then 1 else 0)
theorem J5 (out ys:List Nat)(k:Nat):I7 out ys (k+1)=((I7 out ys k).1.set k ((nth (I7 out ys k).1 k+18446744073709551616-nth ys k-(I7 out ys k).2)%18446744073709551616),if nth (I7 out ys k).1 k<nth ys k+(I7 out ys k).2 then 1 else 0):=rfl
theorem Je (out ys:List Nat):∀ k,(I7 out ys k).1.length=out.length
 | 0=>rfl
 | k+1=>by rw [J5,List.length_set,Je out ys k]
theorem Kz (out ys:List Nat)(h:Small out):∀ k,Small (I7 out ys k).1
 | 0=>h
 | k+1=>by rw [J5];exact Dk (Kz out ys h k) _ _ (Nat.mod_lt _ (by decide))
theorem L7 (out ys:List Nat):∀ k,(I7 out ys k).2≤1
 | 0=>by simp [I7]
 | k + 1 => by
   rw [J5]
   show (if _ then 1 else 0)≤1
   split<;>omega
theorem Xg (out ys:List Nat)(h:Small out)(h':Small ys):∀ k,k≤out.length→val (I7 out ys k).1+val (ys.take k)=val out+18446744073709551616^k*(I7 out ys k).2
 | 0,_=>by simp [I7,val]
 | k + 1, hk => by
   have ih:=Xg out ys h h' k (by omega);have hl:=Je out ys k;have hx:=Bo (Kz out ys h k) k;have hy:=Bo h' k;have hb:=L7 out ys k;rw [J5,Gn,Nat.pow_succ];generalize I7 out ys k=s at *;obtain ⟨o,c⟩:=s;simp only at *;generalize nth ys k=y at *;have v:=F2 o k ((nth o k+18446744073709551616-y-c)%18446744073709551616) (by omega);generalize nth o k=x at *;generalize 18446744073709551616^k=p at *;by_cases hlt:x<y+c
   ·rw [if_pos hlt,Nat.mod_eq_of_lt (by omega)] at *;have e:p*(x+18446744073709551616-y-c)+p*y+p*c=p*x+p*18446744073709551616:=by
     rw [←Nat.mul_add,←Nat.mul_add,←Nat.mul_add];congr 1;omega
    rw [Nat.mul_one];omega
   ·have e0:(x+18446744073709551616-y-c)%18446744073709551616=x-y-c:=by omega
    rw [if_neg hlt];rw [e0] at v ⊢;have e:p*(x-y-c)+p*y+p*c=p*x:=by
     rw [←Nat.mul_add,←Nat.mul_add];congr 1;omega
    rw [Nat.mul_zero,Nat.add_zero];omega
theorem Ae9 (xs ys:List Nat)(h:Small xs)(h':Small ys)(hle:ys.length≤xs.length)(hv:val ys≤val xs):val (I7 xs ys xs.length).1=val xs-val ys:=by
 have a:=Xg xs ys h h' xs.length (Nat.le_refl _);rw [List.take_of_length_le hle] at a;have b:=Fp _ (Kz xs ys h xs.length);rw [Je] at b;have c:=L7 xs ys xs.length;generalize (I7 xs ys xs.length).2=q at *;have hq:q=0:=by
  by_cases hq:q=0
  ·exact hq
  ·obtain rfl:q=1:=by omega
   rw [Nat.mul_one] at a;omega
 rw [hq,Nat.mul_zero,Nat.add_zero] at a;omega
theorem Ad5 (p c z:Nat) :
 (z+(p%18446744073709551616+c)%18446744073709551616)%18446744073709551616=(p+c+z)%18446744073709551616 ∧
 p/18446744073709551616+(p%18446744073709551616+c)/18446744073709551616+(z+(p%18446744073709551616+c)%18446744073709551616)/18446744073709551616=(p+c+z)/18446744073709551616:=by
 omega
theorem Mj (x y c z:Nat)(hx:x<18446744073709551616)(hy:y<18446744073709551616)(hc:c<18446744073709551616)(hz:z<18446744073709551616):(x*y+c+z)/18446744073709551616<18446744073709551616:=by
 have:x*y≤18446744073709551615*18446744073709551615:=Nat.mul_le_mul (by omega) (by omega);omega
def Ia (out:List Nat) (i x:Nat) (ys:List Nat):Nat→List Nat × Nat
 | 0=>(out,0)
 | j + 1 => let s := Ia   out i x ys j
   (s.1.set (i+j) ((x*nth ys j+s.2+nth s.1 (i+j))%18446744073709551616),(x*nth ys j+s.2+nth s.1 (i+j))/18446744073709551616)
theorem Ik (out:List Nat)(i x:Nat)(ys:List Nat)(j:Nat):Ia out i x ys (j+1)=((Ia out i x ys j).1.set (i+j) ((x*nth ys j+(Ia out i x ys j).2+nth (Ia out i x ys j).1 (i+j))%18446744073709551616),(x*nth ys j+(Ia out i x ys j).2+nth (Ia out i x ys j).1 (i+j))/18446744073709551616):=rfl
theorem Gc (out:List Nat)(i x:Nat)(ys:List Nat):∀ j,(Ia out i x ys j).1.length=out.length
 | 0=>rfl
 | j+1=>by rw [Ik,List.length_set,Gc out i x ys j]
theorem Kv (out:List Nat)(i x:Nat)(ys:List Nat)(h:Small out):∀ j,Small (Ia out i x ys j).1
 | 0=>h
 | j+1=>by rw [Ik];exact Dk (Kv out i x ys h j) _ _ (Nat.mod_lt _ (by decide))
theorem Nj (out:List Nat)(i x:Nat)(ys:List Nat)(h:Small out)(h':Small ys)(hx:x<18446744073709551616):∀ j,(Ia out i x ys j).2<18446744073709551616
 | 0=>by simp [Ia]
 | j + 1 => by
   rw [Ik];exact Mj _ _ _ _ hx (Bo h' j) (Nj out i x ys h h' hx j) (Bo (Kv out i x ys h j) _)
theorem W7 (out:List Nat)(i x:Nat)(ys:List Nat):∀ j k,i+j≤k→i+j≤out.length→nth (Ia out i x ys j).1 k=nth out k
 | 0,_,_,_=>rfl
 | j + 1, k, h, hk => by
   rw [Ik]
   show nth ((Ia out i x ys j).1.set (i+j) _) k=_
   rw [Ih _ _ _ _ (by rw [Gc];omega),if_neg (by omega)];exact W7 out i x ys j k (by omega) (by omega)
theorem W8 (out:List Nat)(i x:Nat)(ys:List Nat):∀ j,i+j≤out.length →
 val (Ia out i x ys j).1+18446744073709551616^(i+j)*(Ia out i x ys j).2=val out+18446744073709551616^i*(x*val (ys.take j))
 | 0,_=>by simp [Ia,val]
 | j + 1, hj => by
   have ih:=W8 out i x ys j (by omega);have hl:=Gc out i x ys j;rw [Ik,Gn,←Nat.add_assoc,Nat.pow_succ,Nat.mul_add,Nat.mul_add,←Nat.add_assoc,←ih];generalize Ia out i x ys j=s at *;obtain ⟨o,c⟩:=s;simp only at *;generalize hT:x*nth ys j+c+nth o (i+j)=T;have v:=F2 o (i+j) (T%18446744073709551616) (by omega);have e1:18446744073709551616^i*(x*(18446744073709551616^j*nth ys j))=18446744073709551616^(i+j)*(x*nth ys j):=by
    rw [Nat.pow_add,←Nat.mul_assoc x,Nat.mul_comm x,Nat.mul_assoc,Nat.mul_assoc]
   rw [e1];generalize 18446744073709551616^(i+j)=p at *;have e:p*18446744073709551616*(T/18446744073709551616)+p*(T%18446744073709551616)=p*T:=by
    rw [Nat.mul_assoc,←Nat.mul_add,Nat.div_add_mod]
   have e2:p*T=p*(x*nth ys j)+p*c+p*nth o (i+j):=by rw [←hT,Nat.mul_add,Nat.mul_add]
   omega
def Lr (xs ys:List Nat) (n:Nat):Nat→List Nat
 | 0=>List.replicate n 0
 | i + 1 => let s := Ia   (Lr   xs ys n i) i (nth xs i) ys ys.length
   s.1.set (i+ys.length) s.2
theorem Mi (xs ys:List Nat)(n i:Nat):Lr xs ys n (i+1)=(Ia (Lr xs ys n i) i (nth xs i) ys ys.length).1.set (i+ys.length) (Ia (Lr xs ys n i) i (nth xs i) ys ys.length).2:=rfl
theorem Ls (xs ys:List Nat)(n:Nat):∀ i,(Lr xs ys n i).length=n
 | 0=>by simp [Lr]
 | i+1=>by rw [Mi,List.length_set,Gc,Ls xs ys n i]
theorem Ra (xs ys:List Nat)(n:Nat)(h:Small xs)(h':Small ys):∀ i,Small (Lr xs ys n i)
 | 0=>D3 n
 | i + 1 => by
   have ih:=Ra xs ys n h h' i;rw [Mi];exact Dk (Kv _ _ _ _ ih _) _ _ (Nj _ _ _ _ ih h' (Bo h i) _)
theorem Wb (xs ys:List Nat)(h:Small xs)(h':Small ys):∀ i,i≤xs.length →
 val (Lr xs ys (xs.length+ys.length) i)=val (xs.take i)*val ys∧∀ k,i+ys.length≤k→nth (Lr xs ys (xs.length+ys.length) i) k=0
 | 0, _ => by
   refine ⟨by simp [Lr,Fv,val],fun k _=>?_⟩;rw [Lr,Ew]
 | i + 1, hi => by
   obtain ⟨i1,i2⟩:=Wb xs ys h h' i (by omega);have hl:=Ls xs ys (xs.length+ys.length) i;rw [Mi];generalize Lr xs ys (xs.length+ys.length) i=out at *;have v:=W8 out i (nth xs i) ys ys.length (by omega);have hn:=W7 out i (nth xs i) ys ys.length;have hrl:=Gc out i (nth xs i) ys ys.length;generalize Ia out i (nth xs i) ys ys.length=s at *;obtain ⟨o,c⟩:=s;simp only at *;have v2:=F2 o (i+ys.length) c (by omega);rw [hn _ (Nat.le_refl _) (by omega),i2 _ (Nat.le_refl _),Nat.mul_zero,Nat.add_zero] at v2;refine ⟨?_,fun k hk=>?_⟩
   ·rw [List.take_of_length_le (Nat.le_refl _)] at v;rw [Bx xs i (by omega),Nat.add_mul,←i1,Nat.mul_assoc,←v];exact v2
   ·rw [Ih _ _ _ _ (by omega),if_neg (by omega),hn k (by omega) (by omega),i2 k (by omega)]
theorem Ad3 (xs ys:List Nat)(h:Small xs)(h':Small ys):val (Lr xs ys (xs.length+ys.length) xs.length)=val xs*val ys:=by
 rw [(Wb xs ys h h' xs.length (Nat.le_refl _)).1,List.take_of_length_le (Nat.le_refl _)]
def Iz (xs:List Nat) (r i:Nat):Nat:=if i+1<xs.length then (nth xs i/2^r) ||| (nth xs (i+1)*2%18446744073709551616*2^(63-r)%18446744073709551616) else nth xs i/2^r
def Dx (xs:List Nat) (r:Nat):Nat→List Nat
 | 0=>List.replicate xs.length 0
 | k+1=>(Dx xs r k).set k (Iz xs r k)
theorem Hj (xs:List Nat)(r:Nat):∀ k,(Dx xs r k).length=xs.length
 | 0=>by simp [Dx]
 | k+1=>by rw [Dx,List.length_set,Hj xs r k]
theorem Aby (xs:List Nat)(h:Small xs)(r i:Nat)(hr:r<64):Iz xs r i=nth xs i/2^r+nth xs (i+1)*2^(64-r)%18446744073709551616:=by
 have e64:(18446744073709551616:Nat)=2^(64-r)*2^r:=by
  rw [←Nat.pow_add,show 64-r+r=64 by omega]
 unfold Iz;by_cases hi:i+1<xs.length
 ·rw [if_pos hi];have e1:nth xs (i+1)*2%18446744073709551616*2^(63-r)%18446744073709551616=nth xs (i+1)*2^(64-r)%18446744073709551616:=by
   rw [Nat.mod_mul_mod,Nat.mul_assoc,show (64-r)=(63-r)+1 by omega,Nat.pow_succ,Nat.mul_comm 2]
  have e2:nth xs i/2^r<2^(64-r):=by
   rw [Nat.div_lt_iff_lt_mul (Nat.pow_pos (by decide)),←e64];exact Bo h i
  rw [e1];have e3:nth xs (i+1)*2^(64-r)%18446744073709551616=2^(64-r)*(nth xs (i+1)%2^r):=by
   rw [e64,Nat.mul_comm (nth xs (i+1)),Nat.mul_mod_mul_left]
  rw [e3,Nat.or_comm,←Nat.two_pow_add_eq_or_of_lt e2,Nat.add_comm]
 ·rw [if_neg hi,O0 xs (i+1) (by omega),Nat.zero_mul,Nat.zero_mod,Nat.add_zero]
theorem Abz (xs:List Nat)(h:Small xs)(r i:Nat)(_hr:r<64):Iz xs r i<18446744073709551616:=by
 unfold Iz;have a:=Bo h i;have b:nth xs i/2^r≤nth xs i:=Nat.div_le_self _ _;split
 ·exact Aek (by omega) (Nat.mod_lt _ (by decide))
 ·omega
theorem Oc (xs:List Nat)(h:Small xs)(r:Nat)(hr:r<64):∀ k,Small (Dx xs r k)
 | 0=>D3 _
 | k+1=>Dk (Oc xs h r hr k) _ _ (Abz xs h r k hr)
theorem Rj (xs:List Nat)(r:Nat):∀ k j,k≤xs.length→nth (Dx xs r k) j=if j<k then Iz xs r j else 0
 | 0,j,_=>by rw [Dx,Ew,if_neg (by omega)]
 | k + 1, j, hk => by
   rw [Dx,Ih _ _ _ _ (by rw [Hj];omega),Rj xs r k j (by omega)];by_cases e:k=j
   ·subst e;rw [if_pos rfl,if_pos (by omega)]
   ·rw [if_neg e];by_cases h2:j<k
    ·rw [if_pos h2,if_pos (by omega)]
    ·rw [if_neg h2,if_neg (by omega)]
theorem Rk (xs:List Nat)(h:Small xs)(r:Nat)(hr:r<64)(o:List Nat)(ho:∀ j,j<xs.length→nth o j=Iz xs r j):∀ k,k≤xs.length→k≤o.length →
 val (o.take k)*2^r+nth xs 0%2^r=val (xs.take k)+18446744073709551616^k*(nth xs k%2^r)
 | 0,_,_=>by simp [val]
 | k + 1, hk, hk' => by
   have ih:=Rk xs h r hr o ho k (by omega) (by omega);have e64:(18446744073709551616:Nat)=2^(64-r)*2^r:=by
    rw [←Nat.pow_add,show 64-r+r=64 by omega]
   rw [Bx o k (by omega),Bx xs k (by omega),ho k (by omega),Aby xs h r k hr,Nat.add_mul,Nat.pow_succ];have e3:nth xs (k+1)*2^(64-r)%18446744073709551616*2^r=18446744073709551616*(nth xs (k+1)%2^r):=by
    rw [e64,Nat.mul_comm (nth xs (k+1)),Nat.mul_mod_mul_left,Nat.mul_right_comm]
   have e4:nth xs k/2^r*2^r+nth xs k%2^r=nth xs k:=by rw [Nat.mul_comm];exact Nat.div_add_mod _ _
   generalize 18446744073709551616^k=p at *;have e5:p*(nth xs k/2^r+nth xs (k+1)*2^(64-r)%18446744073709551616)*2^r=p*(nth xs k/2^r*2^r)+p*(18446744073709551616*(nth xs (k+1)%2^r)):=by
    rw [Nat.mul_assoc,Nat.add_mul,e3,Nat.mul_add]
   rw [e5,←Nat.mul_assoc p 18446744073709551616];have e6:p*nth xs k=p*(nth xs k/2^r*2^r)+p*(nth xs k%2^r):=by rw [←Nat.mul_add,e4]
   omega
theorem Yz (xs:List Nat)(h:Small xs)(r:Nat)(hr:r<64):val (Dx xs r xs.length)=val xs/2^r:=by
 have hl:=Hj xs r xs.length;have:=Rk xs h r hr (Dx xs r xs.length) (fun j hj=>by rw [Rj xs r _ j (Nat.le_refl _),if_pos hj]) xs.length (Nat.le_refl _) (by omega);rw [List.take_of_length_le (by omega),List.take_of_length_le (Nat.le_refl _),O0 xs xs.length (Nat.le_refl _),Nat.zero_mod,Nat.mul_zero,Nat.add_zero] at this;have hlt:nth xs 0%2^r<2^r:=Nat.mod_lt _ (Nat.pow_pos (by decide));rw [←this,Nat.add_comm,Nat.add_mul_div_right _ _ (Nat.pow_pos (by decide)),Nat.div_eq_of_lt hlt,Nat.zero_add]
theorem Sg (xs:List Nat)(h:Small xs)(k:Nat):val (xs.drop k)=val xs/18446744073709551616^k:=by
 by_cases hk:k≤xs.length
 ·have e:=Du (xs.take k) (xs.drop k);rw [List.take_append_drop,List.length_take,Nat.min_eq_left hk] at e;have b:=Fp _ (Er h k);rw [List.length_take,Nat.min_eq_left hk] at b;rw [e,Nat.add_mul_div_left _ _ (Nat.pow_pos (by decide)),Nat.div_eq_of_lt b,Nat.zero_add]
 ·rw [List.drop_eq_nil_of_le (by omega),Nat.div_eq_of_lt]
  ·rfl
  ·exact Nat.lt_of_lt_of_le (Fp _ h) (Nat.pow_le_pow_right (by decide) (by omega))
theorem Ab0 (xs:List Nat)(h:Small xs)(n:Nat):val (Dx (xs.drop (n/64)) (n%64) (xs.drop (n/64)).length)=val xs/2^n:=by
 rw [Yz _ (Ky h _) _ (Nat.mod_lt _ (by decide)),Sg xs h,Nat.div_div_eq_div_mul,Jo n,Nat.mul_comm]
end Go.Proofs.YtabjjdicffcolaaGreatDoor
namespace Go.Proofs.YtabjjdicffcolaaGreatDoor
structure Ff (u d yn1 yn0 q r:Nat):Prop where
 sum:u=q*yn1+r
 ge:(u*4294967296+d)/(yn1*4294967296+yn0)≤q
theorem Kl (u d yn1 yn0:Nat)(hd:d<4294967296)(h1:0<yn1):Ff u d yn1 yn0 (u/yn1) (u%yn1):=by
 refine ⟨by rw [Nat.mul_comm];exact (Nat.div_add_mod u yn1).symm,?_⟩;have e:(u*4294967296+d)/(yn1*4294967296)=u/yn1:=by
  rw [Nat.mul_comm yn1,←Nat.div_div_eq_div_mul]
  congr 1
  omega
 rw [←e];exact Nat.div_le_div_left (by omega) (by omega)
theorem Js {u d yn1 yn0 q r:Nat}(h:Ff u d yn1 yn0 q r)(h1:0<yn1)(hc:q*yn0≤4294967296*r+d):q=(u*4294967296+d)/(yn1*4294967296+yn0):=by
 refine Nat.le_antisymm ?_ h.ge;rw [Nat.le_div_iff_mul_le (by omega),h.sum,Nat.mul_add,Nat.add_mul,Nat.mul_assoc q yn1,←Nat.mul_assoc];have:r*4294967296=4294967296*r:=Nat.mul_comm _ _;omega
theorem F8 {u d yn1 yn0 q r:Nat}(h:Ff u d yn1 yn0 q r)(hu:u<yn1*4294967296+yn0)(hd:d<4294967296)(_h1:0<yn1)(hc:4294967296≤q∨4294967296*r+d<q*yn0) :
 1≤q∧Ff u d yn1 yn0 (q-1) (r+yn1):=by
 have key:(u*4294967296+d)/(yn1*4294967296+yn0)<q:=by
  rw [Nat.div_lt_iff_lt_mul (by omega)];rcases hc with hc | hc
  ·have:4294967296*(yn1*4294967296+yn0)≤q*(yn1*4294967296+yn0):=Nat.mul_le_mul_right _ hc;omega
  ·rw [h.sum,Nat.mul_add,Nat.add_mul,←Nat.mul_assoc];have:r*4294967296=4294967296*r:=Nat.mul_comm _ _;omega
 have h1:1≤q:=Nat.lt_of_le_of_lt (Nat.zero_le _) key;refine ⟨h1,?_,Nat.le_sub_one_of_lt key⟩;have hs:=h.sum;clear key hc h;obtain ⟨k,rfl⟩:∃ k,q=k+1:=⟨q-1,by omega⟩;rw [Nat.add_sub_cancel,hs,Nat.add_mul];omega
theorem E9 {u d yn1 yn0 q r:Nat}(h:Ff u d yn1 yn0 q r)(hu:u<yn1*4294967296+yn0)(h0:yn0<4294967296)(h1:0<yn1)(hr:4294967296≤r):q=(u*4294967296+d)/(yn1*4294967296+yn0):=by
 have hq:q<4294967296:=by
  have a:q*yn1<yn1*4294967296:=by have:=h.sum;omega
  rw [Nat.mul_comm] at a;exact Nat.lt_of_mul_lt_mul_left a
 refine Js h h1 ?_;have:q*yn0≤4294967296*4294967296:=Nat.mul_le_mul (by omega) (by omega);omega
theorem Abc (u d Y q:Nat)(hY:Y<18446744073709551616)(h0:0<Y)(hq:q=(u*4294967296+d)/Y) :
 (((u*4294967296:Int)+d)-q*Y)%18446744073709551616=(((u*4294967296+d)%Y:Nat):Int):=by
 have a:=Nat.div_add_mod (u*4294967296+d) Y;rw [←hq] at a;have b:=Nat.mod_lt (u*4294967296+d) h0;have c:(q:Int)*Y=((Y*q:Nat):Int):=by rw [Int.natCast_mul,Int.mul_comm]
 rw [c];generalize Y*q=p at *;generalize (u*4294967296+d)%Y=t at *;omega
theorem Za (N Y lo hi:Nat)(h0:0<Y)(hN:N=hi*4294967296+lo)(_hl:lo<4294967296) :
 N/Y=hi/Y*4294967296+(hi%Y*4294967296+lo)/Y∧N%Y=(hi%Y*4294967296+lo)%Y:=by
 have a:=Nat.div_add_mod hi Y;have e:N=Y*(hi/Y*4294967296)+(hi%Y*4294967296+lo):=by
  rw [hN,←Nat.mul_assoc,←Nat.add_assoc,←Nat.add_mul,a]
 rw [e];exact ⟨by rw [Nat.mul_add_div h0],by rw [Nat.mul_add_mod]⟩
theorem Ab5 (hi lo y s:Nat)(hs:s<64)(hlo:lo<18446744073709551616)(hlt:hi<y) :
 (hi*18446744073709551616+lo)*2^s=(hi*2^s+lo/2^(64-s))*18446744073709551616+lo*2^s%18446744073709551616∧hi*2^s+lo/2^(64-s)<y*2^s∧lo/2^(64-s)<2^s∧lo/2^(64-s)=lo*2^s/18446744073709551616:=by
 have e64:(18446744073709551616:Nat)=2^(64-s)*2^s:=by
  rw [←Nat.pow_add,show 64-s+s=64 by omega]
 have e1:lo/2^(64-s)=lo*2^s/18446744073709551616:=by
  rw [e64,Nat.mul_div_mul_right _ _ (Nat.pow_pos (by decide))]
 have h2:lo/2^(64-s)<2^s:=by
  rw [Nat.div_lt_iff_lt_mul (Nat.pow_pos (by decide)),Nat.mul_comm (2^s),←e64];exact hlo
 refine ⟨?_,?_,h2,e1⟩
 ·have:=Nat.div_add_mod (lo*2^s) 18446744073709551616;rw [←e1] at this;rw [Nat.add_mul,Nat.add_mul,Nat.mul_right_comm];omega
 ·have:(hi+1)*2^s≤y*2^s:=Nat.mul_le_mul_right _ hlt;rw [Nat.add_mul] at this;omega
theorem Dl (u d Y:Nat)(hu:u<Y)(hd:d<4294967296):(u*4294967296+d)/Y<4294967296:=by
 rw [Nat.div_lt_iff_lt_mul (by omega)];omega
end Go.Proofs.YtabjjdicffcolaaGreatDoor
namespace Go.Proofs.YtabjjdicffcolaaGreatDoor
def shS (xs:List Nat) (b:Nat):Nat→List Nat × Nat
 | 0=>(List.replicate xs.length 0,0)
 | d + 1 => let s := shS xs b d
   (s.1.set (xs.length-1-d) ((s.2*18446744073709551616+nth xs (xs.length-1-d))/b),(s.2*18446744073709551616+nth xs (xs.length-1-d))%b)
theorem J3 (xs:List Nat)(b d:Nat):shS xs b (d+1)=((shS xs b d).1.set (xs.length-1-d) (((shS xs b d).2*18446744073709551616+nth xs (xs.length-1-d))/b),((shS xs b d).2*18446744073709551616+nth xs (xs.length-1-d))%b):=rfl
theorem Kw (xs:List Nat)(b:Nat):∀ d,(shS xs b d).1.length=xs.length
 | 0=>by simp [shS]
 | d+1=>by rw [J3,List.length_set,Kw xs b d]
theorem Rw (xs:List Nat)(b:Nat)(hb:0<b):∀ d,(shS xs b d).2<b
 | 0=>by simpa [shS] using hb
 | d+1=>by rw [J3];exact Nat.mod_lt _ hb
theorem Nk (r x b:Nat)(hr:r<b)(hx:x<18446744073709551616):(r*18446744073709551616+x)/b<18446744073709551616:=by
 rw [Nat.div_lt_iff_lt_mul (by omega)];omega
theorem Ti (xs:List Nat)(h:Small xs)(b:Nat)(hb:0<b):∀ d,Small (shS xs b d).1
 | 0=>D3 _
 | d + 1 => by
   rw [J3];exact Dk (Ti xs h b hb d) _ _ (Nk _ _ _ (Rw xs b hb d) (Bo h _))
theorem Aam (xs:List Nat)(b:Nat):∀ d i,d≤xs.length→i<xs.length-d→nth (shS xs b d).1 i=0
 | 0,i,_,_=>Ew _ i
 | d + 1, i, hd, hi => by
   rw [J3]
   show nth ((shS xs b d).1.set _ _) i=0
   rw [Ih _ _ _ _ (by rw [Kw];omega),if_neg (by omega)];exact Aam xs b d i (by omega) (by omega)
theorem Aan (xs:List Nat)(h:Small xs)(b:Nat):∀ d,d≤xs.length→val (shS xs b d).1*b+18446744073709551616^(xs.length-d)*(shS xs b d).2+val (xs.take (xs.length-d))=val xs
 | 0, _ => by
   rw [shS,Nat.sub_zero,List.take_of_length_le (Nat.le_refl _)];simp [Fv]
 | d + 1, hd => by
   have ih:=Aan xs h b d (by omega);have hz:=Aam xs b d (xs.length-1-d) (by omega) (by omega);have hl:=Kw xs b d;rw [J3];generalize shS xs b d=s at *;obtain ⟨o,r⟩:=s;simp only at *;have e:xs.length-d=(xs.length-1-d)+1:=by omega
   have e':xs.length-(d+1)=xs.length-1-d:=by omega
   rw [e,Nat.pow_succ,Bx xs _ (by omega)] at ih;rw [e'];generalize xs.length-1-d=i at *;have v:=F2 o i ((r*18446744073709551616+nth xs i)/b) (by omega);rw [hz,Nat.mul_zero,Nat.add_zero] at v;rw [v,Nat.add_mul];have a:=Nat.div_add_mod (r*18446744073709551616+nth xs i) b;generalize (r*18446744073709551616+nth xs i)/b=q at *;generalize (r*18446744073709551616+nth xs i)%b=t at *;generalize 18446744073709551616^i=p at *;have e2:p*q*b+p*t=p*18446744073709551616*r+p*nth xs i:=by
    rw [Nat.mul_assoc,←Nat.mul_add,Nat.mul_comm q,a,Nat.mul_add,Nat.mul_comm r,Nat.mul_assoc]
   omega
theorem Ahm (xs:List Nat)(h:Small xs)(b:Nat)(hb:0<b):val (shS xs b xs.length).1=val xs/b∧(shS xs b xs.length).2=val xs%b:=by
 have a:=Aan xs h b xs.length (Nat.le_refl _);have r:=Rw xs b hb xs.length;rw [Nat.sub_self,Nat.pow_zero,Nat.one_mul,List.take_zero,val,Nat.add_zero] at a;rw [←a];constructor
 ·rw [Nat.add_comm,Nat.add_mul_div_right _ _ hb,Nat.div_eq_of_lt r,Nat.zero_add]
 ·rw [Nat.add_comm,Nat.add_mul_mod_self_right,Nat.mod_eq_of_lt r]
structure Zc (U3 V2 v1 v2 u2 x r:Nat):Prop where
 sum:U3=x*(v1*18446744073709551616)+r*18446744073709551616+u2
 two:V2=v1*18446744073709551616+v2
theorem Yh {U3 V2 v1 v2 u2 x r:Nat}(h:Zc U3 V2 v1 v2 u2 x r)(hx:x<18446744073709551616)(h2:v2<18446744073709551616)(hc:x*v2≤r*18446744073709551616+u2∨18446744073709551616≤r):x*V2≤U3:=by
 rw [h.sum,h.two,Nat.mul_add];have:x*v2≤18446744073709551616*18446744073709551616:=Nat.mul_le_mul (by omega) (by omega);rcases hc with hc | hc
 ·omega
 ·omega
theorem Yg {U3 V2 v1 v2 u2 x r:Nat}(h:Zc U3 V2 v1 v2 u2 x r)(hc:r*18446744073709551616+u2<x*v2):U3<x*V2∧Zc U3 V2 v1 v2 u2 (x-1) (r+v1):=by
 have hx:1≤x:=by
  by_cases e:x=0
  ·subst e;omega
  ·omega
 obtain ⟨k,rfl⟩:∃ k,x=k+1:=⟨x-1,by omega⟩;refine ⟨?_,⟨?_,h.two⟩⟩
 ·rw [h.sum,h.two,Nat.mul_add];omega
 ·rw [Nat.add_sub_cancel,h.sum,Nat.add_mul,Nat.add_mul];omega
theorem Abb (U3 V2 P u' v' x:Nat)(_hu:u'<P)(hv:v'<P)(hx:x<18446744073709551616)(h1:x*V2≤U3)(hV:18446744073709551616≤V2)(hq:(U3*P+u')/(V2*P+v')≤x):x=(U3*P+u')/(V2*P+v')∨x=(U3*P+u')/(V2*P+v')+1:=by
 have hp:0<P:=by omega
 have hV0:0<V2*P+v':=by
  have:18446744073709551616*P≤V2*P:=Nat.mul_le_mul_right _ hV;omega
 have a:(x-1)≤(U3*P+u')/(V2*P+v'):=by
  rw [Nat.le_div_iff_mul_le hV0];by_cases e:x=0
  ·subst e;simp
  ·obtain ⟨k,rfl⟩:∃ k,x=k+1:=⟨x-1,by omega⟩;rw [Nat.add_sub_cancel,Nat.mul_add];have b:(k+1)*V2*P≤U3*P:=Nat.mul_le_mul_right _ h1;rw [Nat.add_mul,Nat.add_mul,Nat.one_mul] at b;have c:18446744073709551616*P≤V2*P:=Nat.mul_le_mul_right _ hV;have d:k*v'≤18446744073709551616*P:=Nat.mul_le_mul (by omega) (by omega);have e:k*(V2*P)=k*V2*P:=(Nat.mul_assoc _ _ _).symm;omega
 generalize (U3*P+u')/(V2*P+v')=q at *;omega
theorem Yf (U3 V2 P u' v' x:Nat)(hu:u'<P)(h:U3<x*V2)(hV:0<V2):(U3*P+u')/(V2*P+v')≤x-1:=by
 have hp:0<P:=by omega
 have hV0:0<V2*P+v':=by
  have:=Nat.mul_pos hV hp;omega
 have:(U3*P+u')/(V2*P+v')<x:=by
  rw [Nat.div_lt_iff_lt_mul hV0,Nat.mul_add];have a:(U3+1)*P≤x*V2*P:=Nat.mul_le_mul_right _ h;rw [Nat.add_mul,Nat.mul_assoc] at a;omega
 exact Nat.le_sub_one_of_lt this
theorem Vx (U2 u2 v1 v2 P u' v':Nat)(hu2:u2<18446744073709551616)(hu:u'<P)(hv1:0<v1) :
 ((U2*18446744073709551616+u2)*P+u')/((v1*18446744073709551616+v2)*P+v')≤U2/v1:=by
 have hp:0<P:=by omega
 have c0:=Nat.div_mul_le_self ((U2*18446744073709551616+u2)*P+u') ((v1*18446744073709551616+v2)*P+v');generalize ((U2*18446744073709551616+u2)*P+u')/((v1*18446744073709551616+v2)*P+v')=a at *;rw [Nat.le_div_iff_mul_le hv1];have c1:a*v1*(18446744073709551616*P)<(U2+1)*(18446744073709551616*P):=by
  have e1:a*((v1*18446744073709551616+v2)*P+v')=a*v1*(18446744073709551616*P)+a*(v2*P)+a*v':=by
   rw [Nat.mul_add,Nat.add_mul,Nat.mul_add,Nat.mul_assoc v1,←Nat.mul_assoc a v1]
  have e2:(U2*18446744073709551616+u2)*P=U2*(18446744073709551616*P)+u2*P:=by rw [Nat.add_mul,Nat.mul_assoc]
  have e3:(u2+1)*P≤18446744073709551616*P:=Nat.mul_le_mul_right _ hu2;rw [e1,e2] at c0;rw [Nat.add_mul U2,Nat.one_mul];rw [Nat.add_mul] at e3;generalize 18446744073709551616*P=Q at *;omega
 have:=Nat.lt_of_mul_lt_mul_right c1;omega
def msS (wl:List Nat) (x:Nat) (vs:List Nat):Nat→List Nat × Nat × Nat
 | 0=>(wl,0,0)
 | k + 1 => let s := msS wl x vs k
   (s.1.set k ((nth s.1 k+18446744073709551616-(x*nth vs k+s.2.1)%18446744073709551616-s.2.2)%18446744073709551616),(x*nth vs k+s.2.1)/18446744073709551616,
     if nth s.1 k<(x*nth vs k+s.2.1)%18446744073709551616+s.2.2 then 1 else 0)
theorem Jx (wl:List Nat)(x:Nat)(vs:List Nat)(k:Nat):msS wl x vs (k+1)=((msS wl x vs k).1.set k ((nth (msS wl x vs k).1 k+18446744073709551616-(x*nth vs k+(msS wl x vs k).2.1)%18446744073709551616-(msS wl x vs k).2.2)%18446744073709551616),(x*nth vs k+(msS wl x vs k).2.1)/18446744073709551616,
 if nth (msS wl x vs k).1 k<(x*nth vs k+(msS wl x vs k).2.1)%18446744073709551616+(msS wl x vs k).2.2 then 1 else 0):=rfl
theorem Gw (wl:List Nat)(x:Nat)(vs:List Nat):∀ k,(msS wl x vs k).1.length=wl.length
 | 0=>rfl
 | k+1=>by rw [Jx,List.length_set,Gw wl x vs k]
theorem Ij (wl:List Nat)(x:Nat)(vs:List Nat)(h:Small wl):∀ k,Small (msS wl x vs k).1
 | 0=>h
 | k+1=>by rw [Jx];exact Dk (Ij wl x vs h k) _ _ (Nat.mod_lt _ (by decide))
theorem Tc (wl:List Nat)(x:Nat)(vs:List Nat)(hx:x<18446744073709551616)(h':Small vs):∀ k,(msS wl x vs k).2.1<18446744073709551616
 | 0=>by simp [msS]
 | k + 1 => by
   rw [Jx];have:=Mj x (nth vs k) (msS wl x vs k).2.1 0 hx (Bo h' k) (Tc wl x vs hx h' k) (by decide);rwa [Nat.add_zero] at this
theorem Kq (wl:List Nat)(x:Nat)(vs:List Nat):∀ k,(msS wl x vs k).2.2≤1
 | 0=>by simp [msS]
 | k + 1 => by
   rw [Jx]
   show (if _ then 1 else 0)≤1
   split<;>omega
theorem R9 (p x y c:Nat)(hx:x<18446744073709551616)(hy:y<18446744073709551616)(hc:c≤1) :
 p*((x+18446744073709551616-y-c)%18446744073709551616)+p*y+p*c=p*x+p*18446744073709551616*(if x<y+c then 1 else 0):=by
 by_cases hlt:x<y+c
 ·rw [if_pos hlt,Nat.mod_eq_of_lt (by omega),Nat.mul_one,←Nat.mul_add,←Nat.mul_add,←Nat.mul_add]
  congr 1;omega
 ·have e0:(x+18446744073709551616-y-c)%18446744073709551616=x-y-c:=by omega
  rw [if_neg hlt,e0,Nat.mul_zero,Nat.add_zero,←Nat.mul_add,←Nat.mul_add]
  congr 1;omega
theorem Uo (wl:List Nat)(x:Nat)(vs:List Nat)(h:Small wl):∀ k,k≤wl.length →
 val (msS wl x vs k).1+x*val (vs.take k)=val wl+18446744073709551616^k*((msS wl x vs k).2.1+(msS wl x vs k).2.2)
 | 0,_=>by simp [msS,val]
 | k + 1, hk => by
   have ih:=Uo wl x vs h k (by omega);have hl:=Gw wl x vs k;have hu:=Bo (Ij wl x vs h k) k;have hb:=Kq wl x vs k;rw [Jx,Gn,Nat.pow_succ];generalize msS wl x vs k=s at *;obtain ⟨o,c,b⟩:=s;simp only at *;generalize hT:x*nth vs k+c=T;have v:=F2 o k ((nth o k+18446744073709551616-T%18446744073709551616-b)%18446744073709551616) (by omega);have sl:=R9 (18446744073709551616^k) (nth o k) (T%18446744073709551616) b hu (Nat.mod_lt _ (by decide)) hb;generalize (if nth o k<T%18446744073709551616+b then 1 else 0)=b' at *;generalize (nth o k+18446744073709551616-T%18446744073709551616-b)%18446744073709551616=z at *
   generalize 18446744073709551616^k=p at *;have e:p*18446744073709551616*(T/18446744073709551616)+p*(T%18446744073709551616)=p*T:=by
    rw [Nat.mul_assoc,←Nat.mul_add,Nat.div_add_mod]
   have e2:p*T=x*(p*nth vs k)+p*c:=by rw [←hT,Nat.mul_add,Nat.mul_left_comm]
   rw [Nat.mul_add x,Nat.mul_add (p*18446744073709551616)];rw [Nat.mul_add] at ih;omega
theorem Vc (wl vs:List Nat)(n:Nat)(hl:wl.length=n+1)(hv:vs.length=n):val (Dm wl vs n).1+18446744073709551616^n*(Dm wl vs n).2=val wl+val vs:=by
 have:=Qf wl vs n (by omega);rwa [List.take_of_length_le (by omega)] at this
theorem Xz (wl vs:List Nat)(x n:Nat)(h:Small wl)(hl:wl.length=n+1)(hv:vs.length=n)(hx:x=val wl/val vs)(hc:(msS wl x vs n).2.1<18446744073709551616) :
 val ((msS wl x vs n).1.set n ((nth (msS wl x vs n).1 n+18446744073709551616-(msS wl x vs n).2.1-(msS wl x vs n).2.2)%18446744073709551616))=val wl%val vs ∧
 (if nth (msS wl x vs n).1 n<(msS wl x vs n).2.1+(msS wl x vs n).2.2 then 1 else 0)=0:=by
 have a:=Uo wl x vs h n (by omega);rw [List.take_of_length_le (by omega)] at a;have b:=F2 (msS wl x vs n).1 n ((nth (msS wl x vs n).1 n+18446744073709551616-(msS wl x vs n).2.1-(msS wl x vs n).2.2)%18446744073709551616) (by rw [Gw];omega);have sm:=Dk (Ij wl x vs h n) n ((nth (msS wl x vs n).1 n+18446744073709551616-(msS wl x vs n).2.1-(msS wl x vs n).2.2)%18446744073709551616) (Nat.mod_lt _ (by decide));have lt:=Fp _ sm;rw [List.length_set,Gw,hl,Nat.pow_succ] at lt;have sl:=R9 (18446744073709551616^n) (nth (msS wl x vs n).1 n) (msS wl x vs n).2.1 (msS wl x vs n).2.2 (Bo (Ij wl x vs h n) n) hc (Kq wl x vs n)
 have dm:=Nat.div_add_mod (val wl) (val vs);rw [←hx,Nat.mul_comm] at dm;generalize (nth (msS wl x vs n).1 n+18446744073709551616-(msS wl x vs n).2.1-(msS wl x vs n).2.2)%18446744073709551616=z at *;generalize val ((msS wl x vs n).1.set n z)=V' at *;rw [Nat.mul_add] at a;by_cases hlt:nth (msS wl x vs n).1 n<(msS wl x vs n).2.1+(msS wl x vs n).2.2
 ·rw [if_pos hlt,Nat.mul_one] at sl;exfalso;generalize 18446744073709551616^n=p at *;omega
 ·rw [if_neg hlt,Nat.mul_zero,Nat.add_zero] at sl;refine ⟨?_,if_neg hlt⟩;generalize 18446744073709551616^n=p at *;omega
theorem X6 (wl vs:List Nat)(x n:Nat)(h:Small wl)(hl:wl.length=n+1)(hv:vs.length=n)(hV:0<val vs)(hx:x=val wl/val vs+1)(hc:(msS wl x vs n).2.1<18446744073709551616) :
 val ((msS wl x vs n).1.set n ((nth (msS wl x vs n).1 n+18446744073709551616-(msS wl x vs n).2.1-(msS wl x vs n).2.2)%18446744073709551616))+val vs=val wl%val vs+18446744073709551616^n*18446744073709551616 ∧
 (if nth (msS wl x vs n).1 n<(msS wl x vs n).2.1+(msS wl x vs n).2.2 then 1 else 0)=1:=by
 have a:=Uo wl x vs h n (by omega);rw [List.take_of_length_le (by omega)] at a;have b:=F2 (msS wl x vs n).1 n ((nth (msS wl x vs n).1 n+18446744073709551616-(msS wl x vs n).2.1-(msS wl x vs n).2.2)%18446744073709551616) (by rw [Gw];omega);have sl:=R9 (18446744073709551616^n) (nth (msS wl x vs n).1 n) (msS wl x vs n).2.1 (msS wl x vs n).2.2 (Bo (Ij wl x vs h n) n) hc (Kq wl x vs n);have dm:=Nat.div_add_mod (val wl) (val vs);have ml:=Nat.mod_lt (val wl) hV;rw [hx,Nat.add_mul,Nat.one_mul,←hx,Nat.mul_comm (val wl/val vs)] at a;generalize (nth (msS wl x vs n).1 n+18446744073709551616-(msS wl x vs n).2.1-(msS wl x vs n).2.2)%18446744073709551616=z at *
 generalize val ((msS wl x vs n).1.set n z)=V' at *;rw [Nat.mul_add] at a;by_cases hlt:nth (msS wl x vs n).1 n<(msS wl x vs n).2.1+(msS wl x vs n).2.2
 ·rw [if_pos hlt,Nat.mul_one] at sl;refine ⟨?_,if_pos hlt⟩;generalize 18446744073709551616^n=p at *;omega
 ·rw [if_neg hlt,Nat.mul_zero,Nat.add_zero] at sl;exfalso;generalize 18446744073709551616^n=p at *;omega
theorem Xy (w2 vs:List Nat)(n r:Nat)(h:Small w2)(h':Small vs)(hl:w2.length=n+1)(hv:vs.length=n)(_hr:r<val vs)(he:val w2+val vs=r+18446744073709551616^n*18446744073709551616) :
 val ((Dm w2 vs n).1.set n ((nth (Dm w2 vs n).1 n+(Dm w2 vs n).2)%18446744073709551616))=r:=by
 have a:=Vc w2 vs n hl hv;have b:=F2 (Dm w2 vs n).1 n ((nth (Dm w2 vs n).1 n+(Dm w2 vs n).2)%18446744073709551616) (by rw [E5];omega);have sm:=Dk (F3 w2 vs h n) n ((nth (Dm w2 vs n).1 n+(Dm w2 vs n).2)%18446744073709551616) (Nat.mod_lt _ (by decide));have lt:=Fp _ sm;have ltv:=Fp vs h';rw [hv] at ltv;rw [List.length_set,E5,hl,Nat.pow_succ] at lt;generalize hT:nth (Dm w2 vs n).1 n+(Dm w2 vs n).2=T at *;generalize val ((Dm w2 vs n).1.set n (T%18446744073709551616))=V' at *;have e:18446744073709551616^n*T=18446744073709551616^n*18446744073709551616*(T/18446744073709551616)+18446744073709551616^n*(T%18446744073709551616):=by
  rw [Nat.mul_assoc,←Nat.mul_add,Nat.div_add_mod]
 rw [←hT,Nat.mul_add,hT] at e;have ht:T/18446744073709551616≤1:=by
  have:=Bo (F3 w2 vs h n) n;have:=Kb w2 vs h h' n;omega
 generalize 18446744073709551616^n=p at *;generalize T/18446744073709551616=q at *;have hq:q=0∨q=1:=by omega
 rcases hq with rfl | rfl
 ·rw [Nat.mul_zero] at e;omega
 ·rw [Nat.mul_one] at e;omega
end Go.Proofs.YtabjjdicffcolaaGreatDoor
namespace Go.Proofs.YtabjjdicffcolaaGreatDoor
structure DigIn (wl vs:List Nat) (n:Nat):Prop where
 n2:2≤n
 wlen:wl.length=n+1
 vlen:vs.length=n
 ws:Small wl
 vsm:Small vs
 top:9223372036854775808≤nth vs (n-1)
 lt:val wl<val vs*18446744073709551616
def Vn (wl:List Nat) (n:Nat):Nat:=(nth wl n*18446744073709551616+nth wl (n-1))*18446744073709551616+nth wl (n-2)
def Qq (vs:List Nat) (n:Nat):Nat:=nth vs (n-1)*18446744073709551616+nth vs (n-2)
theorem DigIn.U {wl vs:List Nat}{n:Nat}(h:DigIn wl vs n):val wl=Vn wl n*18446744073709551616^(n-2)+val (wl.take (n-2)):=by
 have h2:=h.n2;have e:=List.take_of_length_le (Nat.le_of_eq h.wlen);have a:=Bx wl n (by rw [h.wlen];omega);have b:=Bx wl (n-1) (by rw [h.wlen];omega);have c:=Bx wl (n-2) (by rw [h.wlen];omega);rw [show n-1+1=n by omega] at b;rw [show n-2+1=n-1 by omega] at c;rw [e] at a;rw [a,b,c];have p1:18446744073709551616^n=18446744073709551616^(n-2)*18446744073709551616*18446744073709551616:=by
  rw [Nat.mul_assoc,←Nat.pow_two,←Nat.pow_add];congr 1;omega
 have p2:18446744073709551616^(n-1)=18446744073709551616^(n-2)*18446744073709551616:=by
  rw [←Nat.pow_succ];congr 1;omega
 rw [p1,p2];unfold Vn;generalize 18446744073709551616^(n-2)=P;generalize nth wl n=x;generalize nth wl (n-1)=y;generalize nth wl (n-2)=z;have e1:P*18446744073709551616*18446744073709551616*x=x*18446744073709551616*18446744073709551616*P:=by
  rw [Nat.mul_comm _ x,←Nat.mul_assoc,←Nat.mul_assoc,Nat.mul_right_comm x P,Nat.mul_right_comm (x*18446744073709551616) P]
 have e2:P*18446744073709551616*y=y*18446744073709551616*P:=by
  rw [Nat.mul_comm _ y,←Nat.mul_assoc,Nat.mul_right_comm y P]
 rw [e1,e2,Nat.mul_comm P z,Nat.add_mul,Nat.add_mul,Nat.add_mul];omega
theorem DigIn.V {wl vs:List Nat}{n:Nat}(h:DigIn wl vs n):val vs=Qq vs n*18446744073709551616^(n-2)+val (vs.take (n-2)):=by
 have h2:=h.n2;have e:=List.take_of_length_le (Nat.le_of_eq h.vlen);have b:=Bx vs (n-1) (by rw [h.vlen];omega);have c:=Bx vs (n-2) (by rw [h.vlen];omega);rw [show n-1+1=n by omega,e] at b;rw [show n-2+1=n-1 by omega] at c;rw [b,c];have p2:18446744073709551616^(n-1)=18446744073709551616^(n-2)*18446744073709551616:=by
  rw [←Nat.pow_succ];congr 1;omega
 rw [p2];unfold Qq;generalize 18446744073709551616^(n-2)=P;generalize nth vs (n-1)=y;generalize nth vs (n-2)=z;have e2:P*18446744073709551616*y=y*18446744073709551616*P:=by
  rw [Nat.mul_comm _ y,←Nat.mul_assoc,Nat.mul_right_comm y P]
 rw [e2,Nat.mul_comm P z,Nat.add_mul];omega
theorem DigIn.ulow {wl vs:List Nat}{n:Nat}(h:DigIn wl vs n):val (wl.take (n-2))<18446744073709551616^(n-2):=by
 have:=Fp _ (Er h.ws (n-2));rwa [List.length_take,Nat.min_eq_left (by rw [h.wlen];omega)] at this
theorem DigIn.vlow {wl vs:List Nat}{n:Nat}(h:DigIn wl vs n):val (vs.take (n-2))<18446744073709551616^(n-2):=by
 have:=Fp _ (Er h.vsm (n-2));rwa [List.length_take,Nat.min_eq_left (by rw [h.vlen];omega)] at this
theorem DigIn.v2pos {wl vs:List Nat}{n:Nat}(h:DigIn wl vs n):18446744073709551616≤Qq vs n:=by
 have:=h.top;unfold Qq;omega
theorem DigIn.vpos {wl vs:List Nat}{n:Nat}(h:DigIn wl vs n):0<val vs:=by
 have a:=h.V;have b:=Nat.mul_pos (show 0<Qq vs n by have:=h.v2pos;omega) (Nat.pow_pos (n:=n-2) (show 0<18446744073709551616 by decide));omega
theorem Afi (M N A Q T P v':Nat)(h1:M≤N)(h2:M=A+Q*18446744073709551616)(h3:T+P≤Q)(h4:v'<P)(h5:N<A+T*18446744073709551616+v'*18446744073709551616):False:=by omega
theorem DigIn.tops {wl vs:List Nat}{n:Nat}(h:DigIn wl vs n):nth wl n≤nth vs (n-1):=by
 have a:=h.U;have b:=h.V;have c:=h.lt;have d:=h.vlow;have v2:=Bo h.vsm (n-2);rw [a,b] at c;unfold Vn Qq at c;generalize 18446744073709551616^(n-2)=P at *;generalize val (wl.take (n-2))=u' at *;generalize val (vs.take (n-2))=v' at *;generalize nth wl n=x at *;generalize nth wl (n-1)=y at *;generalize nth wl (n-2)=z at *;generalize nth vs (n-1)=s at *;generalize nth vs (n-2)=t at *;by_cases hle:x≤s
 ·exact hle
 ·exfalso;have e1:((s+1)*18446744073709551616*18446744073709551616)*P≤((x*18446744073709551616+y)*18446744073709551616+z)*P:=Nat.mul_le_mul_right _ (by omega);have e2:(t+1)*P≤18446744073709551616*P:=Nat.mul_le_mul_right _ v2;have e3:((s*18446744073709551616+t)*P+v')*18446744073709551616=s*18446744073709551616*18446744073709551616*P+t*P*18446744073709551616+v'*18446744073709551616:=by
   rw [Nat.add_mul,Nat.add_mul (s*18446744073709551616),Nat.add_mul,Nat.mul_right_comm (s*18446744073709551616) P]
  have e4:(s+1)*18446744073709551616*18446744073709551616*P=s*18446744073709551616*18446744073709551616*P+18446744073709551616*P*18446744073709551616:=by
   rw [Nat.add_mul,Nat.add_mul,Nat.add_mul,Nat.one_mul,Nat.mul_right_comm 18446744073709551616 18446744073709551616 P]
  rw [Nat.add_mul,Nat.one_mul] at e2;rw [e3] at c;exact Afi _ _ _ _ _ _ _ e1 e4 e2 d (Nat.lt_of_le_of_lt (Nat.le_add_right _ _) c)
theorem DigIn.qlt {wl vs:List Nat}{n:Nat}(h:DigIn wl vs n):val wl/val vs<18446744073709551616:=by
 rw [Nat.div_lt_iff_lt_mul h.vpos,Nat.mul_comm];exact h.lt
structure DigInv (wl vs:List Nat) (n x r:Nat):Prop where
 g:Zc (Vn wl n) (Qq vs n) (nth vs (n-1)) (nth vs (n-2)) (nth wl (n-2)) x r
 ge:val wl/val vs≤x
 lt:x<18446744073709551616
theorem Ab8 (T s z:Nat):T*18446744073709551616+z=T/s*(s*18446744073709551616)+T%s*18446744073709551616+z:=by
 rw [←Nat.mul_assoc,←Nat.add_mul,Nat.mul_comm (T/s),Nat.div_add_mod]
theorem DigIn.start_lt {wl vs:List Nat}{n:Nat}(h:DigIn wl vs n)(hlt:nth wl n<nth vs (n-1)) :
 DigInv wl vs n ((nth wl n*18446744073709551616+nth wl (n-1))/nth vs (n-1)) ((nth wl n*18446744073709551616+nth wl (n-1))%nth vs (n-1)):=by
 have ht:=h.top;refine ⟨⟨?_,rfl⟩,?_,Nk _ _ _ hlt (Bo h.ws _)⟩
 ·exact Ab8 _ _ _
 ·have:=Vx (nth wl n*18446744073709551616+nth wl (n-1)) (nth wl (n-2)) (nth vs (n-1)) (nth vs (n-2)) (18446744073709551616^(n-2)) (val (wl.take (n-2))) (val (vs.take (n-2))) (Bo h.ws _) h.ulow (by omega);rw [h.U,h.V];exact this
theorem DigIn.start_eq {wl vs:List Nat}{n:Nat}(h:DigIn wl vs n)(he:¬nth wl n<nth vs (n-1)) :
 DigInv wl vs n 18446744073709551615 (nth wl (n-1)+nth vs (n-1)):=by
 have ht:=h.tops;have e:nth wl n=nth vs (n-1):=by omega
 refine ⟨⟨?_,rfl⟩,?_,by decide⟩
 ·unfold Vn;rw [e];omega
 ·exact Nat.le_of_lt_succ h.qlt
theorem DigInv.less {wl vs:List Nat}{n x r:Nat}(h:DigInv wl vs n x r)(hi:DigIn wl vs n)(hc:r*18446744073709551616+nth wl (n-2)<x*nth vs (n-2)):1≤x∧DigInv wl vs n (x-1) (r+nth vs (n-1)):=by
 have hx:1≤x:=by
  by_cases e:x=0
  ·subst e;omega
  ·omega
 obtain ⟨a,b⟩:=Yg h.g hc;have v2:=hi.v2pos;refine ⟨hx,b,?_,by have:=h.lt;omega⟩;rw [hi.U,hi.V];exact Yf _ _ _ _ _ _ hi.ulow a (by omega)
theorem DigInv.done {wl vs:List Nat}{n x r:Nat}(h:DigInv wl vs n x r)(hi:DigIn wl vs n)(hc:x*nth vs (n-2)≤r*18446744073709551616+nth wl (n-2)∨18446744073709551616≤r):x=val wl/val vs∨x=val wl/val vs+1:=by
 have a:=Yh h.g h.lt (Bo hi.vsm _) hc;have b:=h.ge;rw [hi.U,hi.V] at b ⊢;exact Abb _ _ _ _ _ _ hi.ulow hi.vlow h.lt a hi.v2pos b
theorem Ag1 (p r u:Nat)(hu:u<18446744073709551616):p≤r*18446744073709551616+u↔(p/18446744073709551616<r∨p/18446744073709551616=r∧p%18446744073709551616≤u):=by
 omega
end Go.Proofs.YtabjjdicffcolaaGreatDoor
namespace Go.Proofs.YtabjjdicffcolaaGreatDoor
structure LongInv (N V:Nat) (n:Nat) (us qs:List Nat) (k:Nat):Prop where
 us_small:Small us
 qs_small:Small qs
 lens:us.length=qs.length+n
 low:val (us.drop k)<V
 sum:val qs*V+val us=N
 zero:∀ i,i<k→nth qs i=0
theorem LongInv.window {N V n:Nat}{us qs vs:List Nat}{j:Nat}(h:LongInv N V n us qs (j+1))(hj:j<qs.length)(hn:2≤n)(hV:V=val vs)(hvl:vs.length=n)(hvs:Small vs)(ht:9223372036854775808≤nth vs (n-1)) :
 DigIn ((us.drop j).take (n+1)) vs n∧val (us.drop (j+(n+1)))=0:=by
 have hl:=h.lens;have e:us.drop j=nth us j::us.drop (j+1):=Vq us j (by omega);have hlow:=h.low;have hx:=Bo h.us_small j;have hd:val (us.drop j)<V*18446744073709551616:=by
  rw [e,val];omega
 have hvlt:=Fp vs hvs;rw [hvl,←hV] at hvlt;have sm:Small (us.drop j):=Ky h.us_small j;have ap:=Du ((us.drop j).take (n+1)) ((us.drop j).drop (n+1));rw [List.take_append_drop,List.length_take,List.length_drop,Nat.min_eq_left (by omega),List.drop_drop] at ap;have hp:18446744073709551616^(n+1)=18446744073709551616^n*18446744073709551616:=Nat.pow_succ ..;have hz:val (us.drop (j+(n+1)))=0:=by
  by_cases hz:val (us.drop (j+(n+1)))=0
  ·exact hz
  ·exfalso;have:18446744073709551616^(n+1)*1≤18446744073709551616^(n+1)*val (us.drop (j+(n+1))):=Nat.mul_le_mul_left _ (by omega);rw [hp] at this ap;generalize 18446744073709551616^n=P at *;generalize P*18446744073709551616*val (us.drop (j+(n+1)))=T at *;omega
 refine ⟨⟨hn,?_,hvl,Er sm _,hvs,ht,?_⟩,hz⟩
 ·rw [List.length_take,List.length_drop];omega
 ·rw [←hV];rw [hz,Nat.mul_zero,Nat.add_zero] at ap;rw [←ap];exact hd
theorem Pn (us:List Nat)(j m:Nat):us=us.take j++((us.drop j).take m++us.drop (j+m)):=by
 rw [←List.drop_drop,List.take_append_drop,List.take_append_drop]
theorem LongInv.next {N V n:Nat}{us qs vs wl':List Nat}{j:Nat}(h:LongInv N V n us qs (j+1))(hj:j<qs.length)(hV:V=val vs)(hz:val (us.drop (j+(n+1)))=0)
 (hq:val ((us.drop j).take (n+1))/val vs<18446744073709551616) (hV0:0<val vs) (hl':wl'.length=((us.drop j).take (n+1)).length) (hs':Small wl') (hv':val wl'=val ((us.drop j).take (n+1))%val vs) :
 LongInv N V n (us.take j++(wl'++us.drop (j+(n+1)))) (qs.set j (val ((us.drop j).take (n+1))/val vs)) j:=by
 have hl:=h.lens;have ht:(us.take j).length=j:=by rw [List.length_take];omega
 have e:=Pn us j (n+1);have lw:((us.drop j).take (n+1)).length=n+1:=by rw [List.length_take,List.length_drop];omega
 refine ⟨?_,Dk h.qs_small _ _ hq,?_,?_,?_,?_⟩
 ·intro x hx;rcases List.mem_append.1 hx with hx | hx
  ·exact Er h.us_small j x hx
  ·rcases List.mem_append.1 hx with hx | hx
   ·exact hs' x hx
   ·exact Ky h.us_small _ x hx
 ·rw [List.length_set,List.length_append,List.length_append,hl',lw,List.length_drop,ht];omega
 ·rw [List.drop_append_of_le_length (by omega),List.drop_of_length_le (by omega),List.nil_append,Du,hz,Nat.mul_zero,Nat.add_zero,hv',hV];exact Nat.mod_lt _ hV0
 ·have v:=F2 qs j (val ((us.drop j).take (n+1))/val vs) hj;rw [h.zero j (by omega),Nat.mul_zero,Nat.add_zero] at v;have s:=h.sum;have u1:val us=val (us.take j)+18446744073709551616^j*(val ((us.drop j).take (n+1))+18446744073709551616^(n+1)*val (us.drop (j+(n+1)))):=by
   conv=>lhs;rw [e]
   rw [Du,Du,ht,lw]
  have u2:val (us.take j++(wl'++us.drop (j+(n+1))))=val (us.take j)+18446744073709551616^j*(val wl'+18446744073709551616^(n+1)*val (us.drop (j+(n+1)))):=by
   rw [Du,Du,ht,hl',lw]
  rw [hz,Nat.mul_zero,Nat.add_zero (val ((us.drop j).take (n+1)))] at u1;rw [hz,Nat.mul_zero,Nat.add_zero (val wl')] at u2;rw [v,u2,hv',Nat.add_mul,hV];rw [u1,hV] at s;have dm:=Nat.div_add_mod (val ((us.drop j).take (n+1))) (val vs);generalize val ((us.drop j).take (n+1))/val vs=q at *;generalize val ((us.drop j).take (n+1))%val vs=r at *;generalize val ((us.drop j).take (n+1))=W at *;generalize 18446744073709551616^j=P at *;have e3:P*q*val vs+P*r=P*W:=by rw [Nat.mul_assoc,←Nat.mul_add,Nat.mul_comm q,dm]
  omega
 ·intro i hi;rw [Ih _ _ _ _ hj,if_neg (by omega)];exact h.zero i (by omega)
theorem LongInv.finish {N V n:Nat}{us qs:List Nat}(h:LongInv N V n us qs 0):val qs=N/V∧val us=N%V:=by
 have a:=h.low;have b:=h.sum;rw [List.drop_zero] at a;have hV:0<V:=by omega
 rw [←b,Nat.add_comm];exact ⟨by rw [Nat.add_mul_div_right _ _ hV,Nat.div_eq_of_lt a,Nat.zero_add],by rw [Nat.add_mul_mod_self_right,Nat.mod_eq_of_lt a]⟩
theorem Acb (us:List Nat)(h:Small us)(n:Nat)(hn:n≤us.length)(hV:val us<18446744073709551616^n):val (us.take n)=val us:=by
 have e:=Du (us.take n) (us.drop n);rw [List.take_append_drop,List.length_take,Nat.min_eq_left hn] at e;have:val (us.drop n)=0:=by
  rw [Sg us h n,Nat.div_eq_of_lt hV]
 rw [this,Nat.mul_zero,Nat.add_zero] at e;exact e.symm
theorem Aaw (n:Nat)(k:Nat):val (Ai n++List.replicate k 0)=n:=by
 rw [Du,Fv,Nat.mul_zero,Nat.add_zero,Bz]
theorem Tk (n k:Nat):Small (Ai n++List.replicate k 0):=by
 intro x hx;rcases List.mem_append.1 hx with hx | hx
 ·exact Fd n x hx
 ·exact D3 k x hx
theorem Cq (n k:Nat)(h:n<18446744073709551616^k):(Ai n).length≤k:=by
 by_cases h0:n=0
 ·subst h0;rw [Aw];exact Nat.zero_le _
 ·have a:=Jm n h0;by_cases hk:(Ai n).length≤k
  ·exact hk
  ·have:18446744073709551616^k≤18446744073709551616^((Ai n).length-1):=Nat.pow_le_pow_right (by decide) (by omega);omega
theorem Ps (n k:Nat)(h:18446744073709551616^k≤n):k<(Ai n).length:=by
 have a:=Cp n;by_cases hk:k<(Ai n).length
 ·exact hk
 ·have:18446744073709551616^(Ai n).length≤18446744073709551616^k:=Nat.pow_le_pow_right (by decide) (by omega);omega
theorem Us (m:Nat)(h:m≠0):m*2^(64-bl (nth (Ai m) ((Ai m).length-1)))<18446744073709551616^(Ai m).length ∧
 18446744073709551616^((Ai m).length-1)*9223372036854775808≤m*2^(64-bl (nth (Ai m) ((Ai m).length-1))):=by
 have ht:=Xs m h;have hp:=Bj m h;have hb:=Nr _ (Bo (Fd m) ((Ai m).length-1));have hb0:=Ct _ (Ko m h);have a:=Dg m h;have b:=Bc m;rw [ht] at a b;generalize bl (nth (Ai m) ((Ai m).length-1))=t at *;generalize (Ai m).length=l at *;obtain ⟨i,rfl⟩:∃ i,l=i+1:=⟨l-1,by omega⟩;rw [Nat.add_sub_cancel] at *;have p:∀ q,(18446744073709551616:Nat)^q=2^(64*q):=fun q=>by rw [Nat.pow_mul]
 constructor
 ·have:=Nat.mul_lt_mul_of_pos_right b (Nat.pow_pos (n:=64-t) (show 0<2 by decide));rw [←Nat.pow_add,show 64*i+t+(64-t)=64*(i+1) by omega,←p] at this;exact this
 ·have:=Nat.mul_le_mul_right (2^(64-t)) a;rw [←Nat.pow_add,show 64*i+t-1+(64-t)=64*i+63 by omega,Nat.pow_add,←p] at this;exact this
theorem Afg (vs:List Nat)(h:Small vs)(n:Nat)(hn:vs.length=n)(h0:0<n)(hv:18446744073709551616^(n-1)*9223372036854775808≤val vs):9223372036854775808≤nth vs (n-1):=by
 have e:=Bx vs (n-1) (by omega);rw [show n-1+1=n by omega,List.take_of_length_le (by omega)] at e;have b:=Fp _ (Er h (n-1));rw [List.length_take,Nat.min_eq_left (by omega)] at b;generalize 18446744073709551616^(n-1)=P at *;have:P*9223372036854775808<P*(nth vs (n-1)+1):=by rw [Nat.mul_add];omega
 have:=Nat.lt_of_mul_lt_mul_left this;omega
theorem LongInv.start (n m s:Nat)(us vs:List Nat)(l d:Nat)(hs:Small us)(hl:us.length=l+2+d+1)(hv:val us=n*2^s)(hm:m≠0)(hml:(Ai m).length=l+2)(hn:(Ai n).length=l+2+d)(hV:val vs=m*2^s) :
 LongInv (n*2^s) (val vs) (l+2) us (List.replicate (d+1) 0) (d+1):=by
 refine ⟨hs,D3 _,by rw [hl,List.length_replicate];omega,?_,by rw [Fv,Nat.zero_mul,Nat.zero_add,hv],fun i _=>Ew _ i⟩;rw [Sg us hs,hv,hV,Nat.div_lt_iff_lt_mul (Nat.pow_pos (by decide))];have a:=Cp n;have b:=Jm m hm;rw [hn] at a;rw [hml,show l+2-1=l+1 by omega] at b;have c:18446744073709551616^(l+2+d)=18446744073709551616^(l+1)*18446744073709551616^(d+1):=by rw [←Nat.pow_add];congr 1;omega
 rw [c] at a;have e:=Nat.mul_lt_mul_of_pos_right a (Nat.pow_pos (n:=s) (show 0<2 by decide));refine Nat.lt_of_lt_of_le e ?_;rw [Nat.mul_right_comm];exact Nat.mul_le_mul_right _ (Nat.mul_le_mul_right _ b)
end Go.Proofs.YtabjjdicffcolaaGreatDoor
