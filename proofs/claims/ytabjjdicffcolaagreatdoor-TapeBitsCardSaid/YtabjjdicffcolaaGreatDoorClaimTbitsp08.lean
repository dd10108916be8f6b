/- Plain mathematics, no program: of points with bits enough operations are exact. -/
import Derived.Test.YtabjjdicffcolaaGreatDoorClaimTbitsp02
import Derived.Test.YtabjjdicffcolaaGreatDoorClaimTbitsp07
set_option maxRecDepth 100000
set_option maxHeartbeats 16000000
namespace Go.Proofs.YtabjjdicffcolaaGreatDoor
theorem nth_set (xs:List Nat)(i j y:Nat)(hi:i<xs.length):nth (xs.set i y) j=if i=j then y else nth xs j:=by
 unfold nth;rw [List.getD_eq_getElem?_getD,List.getD_eq_getElem?_getD,List.getElem?_set]
 by_cases e:i=j
 ·subst e;simp [hi]
 ·simp [e]
theorem nth_ge (xs:List Nat)(i:Nat)(h:xs.length≤i):nth xs i=0:=by
 unfold nth;rw [List.getD_eq_getElem?_getD,List.getElem?_eq_none h];rfl
theorem val_set (xs:List Nat)(i y:Nat)(hi:i<xs.length):val (xs.set i y)+18446744073709551616^i*nth xs i=val xs+18446744073709551616^i*y:=by
 induction xs generalizing i with
 | nil=>simp at hi
 | cons x xs ih =>
   cases i with
   | zero=>simp [val,nth];omega
   | succ i =>
     have:=ih i (by simpa using hi);rw [List.set_cons_succ,val,val,nth_cons_succ,Nat.pow_succ];generalize 18446744073709551616^i=p at *;generalize val (xs.set i y)=a at *;generalize val xs=b at *;generalize nth xs i=c at *;have e1:p*18446744073709551616*c=18446744073709551616*(p*c):=by rw [Nat.mul_right_comm,Nat.mul_comm]
     have e2:p*18446744073709551616*y=18446744073709551616*(p*y):=by rw [Nat.mul_right_comm,Nat.mul_comm]
     rw [e1,e2];omega
theorem small_set {xs:List Nat}(h:Small xs)(i y:Nat)(hy:y<18446744073709551616):Small (xs.set i y):=by
 intro x hx
 rcases List.mem_or_eq_of_mem_set hx with h' | rfl
 ·exact h x h'
 ·exact hy
theorem small_replicate (n:Nat):Small (List.replicate n 0):=by
 intro x hx;rw [(List.mem_replicate.1 hx).2];decide
theorem val_replicate (n:Nat):val (List.replicate n 0)=0:=by
 induction n with
 | zero=>rfl
 | succ n ih=>rw [List.replicate_succ,val,ih]
theorem nth_replicate (n i:Nat):nth (List.replicate n 0) i=0:=by
 unfold nth;rw [List.getD_eq_getElem?_getD,List.getElem?_replicate]
 split<;>rfl
theorem or_lt {a b:Nat}(ha:a<18446744073709551616)(hb:b<18446744073709551616):a ||| b<18446744073709551616:=Nat.or_lt_two_pow (n:=64) ha hb
def leftStep (out:List Nat) (q r i x:Nat):List Nat :=
 (out.set (q+i) (nth out (q+i) ||| (x*2^r%18446744073709551616))).set (q+i+1) (nth out (q+i+1) ||| (x/2/2^(63-r)))
def leftF (xs:List Nat) (q r n:Nat):Nat→List Nat
 | 0=>List.replicate n 0
 | k+1=>leftStep (leftF xs q r n k) q r k (nth xs k)
theorem leftF_length (xs:List Nat)(q r n:Nat):∀ k,(leftF xs q r n k).length=n
 | 0=>by simp [leftF]
 | k+1=>by simp [leftF,leftStep,leftF_length xs q r n k]
theorem leftF_small (xs:List Nat)(h:Small xs)(q r n:Nat):∀ k,Small (leftF xs q r n k)
 | 0=>small_replicate n
 | k + 1 => by
   have ih:=leftF_small xs h q r n k;unfold leftF leftStep;refine small_set (small_set ih _ _ (or_lt (nth_lt ih _) (Nat.mod_lt _ (by decide)))) _ _ (or_lt (nth_lt ih _) ?_);refine Nat.lt_of_le_of_lt (Nat.div_le_self _ _) (Nat.lt_of_le_of_lt (Nat.div_le_self _ _) (nth_lt h _))
theorem shift_parts (x r:Nat)(hr:r<64):x/2/2^(63-r)=x*2^r/18446744073709551616:=by
 rw [Nat.div_div_eq_div_mul];have e:(18446744073709551616:Nat)=2*2^(63-r)*2^r:=by
  rw [Nat.mul_assoc,←Nat.pow_add,show 63-r+r=63 by omega]
 rw [e,Nat.mul_div_mul_right _ _ (Nat.pow_pos (by decide))]
theorem or_carry (c x r:Nat)(hr:r<64)(hc:c<2^r):c ||| (x*2^r%18446744073709551616)=c+x*2^r%18446744073709551616:=by
 have e:(18446744073709551616:Nat)=2^(64-r)*2^r:=by
  rw [←Nat.pow_add,show 64-r+r=64 by omega]
 rw [e,Nat.mul_mod_mul_right,Nat.mul_comm,Nat.or_comm,←Nat.two_pow_add_eq_or_of_lt hc,Nat.add_comm]
theorem leftF_inv (xs:List Nat)(h:Small xs)(q r n:Nat)(hr:r<64)(hn:n=q+xs.length+1):∀ k,k≤xs.length →
 val (leftF xs q r n k)=val (xs.take k)*2^r*18446744073709551616^q∧nth (leftF xs q r n k) (q+k)<2^r∧∀ j,q+k<j→nth (leftF xs q r n k) j=0
 | 0, _ => by
   refine ⟨by simp [leftF,val_replicate,val],?_,fun j _=>?_⟩
   ·rw [leftF,nth_replicate];exact Nat.pow_pos (by decide)
   ·rw [leftF,nth_replicate]
 | k + 1, hk => by
   obtain ⟨i1,i2,i3⟩:=leftF_inv xs h q r n hr hn k (by omega);have hl:=leftF_length xs q r n k;have hx:=nth_lt h k;rw [leftF];generalize leftF xs q r n k=out at *;unfold leftStep;have h0:=i3 (q+k+1) (by omega);rw [h0,Nat.zero_or,shift_parts _ r hr,or_carry _ _ r hr i2];have hx2:nth xs k*2^r/18446744073709551616<2^r:=by
    rw [Nat.div_lt_iff_lt_mul (by decide),Nat.mul_comm (2^r)];exact Nat.mul_lt_mul_of_pos_right hx (Nat.pow_pos (by decide))
   generalize hX:nth xs k*2^r=X at *;have l1:q+k<out.length:=by omega
   have l2:q+k+1<(out.set (q+k) (nth out (q+k)+X%18446744073709551616)).length:=by rw [List.length_set];omega
   refine ⟨?_,?_,fun j hj=>?_⟩
   ·have v1 := val_set out (q + k) (nth out (q + k) + X % 18446744073709551616) l1;have v2:=val_set _ (q+k+1) (X/18446744073709551616) l2;rw [nth_set _ _ _ _ l1,if_neg (by omega),h0] at v2;rw [val_take_succ xs k (by omega),Nat.add_mul,Nat.add_mul,←i1,Nat.mul_assoc (18446744073709551616^k),hX];rw [Nat.pow_succ] at v2;have e3:18446744073709551616^k*X*18446744073709551616^q=18446744073709551616^(q+k)*X:=by rw [Nat.mul_right_comm,←Nat.pow_add,Nat.add_comm k q]
    rw [e3];have e4:18446744073709551616^(q+k)*X=18446744073709551616^(q+k)*18446744073709551616*(X/18446744073709551616)+18446744073709551616^(q+k)*(X%18446744073709551616):=by
     rw [Nat.mul_assoc,←Nat.mul_add,Nat.div_add_mod]
    rw [e4];rw [Nat.mul_add] at v1;generalize 18446744073709551616^(q+k)*18446744073709551616*(X/18446744073709551616)=a at *;generalize 18446744073709551616^(q+k)*(X%18446744073709551616)=b at *;generalize 18446744073709551616^(q+k)*nth out (q+k)=c at *;omega
   ·rw [←Nat.add_assoc,nth_set _ _ _ _ l2,if_pos rfl];exact hx2
   ·rw [nth_set _ _ _ _ l2, if_neg (by omega), nth_set _ _ _ _ l1, if_neg (by omega)];exact i3 j (by omega)
theorem two_pow_split (n:Nat):2^n=2^(n%64)*18446744073709551616^(n/64):=by
 have e:(18446744073709551616:Nat)=2^64:=by decide
 rw [e,←Nat.pow_mul,←Nat.pow_add,Nat.mod_add_div]
theorem leftF_val (xs:List Nat)(h:Small xs)(n:Nat):val (leftF xs (n/64) (n%64) (n/64+xs.length+1) xs.length)=val xs*2^n:=by
 have:=(leftF_inv xs h (n/64) (n%64) _ (Nat.mod_lt _ (by decide)) rfl xs.length (Nat.le_refl _)).1;rw [this,List.take_of_length_le (Nat.le_refl _),Nat.mul_assoc,←two_pow_split]
def addS (out ys:List Nat):Nat→List Nat × Nat
 | 0=>(out,0)
 | k + 1 => let s := addS out ys k
   (s.1.set k ((nth s.1 k+nth ys k+s.2)%18446744073709551616),(nth s.1 k+nth ys k+s.2)/18446744073709551616)
theorem addS_succ (out ys:List Nat)(k:Nat):addS out ys (k+1)=((addS out ys k).1.set k ((nth (addS out ys k).1 k+nth ys k+(addS out ys k).2)%18446744073709551616),(nth (addS out ys k).1 k+nth ys k+(addS out ys k).2)/18446744073709551616):=rfl
theorem addS_length (out ys:List Nat):∀ k,(addS out ys k).1.length=out.length
 | 0=>rfl
 | k+1=>by rw [addS_succ,List.length_set,addS_length out ys k]
theorem addS_small (out ys:List Nat)(h:Small out):∀ k,Small (addS out ys k).1
 | 0=>h
 | k+1=>by rw [addS_succ];exact small_set (addS_small out ys h k) _ _ (Nat.mod_lt _ (by decide))
theorem addS_carry (out ys:List Nat)(h:Small out)(h':Small ys):∀ k,(addS out ys k).2≤1
 | 0=>by simp [addS]
 | k + 1 => by
   have a:=addS_carry out ys h h' k;have b:=nth_lt (addS_small out ys h k) k;have c:=nth_lt h' k;rw [addS_succ]
   show (nth (addS out ys k).1 k+nth ys k+(addS out ys k).2)/18446744073709551616≤1
   omega
theorem val_take_succ' (xs:List Nat)(k:Nat):val (xs.take (k+1))=val (xs.take k)+18446744073709551616^k*nth xs k:=by
 by_cases h:k<xs.length
 ·exact val_take_succ xs k h
 ·rw [List.take_of_length_le (by omega),List.take_of_length_le (by omega),nth_ge xs k (by omega)];rfl
theorem addS_val (out ys:List Nat):∀ k,k≤out.length→val (addS out ys k).1+18446744073709551616^k*(addS out ys k).2=val out+val (ys.take k)
 | 0,_=>by simp [addS,val]
 | k + 1, hk => by
   have ih:=addS_val out ys k (by omega);have hl:=addS_length out ys k;rw [addS_succ,val_take_succ'];generalize addS out ys k=s at *;obtain ⟨o,c⟩:=s;simp only at *;generalize hT:nth o k+nth ys k+c=T;have v:=val_set o k (T%18446744073709551616) (by omega);have e:18446744073709551616^(k+1)*(T/18446744073709551616)+18446744073709551616^k*(T%18446744073709551616)=18446744073709551616^k*T:=by
    rw [Nat.pow_succ,Nat.mul_assoc,←Nat.mul_add,Nat.div_add_mod]
   have e2:18446744073709551616^k*T=18446744073709551616^k*nth o k+18446744073709551616^k*nth ys k+18446744073709551616^k*c:=by
    rw [←hT,Nat.mul_add,Nat.mul_add]
   omega
theorem addS_stop (out ys:List Nat)(h:Small out)(k:Nat)(hy:ys.length≤k)(hc:(addS out ys k).2=0):∀ d,k+d≤out.length→addS out ys (k+d)=((addS out ys k).1,0)
 | 0,_=>by rw [Nat.add_zero,←hc]
 | d + 1, hd => by
   have ih:=addS_stop out ys h k hy hc d (by omega);have hlt:=nth_lt (addS_small out ys h k) (k+d);have hl:=addS_length out ys k;rw [←Nat.add_assoc,addS_succ,ih,nth_ge ys (k+d) (by omega)];simp only [Nat.add_zero];rw [Nat.mod_eq_of_lt hlt,Nat.div_eq_of_lt hlt]
   congr 1
   apply List.ext_getElem
   ·simp
   ·intro i h1 h2;rw [List.getElem_set]
    split
    ·rename_i e;subst e;rw [nth,List.getD_eq_getElem?_getD,List.getElem?_eq_getElem h2];rfl
    ·rfl
theorem addS_all (xs ys:List Nat)(h:Small xs)(h':Small ys)(hle:ys.length≤xs.length):val (addS (xs++[0]) ys (xs.length+1)).1=val xs+val ys:=by
 have hs:Small (xs++[0]):=by
  intro x hx
  rcases List.mem_append.1 hx with hx | hx
  ·exact h x hx
  ·have : x = 0 := by simpa using hx
   omega
 have a:=addS_val (xs++[0]) ys (xs.length+1) (by simp);rw [List.take_of_length_le (by omega),val_append,Nat.pow_succ] at a;have b:=val_lt _ h;have c:=val_lt _ h';have d:18446744073709551616^ys.length≤18446744073709551616^xs.length:=Nat.pow_le_pow_right (by decide) hle;have e:val [0]=0:=by simp [val]
 rw [e,Nat.mul_zero,Nat.add_zero] at a;generalize (addS (xs++[0]) ys (xs.length+1)).2=q at *;generalize (addS (xs++[0]) ys (xs.length+1)).1=o at *;generalize 18446744073709551616^xs.length=p at *;generalize 18446744073709551616^ys.length=p' at *;have hq:q=0:=by
  by_cases hq:q=0
  ·exact hq
  ·have : p * 18446744073709551616 * 1 ≤ p * 18446744073709551616 * q := Nat.mul_le_mul_left _ (by omega);omega
 rw [hq,Nat.mul_zero,Nat.add_zero] at a;exact a
end Go.Proofs.YtabjjdicffcolaaGreatDoor
namespace Go.Proofs.YtabjjdicffcolaaGreatDoor
def subS (out ys:List Nat):Nat→List Nat × Nat
 | 0=>(out,0)
 | k + 1 => let s := subS out ys k
   (s.1.set k ((nth s.1 k+18446744073709551616-nth ys k-s.2)%18446744073709551616),if nth s.1 k<nth ys k+s.2 then 1 else 0)
theorem subS_succ (out ys:List Nat)(k:Nat):subS out ys (k+1)=((subS out ys k).1.set k ((nth (subS out ys k).1 k+18446744073709551616-nth ys k-(subS out ys k).2)%18446744073709551616),if nth (subS out ys k).1 k<nth ys k+(subS out ys k).2 then 1 else 0):=rfl
theorem subS_length (out ys:List Nat):∀ k,(subS out ys k).1.length=out.length
 | 0=>rfl
 | k+1=>by rw [subS_succ,List.length_set,subS_length out ys k]
theorem subS_small (out ys:List Nat)(h:Small out):∀ k,Small (subS out ys k).1
 | 0=>h
 | k+1=>by rw [subS_succ];exact small_set (subS_small out ys h k) _ _ (Nat.mod_lt _ (by decide))
theorem subS_borrow (out ys:List Nat):∀ k,(subS out ys k).2≤1
 | 0=>by simp [subS]
 | k + 1 => by
   rw [subS_succ]
   show (if _ then 1 else 0)≤1
   split<;>omega
theorem subS_val (out ys:List Nat)(h:Small out)(h':Small ys):∀ k,k≤out.length→val (subS out ys k).1+val (ys.take k)=val out+18446744073709551616^k*(subS out ys k).2
 | 0,_=>by simp [subS,val]
 | k + 1, hk => by
   have ih:=subS_val out ys h h' k (by omega);have hl:=subS_length out ys k;have hx:=nth_lt (subS_small out ys h k) k;have hy:=nth_lt h' k;have hb:=subS_borrow out ys k;rw [subS_succ,val_take_succ',Nat.pow_succ];generalize subS out ys k=s at *;obtain ⟨o,c⟩:=s;simp only at *;generalize nth ys k=y at *;have v:=val_set o k ((nth o k+18446744073709551616-y-c)%18446744073709551616) (by omega);generalize nth o k=x at *;generalize 18446744073709551616^k=p at *
   by_cases hlt:x<y+c
   ·rw [if_pos hlt, Nat.mod_eq_of_lt (by omega)] at *;have e:p*(x+18446744073709551616-y-c)+p*y+p*c=p*x+p*18446744073709551616:=by
     rw [←Nat.mul_add,←Nat.mul_add,←Nat.mul_add];congr 1;omega
    rw [Nat.mul_one];omega
   ·have e0 : (x + 18446744073709551616 - y - c) % 18446744073709551616 = x - y - c := by omega
    rw [if_neg hlt];rw [e0] at v ⊢;have e:p*(x-y-c)+p*y+p*c=p*x:=by
     rw [←Nat.mul_add,←Nat.mul_add];congr 1;omega
    rw [Nat.mul_zero,Nat.add_zero];omega
theorem subS_all (xs ys:List Nat)(h:Small xs)(h':Small ys)(hle:ys.length≤xs.length)(hv:val ys≤val xs):val (subS xs ys xs.length).1=val xs-val ys:=by
 have a:=subS_val xs ys h h' xs.length (Nat.le_refl _);rw [List.take_of_length_le hle] at a;have b:=val_lt _ (subS_small xs ys h xs.length);rw [subS_length] at b;have c:=subS_borrow xs ys xs.length;generalize (subS xs ys xs.length).2=q at *;have hq:q=0:=by
  by_cases hq:q=0
  ·exact hq
  ·obtain rfl : q = 1 := by omega
   rw [Nat.mul_one] at a;omega
 rw [hq,Nat.mul_zero,Nat.add_zero] at a;omega
theorem mul_step (p c z:Nat) :
 (z+(p%18446744073709551616+c)%18446744073709551616)%18446744073709551616=(p+c+z)%18446744073709551616 ∧
 p/18446744073709551616+(p%18446744073709551616+c)/18446744073709551616+(z+(p%18446744073709551616+c)%18446744073709551616)/18446744073709551616=(p+c+z)/18446744073709551616:=by
 omega
theorem mul_bound (x y c z:Nat)(hx:x<18446744073709551616)(hy:y<18446744073709551616)(hc:c<18446744073709551616)(hz:z<18446744073709551616):(x*y+c+z)/18446744073709551616<18446744073709551616:=by
 have:x*y≤18446744073709551615*18446744073709551615:=Nat.mul_le_mul (by omega) (by omega);omega
def rowS (out:List Nat) (i x:Nat) (ys:List Nat):Nat→List Nat × Nat
 | 0=>(out,0)
 | j + 1 => let s := rowS out i x ys j
   (s.1.set (i+j) ((x*nth ys j+s.2+nth s.1 (i+j))%18446744073709551616),(x*nth ys j+s.2+nth s.1 (i+j))/18446744073709551616)
theorem rowS_succ (out:List Nat)(i x:Nat)(ys:List Nat)(j:Nat):rowS out i x ys (j+1)=((rowS out i x ys j).1.set (i+j) ((x*nth ys j+(rowS out i x ys j).2+nth (rowS out i x ys j).1 (i+j))%18446744073709551616),(x*nth ys j+(rowS out i x ys j).2+nth (rowS out i x ys j).1 (i+j))/18446744073709551616):=rfl
theorem rowS_length (out:List Nat)(i x:Nat)(ys:List Nat):∀ j,(rowS out i x ys j).1.length=out.length
 | 0=>rfl
 | j+1=>by rw [rowS_succ,List.length_set,rowS_length out i x ys j]
theorem rowS_small (out:List Nat)(i x:Nat)(ys:List Nat)(h:Small out):∀ j,Small (rowS out i x ys j).1
 | 0=>h
 | j+1=>by rw [rowS_succ];exact small_set (rowS_small out i x ys h j) _ _ (Nat.mod_lt _ (by decide))
theorem rowS_carry (out:List Nat)(i x:Nat)(ys:List Nat)(h:Small out)(h':Small ys)(hx:x<18446744073709551616):∀ j,(rowS out i x ys j).2<18446744073709551616
 | 0=>by simp [rowS]
 | j + 1 => by
   rw [rowS_succ];exact mul_bound _ _ _ _ hx (nth_lt h' j) (rowS_carry out i x ys h h' hx j) (nth_lt (rowS_small out i x ys h j) _)
theorem rowS_nth (out:List Nat)(i x:Nat)(ys:List Nat):∀ j k,i+j≤k→i+j≤out.length→nth (rowS out i x ys j).1 k=nth out k
 | 0,_,_,_=>rfl
 | j + 1, k, h, hk => by
   rw [rowS_succ]
   show nth ((rowS out i x ys j).1.set (i+j) _) k=_
   rw [nth_set _ _ _ _ (by rw [rowS_length];omega),if_neg (by omega)];exact rowS_nth out i x ys j k (by omega) (by omega)
theorem rowS_val (out:List Nat)(i x:Nat)(ys:List Nat):∀ j,i+j≤out.length →
 val (rowS out i x ys j).1+18446744073709551616^(i+j)*(rowS out i x ys j).2=val out+18446744073709551616^i*(x*val (ys.take j))
 | 0,_=>by simp [rowS,val]
 | j + 1, hj => by
   have ih:=rowS_val out i x ys j (by omega);have hl:=rowS_length out i x ys j;rw [rowS_succ,val_take_succ',←Nat.add_assoc,Nat.pow_succ,Nat.mul_add,Nat.mul_add,←Nat.add_assoc,←ih];generalize rowS out i x ys j=s at *;obtain ⟨o,c⟩:=s;simp only at *;generalize hT:x*nth ys j+c+nth o (i+j)=T;have v:=val_set o (i+j) (T%18446744073709551616) (by omega);have e1:18446744073709551616^i*(x*(18446744073709551616^j*nth ys j))=18446744073709551616^(i+j)*(x*nth ys j):=by
    rw [Nat.pow_add,←Nat.mul_assoc x,Nat.mul_comm x,Nat.mul_assoc,Nat.mul_assoc]
   rw [e1];generalize 18446744073709551616^(i+j)=p at *;have e:p*18446744073709551616*(T/18446744073709551616)+p*(T%18446744073709551616)=p*T:=by
    rw [Nat.mul_assoc,←Nat.mul_add,Nat.div_add_mod]
   have e2:p*T=p*(x*nth ys j)+p*c+p*nth o (i+j):=by rw [←hT,Nat.mul_add,Nat.mul_add]
   omega
def mulF (xs ys:List Nat) (n:Nat):Nat→List Nat
 | 0=>List.replicate n 0
 | i + 1 => let s := rowS (mulF xs ys n i) i (nth xs i) ys ys.length
   s.1.set (i+ys.length) s.2
theorem mulF_succ (xs ys:List Nat)(n i:Nat):mulF xs ys n (i+1)=(rowS (mulF xs ys n i) i (nth xs i) ys ys.length).1.set (i+ys.length) (rowS (mulF xs ys n i) i (nth xs i) ys ys.length).2:=rfl
theorem mulF_length (xs ys:List Nat)(n:Nat):∀ i,(mulF xs ys n i).length=n
 | 0=>by simp [mulF]
 | i+1=>by rw [mulF_succ,List.length_set,rowS_length,mulF_length xs ys n i]
theorem mulF_small (xs ys:List Nat)(n:Nat)(h:Small xs)(h':Small ys):∀ i,Small (mulF xs ys n i)
 | 0=>small_replicate n
 | i + 1 => by
   have ih:=mulF_small xs ys n h h' i;rw [mulF_succ];exact small_set (rowS_small _ _ _ _ ih _) _ _ (rowS_carry _ _ _ _ ih h' (nth_lt h i) _)
theorem mulF_inv (xs ys:List Nat)(h:Small xs)(h':Small ys):∀ i,i≤xs.length →
 val (mulF xs ys (xs.length+ys.length) i)=val (xs.take i)*val ys∧∀ k,i+ys.length≤k→nth (mulF xs ys (xs.length+ys.length) i) k=0
 | 0, _ => by
   refine ⟨by simp [mulF,val_replicate,val],fun k _=>?_⟩;rw [mulF,nth_replicate]
 | i + 1, hi => by
   obtain ⟨i1,i2⟩:=mulF_inv xs ys h h' i (by omega);have hl:=mulF_length xs ys (xs.length+ys.length) i;rw [mulF_succ];generalize mulF xs ys (xs.length+ys.length) i=out at *;have v:=rowS_val out i (nth xs i) ys ys.length (by omega);have hn:=rowS_nth out i (nth xs i) ys ys.length;have hrl:=rowS_length out i (nth xs i) ys ys.length;generalize rowS out i (nth xs i) ys ys.length=s at *;obtain ⟨o,c⟩:=s;simp only at *;have v2:=val_set o (i+ys.length) c (by omega);rw [hn _ (Nat.le_refl _) (by omega),i2 _ (Nat.le_refl _),Nat.mul_zero,Nat.add_zero] at v2;refine ⟨?_,fun k hk=>?_⟩
   ·rw [List.take_of_length_le (Nat.le_refl _)] at v;rw [val_take_succ xs i (by omega),Nat.add_mul,←i1,Nat.mul_assoc,←v];exact v2
   ·rw [nth_set _ _ _ _ (by omega),if_neg (by omega),hn k (by omega) (by omega),i2 k (by omega)]
theorem mulF_val (xs ys:List Nat)(h:Small xs)(h':Small ys):val (mulF xs ys (xs.length+ys.length) xs.length)=val xs*val ys:=by
 rw [(mulF_inv xs ys h h' xs.length (Nat.le_refl _)).1,List.take_of_length_le (Nat.le_refl _)]
def rightL (xs:List Nat) (r i:Nat):Nat:=if i+1<xs.length then (nth xs i/2^r) ||| (nth xs (i+1)*2%18446744073709551616*2^(63-r)%18446744073709551616) else nth xs i/2^r
def rightF (xs:List Nat) (r:Nat):Nat→List Nat
 | 0=>List.replicate xs.length 0
 | k+1=>(rightF xs r k).set k (rightL xs r k)
theorem rightF_length (xs:List Nat)(r:Nat):∀ k,(rightF xs r k).length=xs.length
 | 0=>by simp [rightF]
 | k+1=>by rw [rightF,List.length_set,rightF_length xs r k]
theorem rightL_eq (xs:List Nat)(h:Small xs)(r i:Nat)(hr:r<64):rightL xs r i=nth xs i/2^r+nth xs (i+1)*2^(64-r)%18446744073709551616:=by
 have e64:(18446744073709551616:Nat)=2^(64-r)*2^r:=by
  rw [←Nat.pow_add,show 64-r+r=64 by omega]
 unfold rightL
 by_cases hi:i+1<xs.length
 ·rw [if_pos hi];have e1:nth xs (i+1)*2%18446744073709551616*2^(63-r)%18446744073709551616=nth xs (i+1)*2^(64-r)%18446744073709551616:=by
   rw [Nat.mod_mul_mod,Nat.mul_assoc,show (64-r)=(63-r)+1 by omega,Nat.pow_succ,Nat.mul_comm 2]
  have e2:nth xs i/2^r<2^(64-r):=by
   rw [Nat.div_lt_iff_lt_mul (Nat.pow_pos (by decide)),←e64];exact nth_lt h i
  rw [e1];have e3:nth xs (i+1)*2^(64-r)%18446744073709551616=2^(64-r)*(nth xs (i+1)%2^r):=by
   rw [e64,Nat.mul_comm (nth xs (i+1)),Nat.mul_mod_mul_left]
  rw [e3,Nat.or_comm,←Nat.two_pow_add_eq_or_of_lt e2,Nat.add_comm]
 ·rw [if_neg hi,nth_ge xs (i+1) (by omega),Nat.zero_mul,Nat.zero_mod,Nat.add_zero]
theorem rightL_lt (xs:List Nat)(h:Small xs)(r i:Nat)(_hr:r<64):rightL xs r i<18446744073709551616:=by
 unfold rightL;have a:=nth_lt h i;have b:nth xs i/2^r≤nth xs i:=Nat.div_le_self _ _
 split
 ·exact or_lt (by omega) (Nat.mod_lt _ (by decide))
 ·omega
theorem rightF_small (xs:List Nat)(h:Small xs)(r:Nat)(hr:r<64):∀ k,Small (rightF xs r k)
 | 0=>small_replicate _
 | k+1=>small_set (rightF_small xs h r hr k) _ _ (rightL_lt xs h r k hr)
theorem rightF_nth (xs:List Nat)(r:Nat):∀ k j,k≤xs.length→nth (rightF xs r k) j=if j<k then rightL xs r j else 0
 | 0,j,_=>by rw [rightF,nth_replicate,if_neg (by omega)]
 | k + 1, j, hk => by
   rw [rightF,nth_set _ _ _ _ (by rw [rightF_length];omega),rightF_nth xs r k j (by omega)]
   by_cases e:k=j
   ·subst e;rw [if_pos rfl,if_pos (by omega)]
   ·rw [if_neg e]
    by_cases h2:j<k
    ·rw [if_pos h2,if_pos (by omega)]
    ·rw [if_neg h2,if_neg (by omega)]
theorem right_take (xs:List Nat)(h:Small xs)(r:Nat)(hr:r<64)(o:List Nat)(ho:∀ j,j<xs.length→nth o j=rightL xs r j):∀ k,k≤xs.length→k≤o.length →
 val (o.take k)*2^r+nth xs 0%2^r=val (xs.take k)+18446744073709551616^k*(nth xs k%2^r)
 | 0,_,_=>by simp [val]
 | k + 1, hk, hk' => by
   have ih:=right_take xs h r hr o ho k (by omega) (by omega);have e64:(18446744073709551616:Nat)=2^(64-r)*2^r:=by
    rw [←Nat.pow_add,show 64-r+r=64 by omega]
   rw [val_take_succ o k (by omega),val_take_succ xs k (by omega),ho k (by omega),rightL_eq xs h r k hr,Nat.add_mul,Nat.pow_succ];have e3:nth xs (k+1)*2^(64-r)%18446744073709551616*2^r=18446744073709551616*(nth xs (k+1)%2^r):=by
    rw [e64,Nat.mul_comm (nth xs (k+1)),Nat.mul_mod_mul_left,Nat.mul_right_comm]
   have e4:nth xs k/2^r*2^r+nth xs k%2^r=nth xs k:=by rw [Nat.mul_comm];exact Nat.div_add_mod _ _
   generalize 18446744073709551616^k=p at *;have e5:p*(nth xs k/2^r+nth xs (k+1)*2^(64-r)%18446744073709551616)*2^r=p*(nth xs k/2^r*2^r)+p*(18446744073709551616*(nth xs (k+1)%2^r)):=by
    rw [Nat.mul_assoc,Nat.add_mul,e3,Nat.mul_add]
   rw [e5,←Nat.mul_assoc p 18446744073709551616];have e6:p*nth xs k=p*(nth xs k/2^r*2^r)+p*(nth xs k%2^r):=by rw [←Nat.mul_add,e4]
   omega
theorem rightF_val (xs:List Nat)(h:Small xs)(r:Nat)(hr:r<64):val (rightF xs r xs.length)=val xs/2^r:=by
 have hl:=rightF_length xs r xs.length;have:=right_take xs h r hr (rightF xs r xs.length) (fun j hj=>by rw [rightF_nth xs r _ j (Nat.le_refl _),if_pos hj]) xs.length (Nat.le_refl _) (by omega);rw [List.take_of_length_le (by omega),List.take_of_length_le (Nat.le_refl _),nth_ge xs xs.length (Nat.le_refl _),Nat.zero_mod,Nat.mul_zero,Nat.add_zero] at this;have hlt:nth xs 0%2^r<2^r:=Nat.mod_lt _ (Nat.pow_pos (by decide));rw [←this,Nat.add_comm,Nat.add_mul_div_right _ _ (Nat.pow_pos (by decide)),Nat.div_eq_of_lt hlt,Nat.zero_add]
theorem val_drop (xs:List Nat)(h:Small xs)(k:Nat):val (xs.drop k)=val xs/18446744073709551616^k:=by
 by_cases hk:k≤xs.length
 ·have e := val_append (xs.take k) (xs.drop k);rw [List.take_append_drop,List.length_take,Nat.min_eq_left hk] at e;have b:=val_lt _ (small_take h k);rw [List.length_take,Nat.min_eq_left hk] at b;rw [e,Nat.add_mul_div_left _ _ (Nat.pow_pos (by decide)),Nat.div_eq_of_lt b,Nat.zero_add]
 ·rw [List.drop_eq_nil_of_le (by omega), Nat.div_eq_of_lt]
  ·rfl
  ·exact Nat.lt_of_lt_of_le (val_lt _ h) (Nat.pow_le_pow_right (by decide) (by omega))
theorem right_all (xs:List Nat)(h:Small xs)(n:Nat):val (rightF (xs.drop (n/64)) (n%64) (xs.drop (n/64)).length)=val xs/2^n:=by
 rw [rightF_val _ (small_drop h _) _ (Nat.mod_lt _ (by decide)),val_drop xs h,Nat.div_div_eq_div_mul,two_pow_split n,Nat.mul_comm]
end Go.Proofs.YtabjjdicffcolaaGreatDoor
namespace Go.Proofs.YtabjjdicffcolaaGreatDoor
structure HalfInv (u d yn1 yn0 q r:Nat):Prop where
 sum:u=q*yn1+r
 ge:(u*4294967296+d)/(yn1*4294967296+yn0)≤q
theorem half_start (u d yn1 yn0:Nat)(hd:d<4294967296)(h1:0<yn1):HalfInv u d yn1 yn0 (u/yn1) (u%yn1):=by
 refine ⟨by rw [Nat.mul_comm];exact (Nat.div_add_mod u yn1).symm,?_⟩;have e:(u*4294967296+d)/(yn1*4294967296)=u/yn1:=by
  rw [Nat.mul_comm yn1,←Nat.div_div_eq_div_mul]
  congr 1
  omega
 rw [←e];exact Nat.div_le_div_left (by omega) (by omega)
theorem half_done {u d yn1 yn0 q r:Nat}(h:HalfInv u d yn1 yn0 q r)(h1:0<yn1)(hc:q*yn0≤4294967296*r+d):q=(u*4294967296+d)/(yn1*4294967296+yn0):=by
 refine Nat.le_antisymm ?_ h.ge;rw [Nat.le_div_iff_mul_le (by omega),h.sum,Nat.mul_add,Nat.add_mul,Nat.mul_assoc q yn1,←Nat.mul_assoc];have:r*4294967296=4294967296*r:=Nat.mul_comm _ _;omega
theorem half_less {u d yn1 yn0 q r:Nat}(h:HalfInv u d yn1 yn0 q r)(hu:u<yn1*4294967296+yn0)(hd:d<4294967296)(_h1:0<yn1)(hc:4294967296≤q∨4294967296*r+d<q*yn0) :
 1≤q∧HalfInv u d yn1 yn0 (q-1) (r+yn1):=by
 have key:(u*4294967296+d)/(yn1*4294967296+yn0)<q:=by
  rw [Nat.div_lt_iff_lt_mul (by omega)]
  rcases hc with hc | hc
  ·have : 4294967296 * (yn1 * 4294967296 + yn0) ≤ q * (yn1 * 4294967296 + yn0) := Nat.mul_le_mul_right _ hc;omega
  ·rw [h.sum, Nat.mul_add, Nat.add_mul, ← Nat.mul_assoc];have:r*4294967296=4294967296*r:=Nat.mul_comm _ _;omega
 have h1:1≤q:=Nat.lt_of_le_of_lt (Nat.zero_le _) key;refine ⟨h1,?_,Nat.le_sub_one_of_lt key⟩;have hs:=h.sum;clear key hc h;obtain ⟨k,rfl⟩:∃ k,q=k+1:=⟨q-1,by omega⟩;rw [Nat.add_sub_cancel,hs,Nat.add_mul];omega
theorem half_break {u d yn1 yn0 q r:Nat}(h:HalfInv u d yn1 yn0 q r)(hu:u<yn1*4294967296+yn0)(h0:yn0<4294967296)(h1:0<yn1)(hr:4294967296≤r):q=(u*4294967296+d)/(yn1*4294967296+yn0):=by
 have hq:q<4294967296:=by
  have a:q*yn1<yn1*4294967296:=by have:=h.sum;omega
  rw [Nat.mul_comm] at a;exact Nat.lt_of_mul_lt_mul_left a
 refine half_done h h1 ?_;have:q*yn0≤4294967296*4294967296:=Nat.mul_le_mul (by omega) (by omega);omega
theorem half_rest (u d Y q:Nat)(hY:Y<18446744073709551616)(h0:0<Y)(hq:q=(u*4294967296+d)/Y) :
 (((u*4294967296:Int)+d)-q*Y)%18446744073709551616=(((u*4294967296+d)%Y:Nat):Int):=by
 have a:=Nat.div_add_mod (u*4294967296+d) Y;rw [←hq] at a;have b:=Nat.mod_lt (u*4294967296+d) h0;have c:(q:Int)*Y=((Y*q:Nat):Int):=by rw [Int.natCast_mul,Int.mul_comm]
 rw [c];generalize Y*q=p at *;generalize (u*4294967296+d)%Y=t at *;omega
theorem two_halves (N Y lo hi:Nat)(h0:0<Y)(hN:N=hi*4294967296+lo)(_hl:lo<4294967296) :
 N/Y=hi/Y*4294967296+(hi%Y*4294967296+lo)/Y∧N%Y=(hi%Y*4294967296+lo)%Y:=by
 have a:=Nat.div_add_mod hi Y;have e:N=Y*(hi/Y*4294967296)+(hi%Y*4294967296+lo):=by
  rw [hN,←Nat.mul_assoc,←Nat.add_assoc,←Nat.add_mul,a]
 rw [e];exact ⟨by rw [Nat.mul_add_div h0],by rw [Nat.mul_add_mod]⟩
theorem shift_two (hi lo y s:Nat)(hs:s<64)(hlo:lo<18446744073709551616)(hlt:hi<y) :
 (hi*18446744073709551616+lo)*2^s=(hi*2^s+lo/2^(64-s))*18446744073709551616+lo*2^s%18446744073709551616∧hi*2^s+lo/2^(64-s)<y*2^s∧lo/2^(64-s)<2^s∧lo/2^(64-s)=lo*2^s/18446744073709551616:=by
 have e64:(18446744073709551616:Nat)=2^(64-s)*2^s:=by
  rw [←Nat.pow_add,show 64-s+s=64 by omega]
 have e1:lo/2^(64-s)=lo*2^s/18446744073709551616:=by
  rw [e64,Nat.mul_div_mul_right _ _ (Nat.pow_pos (by decide))]
 have h2:lo/2^(64-s)<2^s:=by
  rw [Nat.div_lt_iff_lt_mul (Nat.pow_pos (by decide)),Nat.mul_comm (2^s),←e64];exact hlo
 refine ⟨?_,?_,h2,e1⟩
 ·have := Nat.div_add_mod (lo * 2 ^ s) 18446744073709551616;rw [←e1] at this;rw [Nat.add_mul,Nat.add_mul,Nat.mul_right_comm];omega
 ·have : (hi + 1) * 2 ^ s ≤ y * 2 ^ s := Nat.mul_le_mul_right _ hlt;rw [Nat.add_mul] at this;omega
theorem half_bound (u d Y:Nat)(hu:u<Y)(hd:d<4294967296):(u*4294967296+d)/Y<4294967296:=by
 rw [Nat.div_lt_iff_lt_mul (by omega)];omega
end Go.Proofs.YtabjjdicffcolaaGreatDoor
namespace Go.Proofs.YtabjjdicffcolaaGreatDoor
def shS (xs:List Nat) (b:Nat):Nat→List Nat × Nat
 | 0=>(List.replicate xs.length 0,0)
 | d + 1 => let s := shS xs b d
   (s.1.set (xs.length-1-d) ((s.2*18446744073709551616+nth xs (xs.length-1-d))/b),(s.2*18446744073709551616+nth xs (xs.length-1-d))%b)
theorem shS_succ (xs:List Nat)(b d:Nat):shS xs b (d+1)=((shS xs b d).1.set (xs.length-1-d) (((shS xs b d).2*18446744073709551616+nth xs (xs.length-1-d))/b),((shS xs b d).2*18446744073709551616+nth xs (xs.length-1-d))%b):=rfl
theorem shS_length (xs:List Nat)(b:Nat):∀ d,(shS xs b d).1.length=xs.length
 | 0=>by simp [shS]
 | d+1=>by rw [shS_succ,List.length_set,shS_length xs b d]
theorem shS_rest (xs:List Nat)(b:Nat)(hb:0<b):∀ d,(shS xs b d).2<b
 | 0=>by simpa [shS] using hb
 | d+1=>by rw [shS_succ];exact Nat.mod_lt _ hb
theorem short_limb (r x b:Nat)(hr:r<b)(hx:x<18446744073709551616):(r*18446744073709551616+x)/b<18446744073709551616:=by
 rw [Nat.div_lt_iff_lt_mul (by omega)];omega
theorem shS_small (xs:List Nat)(h:Small xs)(b:Nat)(hb:0<b):∀ d,Small (shS xs b d).1
 | 0=>small_replicate _
 | d + 1 => by
   rw [shS_succ];exact small_set (shS_small xs h b hb d) _ _ (short_limb _ _ _ (shS_rest xs b hb d) (nth_lt h _))
theorem shS_nth (xs:List Nat)(b:Nat):∀ d i,d≤xs.length→i<xs.length-d→nth (shS xs b d).1 i=0
 | 0,i,_,_=>nth_replicate _ i
 | d + 1, i, hd, hi => by
   rw [shS_succ]
   show nth ((shS xs b d).1.set _ _) i=0
   rw [nth_set _ _ _ _ (by rw [shS_length];omega),if_neg (by omega)];exact shS_nth xs b d i (by omega) (by omega)
theorem shS_val (xs:List Nat)(h:Small xs)(b:Nat):∀ d,d≤xs.length→val (shS xs b d).1*b+18446744073709551616^(xs.length-d)*(shS xs b d).2+val (xs.take (xs.length-d))=val xs
 | 0, _ => by
   rw [shS,Nat.sub_zero,List.take_of_length_le (Nat.le_refl _)]
   simp [val_replicate]
 | d + 1, hd => by
   have ih:=shS_val xs h b d (by omega);have hz:=shS_nth xs b d (xs.length-1-d) (by omega) (by omega);have hl:=shS_length xs b d;rw [shS_succ];generalize shS xs b d=s at *;obtain ⟨o,r⟩:=s;simp only at *;have e:xs.length-d=(xs.length-1-d)+1:=by omega
   have e':xs.length-(d+1)=xs.length-1-d:=by omega
   rw [e,Nat.pow_succ,val_take_succ xs _ (by omega)] at ih;rw [e'];generalize xs.length-1-d=i at *;have v:=val_set o i ((r*18446744073709551616+nth xs i)/b) (by omega);rw [hz,Nat.mul_zero,Nat.add_zero] at v;rw [v,Nat.add_mul];have a:=Nat.div_add_mod (r*18446744073709551616+nth xs i) b;generalize (r*18446744073709551616+nth xs i)/b=q at *;generalize (r*18446744073709551616+nth xs i)%b=t at *;generalize 18446744073709551616^i=p at *;have e2:p*q*b+p*t=p*18446744073709551616*r+p*nth xs i:=by
    rw [Nat.mul_assoc,←Nat.mul_add,Nat.mul_comm q,a,Nat.mul_add,Nat.mul_comm r,Nat.mul_assoc]
   omega
theorem shS_all (xs:List Nat)(h:Small xs)(b:Nat)(hb:0<b):val (shS xs b xs.length).1=val xs/b∧(shS xs b xs.length).2=val xs%b:=by
 have a:=shS_val xs h b xs.length (Nat.le_refl _);have r:=shS_rest xs b hb xs.length;rw [Nat.sub_self,Nat.pow_zero,Nat.one_mul,List.take_zero,val,Nat.add_zero] at a;rw [←a];constructor
 ·rw [Nat.add_comm,Nat.add_mul_div_right _ _ hb,Nat.div_eq_of_lt r,Nat.zero_add]
 ·rw [Nat.add_comm,Nat.add_mul_mod_self_right,Nat.mod_eq_of_lt r]
structure Guess (U3 V2 v1 v2 u2 x r:Nat):Prop where
 sum:U3=x*(v1*18446744073709551616)+r*18446744073709551616+u2
 two:V2=v1*18446744073709551616+v2
theorem guess_more {U3 V2 v1 v2 u2 x r:Nat}(h:Guess U3 V2 v1 v2 u2 x r)(hx:x<18446744073709551616)(h2:v2<18446744073709551616)(hc:x*v2≤r*18446744073709551616+u2∨18446744073709551616≤r):x*V2≤U3:=by
 rw [h.sum,h.two,Nat.mul_add];have:x*v2≤18446744073709551616*18446744073709551616:=Nat.mul_le_mul (by omega) (by omega)
 rcases hc with hc | hc
 ·omega
 ·omega
theorem guess_less {U3 V2 v1 v2 u2 x r:Nat}(h:Guess U3 V2 v1 v2 u2 x r)(hc:r*18446744073709551616+u2<x*v2):U3<x*V2∧Guess U3 V2 v1 v2 u2 (x-1) (r+v1):=by
 have hx:1≤x:=by
  by_cases e:x=0
  ·subst e;omega
  ·omega
 obtain ⟨k,rfl⟩:∃ k,x=k+1:=⟨x-1,by omega⟩;refine ⟨?_,⟨?_,h.two⟩⟩
 ·rw [h.sum,h.two,Nat.mul_add];omega
 ·rw [Nat.add_sub_cancel,h.sum,Nat.add_mul,Nat.add_mul];omega
theorem guess_end (U3 V2 P u' v' x:Nat)(_hu:u'<P)(hv:v'<P)(hx:x<18446744073709551616)(h1:x*V2≤U3)(hV:18446744073709551616≤V2)(hq:(U3*P+u')/(V2*P+v')≤x):x=(U3*P+u')/(V2*P+v')∨x=(U3*P+u')/(V2*P+v')+1:=by
 have hp:0<P:=by omega
 have hV0:0<V2*P+v':=by
  have:18446744073709551616*P≤V2*P:=Nat.mul_le_mul_right _ hV;omega
 have a:(x-1)≤(U3*P+u')/(V2*P+v'):=by
  rw [Nat.le_div_iff_mul_le hV0]
  by_cases e:x=0
  ·subst e;simp
  ·obtain ⟨k, rfl⟩ : ∃ k, x = k + 1 := ⟨x - 1, by omega⟩;rw [Nat.add_sub_cancel,Nat.mul_add];have b:(k+1)*V2*P≤U3*P:=Nat.mul_le_mul_right _ h1;rw [Nat.add_mul,Nat.add_mul,Nat.one_mul] at b;have c:18446744073709551616*P≤V2*P:=Nat.mul_le_mul_right _ hV;have d:k*v'≤18446744073709551616*P:=Nat.mul_le_mul (by omega) (by omega);have e:k*(V2*P)=k*V2*P:=(Nat.mul_assoc _ _ _).symm;omega
 generalize (U3*P+u')/(V2*P+v')=q at *;omega
theorem guess_keep (U3 V2 P u' v' x:Nat)(hu:u'<P)(h:U3<x*V2)(hV:0<V2):(U3*P+u')/(V2*P+v')≤x-1:=by
 have hp:0<P:=by omega
 have hV0:0<V2*P+v':=by
  have:=Nat.mul_pos hV hp;omega
 have:(U3*P+u')/(V2*P+v')<x:=by
  rw [Nat.div_lt_iff_lt_mul hV0,Nat.mul_add];have a:(U3+1)*P≤x*V2*P:=Nat.mul_le_mul_right _ h;rw [Nat.add_mul,Nat.mul_assoc] at a;omega
 exact Nat.le_sub_one_of_lt this
theorem guess_start (U2 u2 v1 v2 P u' v':Nat)(hu2:u2<18446744073709551616)(hu:u'<P)(hv1:0<v1) :
 ((U2*18446744073709551616+u2)*P+u')/((v1*18446744073709551616+v2)*P+v')≤U2/v1:=by
 have hp:0<P:=by omega
 have c0:=Nat.div_mul_le_self ((U2*18446744073709551616+u2)*P+u') ((v1*18446744073709551616+v2)*P+v');generalize ((U2*18446744073709551616+u2)*P+u')/((v1*18446744073709551616+v2)*P+v')=a at *;rw [Nat.le_div_iff_mul_le hv1];have c1:a*v1*(18446744073709551616*P)<(U2+1)*(18446744073709551616*P):=by
  have e1:a*((v1*18446744073709551616+v2)*P+v')=a*v1*(18446744073709551616*P)+a*(v2*P)+a*v':=by
   rw [Nat.mul_add,Nat.add_mul,Nat.mul_add,Nat.mul_assoc v1,←Nat.mul_assoc a v1]
  have e2:(U2*18446744073709551616+u2)*P=U2*(18446744073709551616*P)+u2*P:=by rw [Nat.add_mul,Nat.mul_assoc]
  have e3:(u2+1)*P≤18446744073709551616*P:=Nat.mul_le_mul_right _ hu2;rw [e1,e2] at c0;rw [Nat.add_mul U2,Nat.one_mul];rw [Nat.add_mul] at e3;generalize 18446744073709551616*P=Q at *;omega
 have:=Nat.lt_of_mul_lt_mul_right c1;omega
def msS (wl:List Nat) (x:Nat) (vs:List Nat):Nat→List Nat × Nat × Nat
 | 0=>(wl,0,0)
 | k + 1 => let s := msS wl x vs k
   (s.1.set k ((nth s.1 k+18446744073709551616-(x*nth vs k+s.2.1)%18446744073709551616-s.2.2)%18446744073709551616),(x*nth vs k+s.2.1)/18446744073709551616,
     if nth s.1 k<(x*nth vs k+s.2.1)%18446744073709551616+s.2.2 then 1 else 0)
theorem msS_succ (wl:List Nat)(x:Nat)(vs:List Nat)(k:Nat):msS wl x vs (k+1)=((msS wl x vs k).1.set k ((nth (msS wl x vs k).1 k+18446744073709551616-(x*nth vs k+(msS wl x vs k).2.1)%18446744073709551616-(msS wl x vs k).2.2)%18446744073709551616),(x*nth vs k+(msS wl x vs k).2.1)/18446744073709551616,
 if nth (msS wl x vs k).1 k<(x*nth vs k+(msS wl x vs k).2.1)%18446744073709551616+(msS wl x vs k).2.2 then 1 else 0):=rfl
theorem msS_length (wl:List Nat)(x:Nat)(vs:List Nat):∀ k,(msS wl x vs k).1.length=wl.length
 | 0=>rfl
 | k+1=>by rw [msS_succ,List.length_set,msS_length wl x vs k]
theorem msS_small (wl:List Nat)(x:Nat)(vs:List Nat)(h:Small wl):∀ k,Small (msS wl x vs k).1
 | 0=>h
 | k+1=>by rw [msS_succ];exact small_set (msS_small wl x vs h k) _ _ (Nat.mod_lt _ (by decide))
theorem msS_carry (wl:List Nat)(x:Nat)(vs:List Nat)(hx:x<18446744073709551616)(h':Small vs):∀ k,(msS wl x vs k).2.1<18446744073709551616
 | 0=>by simp [msS]
 | k + 1 => by
   rw [msS_succ];have:=mul_bound x (nth vs k) (msS wl x vs k).2.1 0 hx (nth_lt h' k) (msS_carry wl x vs hx h' k) (by decide)
   rwa [Nat.add_zero] at this
theorem msS_borrow (wl:List Nat)(x:Nat)(vs:List Nat):∀ k,(msS wl x vs k).2.2≤1
 | 0=>by simp [msS]
 | k + 1 => by
   rw [msS_succ]
   show (if _ then 1 else 0)≤1
   split<;>omega
theorem sub_limb (p x y c:Nat)(hx:x<18446744073709551616)(hy:y<18446744073709551616)(hc:c≤1) :
 p*((x+18446744073709551616-y-c)%18446744073709551616)+p*y+p*c=p*x+p*18446744073709551616*(if x<y+c then 1 else 0):=by
 by_cases hlt:x<y+c
 ·rw [if_pos hlt, Nat.mod_eq_of_lt (by omega), Nat.mul_one, ← Nat.mul_add, ← Nat.mul_add, ← Nat.mul_add]
  congr 1;omega
 ·have e0 : (x + 18446744073709551616 - y - c) % 18446744073709551616 = x - y - c := by omega
  rw [if_neg hlt,e0,Nat.mul_zero,Nat.add_zero,←Nat.mul_add,←Nat.mul_add]
  congr 1;omega
theorem msS_val (wl:List Nat)(x:Nat)(vs:List Nat)(h:Small wl):∀ k,k≤wl.length →
 val (msS wl x vs k).1+x*val (vs.take k)=val wl+18446744073709551616^k*((msS wl x vs k).2.1+(msS wl x vs k).2.2)
 | 0,_=>by simp [msS,val]
 | k + 1, hk => by
   have ih:=msS_val wl x vs h k (by omega);have hl:=msS_length wl x vs k;have hu:=nth_lt (msS_small wl x vs h k) k;have hb:=msS_borrow wl x vs k;rw [msS_succ,val_take_succ',Nat.pow_succ];generalize msS wl x vs k=s at *;obtain ⟨o,c,b⟩:=s;simp only at *;generalize hT:x*nth vs k+c=T;have v:=val_set o k ((nth o k+18446744073709551616-T%18446744073709551616-b)%18446744073709551616) (by omega);have sl:=sub_limb (18446744073709551616^k) (nth o k) (T%18446744073709551616) b hu (Nat.mod_lt _ (by decide)) hb;generalize (if nth o k<T%18446744073709551616+b then 1 else 0)=b' at *;generalize (nth o k+18446744073709551616-T%18446744073709551616-b)%18446744073709551616=z at *
   generalize 18446744073709551616^k=p at *;have e:p*18446744073709551616*(T/18446744073709551616)+p*(T%18446744073709551616)=p*T:=by
    rw [Nat.mul_assoc,←Nat.mul_add,Nat.div_add_mod]
   have e2:p*T=x*(p*nth vs k)+p*c:=by rw [←hT,Nat.mul_add,Nat.mul_left_comm]
   rw [Nat.mul_add x,Nat.mul_add (p*18446744073709551616)];rw [Nat.mul_add] at ih;omega
theorem addS_window (wl vs:List Nat)(n:Nat)(hl:wl.length=n+1)(hv:vs.length=n):val (addS wl vs n).1+18446744073709551616^n*(addS wl vs n).2=val wl+val vs:=by
 have:=addS_val wl vs n (by omega)
 rwa [List.take_of_length_le (by omega)] at this
theorem digit_fits (wl vs:List Nat)(x n:Nat)(h:Small wl)(hl:wl.length=n+1)(hv:vs.length=n)(hx:x=val wl/val vs)(hc:(msS wl x vs n).2.1<18446744073709551616) :
 val ((msS wl x vs n).1.set n ((nth (msS wl x vs n).1 n+18446744073709551616-(msS wl x vs n).2.1-(msS wl x vs n).2.2)%18446744073709551616))=val wl%val vs ∧
 (if nth (msS wl x vs n).1 n<(msS wl x vs n).2.1+(msS wl x vs n).2.2 then 1 else 0)=0:=by
 have a:=msS_val wl x vs h n (by omega);rw [List.take_of_length_le (by omega)] at a;have b:=val_set (msS wl x vs n).1 n ((nth (msS wl x vs n).1 n+18446744073709551616-(msS wl x vs n).2.1-(msS wl x vs n).2.2)%18446744073709551616) (by rw [msS_length];omega);have sm:=small_set (msS_small wl x vs h n) n ((nth (msS wl x vs n).1 n+18446744073709551616-(msS wl x vs n).2.1-(msS wl x vs n).2.2)%18446744073709551616) (Nat.mod_lt _ (by decide));have lt:=val_lt _ sm;rw [List.length_set,msS_length,hl,Nat.pow_succ] at lt;have sl:=sub_limb (18446744073709551616^n) (nth (msS wl x vs n).1 n) (msS wl x vs n).2.1 (msS wl x vs n).2.2 (nth_lt (msS_small wl x vs h n) n) hc (msS_borrow wl x vs n)
 have dm:=Nat.div_add_mod (val wl) (val vs);rw [←hx,Nat.mul_comm] at dm;generalize (nth (msS wl x vs n).1 n+18446744073709551616-(msS wl x vs n).2.1-(msS wl x vs n).2.2)%18446744073709551616=z at *;generalize val ((msS wl x vs n).1.set n z)=V' at *;rw [Nat.mul_add] at a
 by_cases hlt:nth (msS wl x vs n).1 n<(msS wl x vs n).2.1+(msS wl x vs n).2.2
 ·rw [if_pos hlt, Nat.mul_one] at sl
  exfalso
  generalize 18446744073709551616^n=p at *;omega
 ·rw [if_neg hlt, Nat.mul_zero, Nat.add_zero] at sl;refine ⟨?_,if_neg hlt⟩;generalize 18446744073709551616^n=p at *;omega
theorem digit_over (wl vs:List Nat)(x n:Nat)(h:Small wl)(hl:wl.length=n+1)(hv:vs.length=n)(hV:0<val vs)(hx:x=val wl/val vs+1)(hc:(msS wl x vs n).2.1<18446744073709551616) :
 val ((msS wl x vs n).1.set n ((nth (msS wl x vs n).1 n+18446744073709551616-(msS wl x vs n).2.1-(msS wl x vs n).2.2)%18446744073709551616))+val vs=val wl%val vs+18446744073709551616^n*18446744073709551616 ∧
 (if nth (msS wl x vs n).1 n<(msS wl x vs n).2.1+(msS wl x vs n).2.2 then 1 else 0)=1:=by
 have a:=msS_val wl x vs h n (by omega);rw [List.take_of_length_le (by omega)] at a;have b:=val_set (msS wl x vs n).1 n ((nth (msS wl x vs n).1 n+18446744073709551616-(msS wl x vs n).2.1-(msS wl x vs n).2.2)%18446744073709551616) (by rw [msS_length];omega);have sl:=sub_limb (18446744073709551616^n) (nth (msS wl x vs n).1 n) (msS wl x vs n).2.1 (msS wl x vs n).2.2 (nth_lt (msS_small wl x vs h n) n) hc (msS_borrow wl x vs n);have dm:=Nat.div_add_mod (val wl) (val vs);have ml:=Nat.mod_lt (val wl) hV;rw [hx,Nat.add_mul,Nat.one_mul,←hx,Nat.mul_comm (val wl/val vs)] at a;generalize (nth (msS wl x vs n).1 n+18446744073709551616-(msS wl x vs n).2.1-(msS wl x vs n).2.2)%18446744073709551616=z at *
 generalize val ((msS wl x vs n).1.set n z)=V' at *;rw [Nat.mul_add] at a
 by_cases hlt:nth (msS wl x vs n).1 n<(msS wl x vs n).2.1+(msS wl x vs n).2.2
 ·rw [if_pos hlt, Nat.mul_one] at sl;refine ⟨?_,if_pos hlt⟩;generalize 18446744073709551616^n=p at *;omega
 ·rw [if_neg hlt, Nat.mul_zero, Nat.add_zero] at sl
  exfalso
  generalize 18446744073709551616^n=p at *;omega
theorem digit_back (w2 vs:List Nat)(n r:Nat)(h:Small w2)(h':Small vs)(hl:w2.length=n+1)(hv:vs.length=n)(_hr:r<val vs)(he:val w2+val vs=r+18446744073709551616^n*18446744073709551616) :
 val ((addS w2 vs n).1.set n ((nth (addS w2 vs n).1 n+(addS w2 vs n).2)%18446744073709551616))=r:=by
 have a:=addS_window w2 vs n hl hv;have b:=val_set (addS w2 vs n).1 n ((nth (addS w2 vs n).1 n+(addS w2 vs n).2)%18446744073709551616) (by rw [addS_length];omega);have sm:=small_set (addS_small w2 vs h n) n ((nth (addS w2 vs n).1 n+(addS w2 vs n).2)%18446744073709551616) (Nat.mod_lt _ (by decide));have lt:=val_lt _ sm;have ltv:=val_lt vs h';rw [hv] at ltv;rw [List.length_set,addS_length,hl,Nat.pow_succ] at lt;generalize hT:nth (addS w2 vs n).1 n+(addS w2 vs n).2=T at *;generalize val ((addS w2 vs n).1.set n (T%18446744073709551616))=V' at *;have e:18446744073709551616^n*T=18446744073709551616^n*18446744073709551616*(T/18446744073709551616)+18446744073709551616^n*(T%18446744073709551616):=by
  rw [Nat.mul_assoc,←Nat.mul_add,Nat.div_add_mod]
 rw [←hT,Nat.mul_add,hT] at e;have ht:T/18446744073709551616≤1:=by
  have:=nth_lt (addS_small w2 vs h n) n;have:=addS_carry w2 vs h h' n;omega
 generalize 18446744073709551616^n=p at *;generalize T/18446744073709551616=q at *;have hq:q=0∨q=1:=by omega
 rcases hq with rfl | rfl
 ·rw [Nat.mul_zero] at e;omega
 ·rw [Nat.mul_one] at e;omega
end Go.Proofs.YtabjjdicffcolaaGreatDoor
namespace Go.Proofs.YtabjjdicffcolaaGreatDoor
structure DigIn (wl vs:List Nat) (n:Nat):Prop where
 n2:2≤n
 wlen:wl.length=n+1
 vlen:vs.length=n
 ws:Small wl
 vsm:Small vs
 top:9223372036854775808≤nth vs (n-1)
 lt:val wl<val vs*18446744073709551616
def digU3 (wl:List Nat) (n:Nat):Nat:=(nth wl n*18446744073709551616+nth wl (n-1))*18446744073709551616+nth wl (n-2)
def digV2 (vs:List Nat) (n:Nat):Nat:=nth vs (n-1)*18446744073709551616+nth vs (n-2)
theorem DigIn.U {wl vs:List Nat}{n:Nat}(h:DigIn wl vs n):val wl=digU3 wl n*18446744073709551616^(n-2)+val (wl.take (n-2)):=by
 have h2:=h.n2;have e:=List.take_of_length_le (Nat.le_of_eq h.wlen);have a:=val_take_succ wl n (by rw [h.wlen];omega);have b:=val_take_succ wl (n-1) (by rw [h.wlen];omega);have c:=val_take_succ wl (n-2) (by rw [h.wlen];omega);rw [show n-1+1=n by omega] at b;rw [show n-2+1=n-1 by omega] at c;rw [e] at a;rw [a,b,c];have p1:18446744073709551616^n=18446744073709551616^(n-2)*18446744073709551616*18446744073709551616:=by
  rw [Nat.mul_assoc,←Nat.pow_two,←Nat.pow_add];congr 1;omega
 have p2:18446744073709551616^(n-1)=18446744073709551616^(n-2)*18446744073709551616:=by
  rw [←Nat.pow_succ];congr 1;omega
 rw [p1,p2];unfold digU3;generalize 18446744073709551616^(n-2)=P;generalize nth wl n=x;generalize nth wl (n-1)=y;generalize nth wl (n-2)=z;have e1:P*18446744073709551616*18446744073709551616*x=x*18446744073709551616*18446744073709551616*P:=by
  rw [Nat.mul_comm _ x,←Nat.mul_assoc,←Nat.mul_assoc,Nat.mul_right_comm x P,Nat.mul_right_comm (x*18446744073709551616) P]
 have e2:P*18446744073709551616*y=y*18446744073709551616*P:=by
  rw [Nat.mul_comm _ y,←Nat.mul_assoc,Nat.mul_right_comm y P]
 rw [e1,e2,Nat.mul_comm P z,Nat.add_mul,Nat.add_mul,Nat.add_mul];omega
theorem DigIn.V {wl vs:List Nat}{n:Nat}(h:DigIn wl vs n):val vs=digV2 vs n*18446744073709551616^(n-2)+val (vs.take (n-2)):=by
 have h2:=h.n2;have e:=List.take_of_length_le (Nat.le_of_eq h.vlen);have b:=val_take_succ vs (n-1) (by rw [h.vlen];omega);have c:=val_take_succ vs (n-2) (by rw [h.vlen];omega);rw [show n-1+1=n by omega,e] at b;rw [show n-2+1=n-1 by omega] at c;rw [b,c];have p2:18446744073709551616^(n-1)=18446744073709551616^(n-2)*18446744073709551616:=by
  rw [←Nat.pow_succ];congr 1;omega
 rw [p2];unfold digV2;generalize 18446744073709551616^(n-2)=P;generalize nth vs (n-1)=y;generalize nth vs (n-2)=z;have e2:P*18446744073709551616*y=y*18446744073709551616*P:=by
  rw [Nat.mul_comm _ y,←Nat.mul_assoc,Nat.mul_right_comm y P]
 rw [e2,Nat.mul_comm P z,Nat.add_mul];omega
theorem DigIn.ulow {wl vs:List Nat}{n:Nat}(h:DigIn wl vs n):val (wl.take (n-2))<18446744073709551616^(n-2):=by
 have:=val_lt _ (small_take h.ws (n-2))
 rwa [List.length_take,Nat.min_eq_left (by rw [h.wlen];omega)] at this
theorem DigIn.vlow {wl vs:List Nat}{n:Nat}(h:DigIn wl vs n):val (vs.take (n-2))<18446744073709551616^(n-2):=by
 have:=val_lt _ (small_take h.vsm (n-2))
 rwa [List.length_take,Nat.min_eq_left (by rw [h.vlen];omega)] at this
theorem DigIn.v2pos {wl vs:List Nat}{n:Nat}(h:DigIn wl vs n):18446744073709551616≤digV2 vs n:=by
 have:=h.top;unfold digV2;omega
theorem DigIn.vpos {wl vs:List Nat}{n:Nat}(h:DigIn wl vs n):0<val vs:=by
 have a:=h.V;have b:=Nat.mul_pos (show 0<digV2 vs n by have:=h.v2pos;omega) (Nat.pow_pos (n:=n-2) (show 0<18446744073709551616 by decide));omega
theorem tops_aux (M N A Q T P v':Nat)(h1:M≤N)(h2:M=A+Q*18446744073709551616)(h3:T+P≤Q)(h4:v'<P)(h5:N<A+T*18446744073709551616+v'*18446744073709551616):False:=by omega
theorem DigIn.tops {wl vs:List Nat}{n:Nat}(h:DigIn wl vs n):nth wl n≤nth vs (n-1):=by
 have a:=h.U;have b:=h.V;have c:=h.lt;have d:=h.vlow;have v2:=nth_lt h.vsm (n-2);rw [a,b] at c;unfold digU3 digV2 at c;generalize 18446744073709551616^(n-2)=P at *;generalize val (wl.take (n-2))=u' at *;generalize val (vs.take (n-2))=v' at *;generalize nth wl n=x at *;generalize nth wl (n-1)=y at *;generalize nth wl (n-2)=z at *;generalize nth vs (n-1)=s at *;generalize nth vs (n-2)=t at *
 by_cases hle:x≤s
 ·exact hle
 ·exfalso
  have e1:((s+1)*18446744073709551616*18446744073709551616)*P≤((x*18446744073709551616+y)*18446744073709551616+z)*P:=Nat.mul_le_mul_right _ (by omega);have e2:(t+1)*P≤18446744073709551616*P:=Nat.mul_le_mul_right _ v2;have e3:((s*18446744073709551616+t)*P+v')*18446744073709551616=s*18446744073709551616*18446744073709551616*P+t*P*18446744073709551616+v'*18446744073709551616:=by
   rw [Nat.add_mul,Nat.add_mul (s*18446744073709551616),Nat.add_mul,Nat.mul_right_comm (s*18446744073709551616) P]
  have e4:(s+1)*18446744073709551616*18446744073709551616*P=s*18446744073709551616*18446744073709551616*P+18446744073709551616*P*18446744073709551616:=by
   rw [Nat.add_mul,Nat.add_mul,Nat.add_mul,Nat.one_mul,Nat.mul_right_comm 18446744073709551616 18446744073709551616 P]
  rw [Nat.add_mul,Nat.one_mul] at e2;rw [e3] at c;exact tops_aux _ _ _ _ _ _ _ e1 e4 e2 d (Nat.lt_of_le_of_lt (Nat.le_add_right _ _) c)
theorem DigIn.qlt {wl vs:List Nat}{n:Nat}(h:DigIn wl vs n):val wl/val vs<18446744073709551616:=by
 rw [Nat.div_lt_iff_lt_mul h.vpos,Nat.mul_comm];exact h.lt
structure DigInv (wl vs:List Nat) (n x r:Nat):Prop where
 g:Guess (digU3 wl n) (digV2 vs n) (nth vs (n-1)) (nth vs (n-2)) (nth wl (n-2)) x r
 ge:val wl/val vs≤x
 lt:x<18446744073709551616
theorem start_sum (T s z:Nat):T*18446744073709551616+z=T/s*(s*18446744073709551616)+T%s*18446744073709551616+z:=by
 rw [←Nat.mul_assoc,←Nat.add_mul,Nat.mul_comm (T/s),Nat.div_add_mod]
theorem DigIn.start_lt {wl vs:List Nat}{n:Nat}(h:DigIn wl vs n)(hlt:nth wl n<nth vs (n-1)) :
 DigInv wl vs n ((nth wl n*18446744073709551616+nth wl (n-1))/nth vs (n-1)) ((nth wl n*18446744073709551616+nth wl (n-1))%nth vs (n-1)):=by
 have ht:=h.top;refine ⟨⟨?_,rfl⟩,?_,short_limb _ _ _ hlt (nth_lt h.ws _)⟩
 ·exact start_sum _ _ _
 ·have := guess_start (nth wl n * 18446744073709551616 + nth wl (n - 1)) (nth wl (n - 2)) (nth vs (n - 1)) (nth vs (n - 2)) (18446744073709551616 ^ (n - 2)) (val (wl.take (n - 2))) (val (vs.take (n - 2))) (nth_lt h.ws _) h.ulow (by omega);rw [h.U,h.V];exact this
theorem DigIn.start_eq {wl vs:List Nat}{n:Nat}(h:DigIn wl vs n)(he:¬nth wl n<nth vs (n-1)) :
 DigInv wl vs n 18446744073709551615 (nth wl (n-1)+nth vs (n-1)):=by
 have ht:=h.tops;have e:nth wl n=nth vs (n-1):=by omega
 refine ⟨⟨?_,rfl⟩,?_,by decide⟩
 ·unfold digU3;rw [e];omega
 ·exact Nat.le_of_lt_succ h.qlt
theorem DigInv.less {wl vs:List Nat}{n x r:Nat}(h:DigInv wl vs n x r)(hi:DigIn wl vs n)(hc:r*18446744073709551616+nth wl (n-2)<x*nth vs (n-2)):1≤x∧DigInv wl vs n (x-1) (r+nth vs (n-1)):=by
 have hx:1≤x:=by
  by_cases e:x=0
  ·subst e;omega
  ·omega
 obtain ⟨a,b⟩:=guess_less h.g hc;have v2:=hi.v2pos;refine ⟨hx,b,?_,by have:=h.lt;omega⟩;rw [hi.U,hi.V];exact guess_keep _ _ _ _ _ _ hi.ulow a (by omega)
theorem DigInv.done {wl vs:List Nat}{n x r:Nat}(h:DigInv wl vs n x r)(hi:DigIn wl vs n)(hc:x*nth vs (n-2)≤r*18446744073709551616+nth wl (n-2)∨18446744073709551616≤r):x=val wl/val vs∨x=val wl/val vs+1:=by
 have a:=guess_more h.g h.lt (nth_lt hi.vsm _) hc;have b:=h.ge;rw [hi.U,hi.V] at b ⊢;exact guess_end _ _ _ _ _ _ hi.ulow hi.vlow h.lt a hi.v2pos b
theorem mul_cmp (p r u:Nat)(hu:u<18446744073709551616):p≤r*18446744073709551616+u↔(p/18446744073709551616<r∨p/18446744073709551616=r∧p%18446744073709551616≤u):=by
 omega
end Go.Proofs.YtabjjdicffcolaaGreatDoor
namespace Go.Proofs.YtabjjdicffcolaaGreatDoor
structure LongInv (N V:Nat) (n:Nat) (us qs:List Nat) (k:Nat):Prop where
 us_small:Small us
 qs_small:Small qs
 lens:us.length=qs.length+n
 low:val (us.drop k)<V
 sum:val qs*V+val us=N
 zero:∀ i,i<k→nth qs i=0
theorem LongInv.window {N V n:Nat}{us qs vs:List Nat}{j:Nat}(h:LongInv N V n us qs (j+1))(hj:j<qs.length)(hn:2≤n)(hV:V=val vs)(hvl:vs.length=n)(hvs:Small vs)(ht:9223372036854775808≤nth vs (n-1)) :
 DigIn ((us.drop j).take (n+1)) vs n∧val (us.drop (j+(n+1)))=0:=by
 have hl:=h.lens;have e:us.drop j=nth us j::us.drop (j+1):=drop_nth us j (by omega);have hlow:=h.low;have hx:=nth_lt h.us_small j;have hd:val (us.drop j)<V*18446744073709551616:=by
  rw [e,val];omega
 have hvlt:=val_lt vs hvs;rw [hvl,←hV] at hvlt;have sm:Small (us.drop j):=small_drop h.us_small j;have ap:=val_append ((us.drop j).take (n+1)) ((us.drop j).drop (n+1));rw [List.take_append_drop,List.length_take,List.length_drop,Nat.min_eq_left (by omega),List.drop_drop] at ap;have hp:18446744073709551616^(n+1)=18446744073709551616^n*18446744073709551616:=Nat.pow_succ ..;have hz:val (us.drop (j+(n+1)))=0:=by
  by_cases hz:val (us.drop (j+(n+1)))=0
  ·exact hz
  ·exfalso
   have:18446744073709551616^(n+1)*1≤18446744073709551616^(n+1)*val (us.drop (j+(n+1))):=Nat.mul_le_mul_left _ (by omega);rw [hp] at this ap;generalize 18446744073709551616^n=P at *;generalize P*18446744073709551616*val (us.drop (j+(n+1)))=T at *;omega
 refine ⟨⟨hn,?_,hvl,small_take sm _,hvs,ht,?_⟩,hz⟩
 ·rw [List.length_take,List.length_drop];omega
 ·rw [← hV];rw [hz,Nat.mul_zero,Nat.add_zero] at ap;rw [←ap];exact hd
theorem split_three (us:List Nat)(j m:Nat):us=us.take j++((us.drop j).take m++us.drop (j+m)):=by
 rw [←List.drop_drop,List.take_append_drop,List.take_append_drop]
theorem LongInv.next {N V n:Nat}{us qs vs wl':List Nat}{j:Nat}(h:LongInv N V n us qs (j+1))(hj:j<qs.length)(hV:V=val vs)(hz:val (us.drop (j+(n+1)))=0)
 (hq:val ((us.drop j).take (n+1))/val vs<18446744073709551616) (hV0:0<val vs) (hl':wl'.length=((us.drop j).take (n+1)).length) (hs':Small wl') (hv':val wl'=val ((us.drop j).take (n+1))%val vs) :
 LongInv N V n (us.take j++(wl'++us.drop (j+(n+1)))) (qs.set j (val ((us.drop j).take (n+1))/val vs)) j:=by
 have hl:=h.lens;have ht:(us.take j).length=j:=by rw [List.length_take];omega
 have e:=split_three us j (n+1);have lw:((us.drop j).take (n+1)).length=n+1:=by rw [List.length_take,List.length_drop];omega
 refine ⟨?_,small_set h.qs_small _ _ hq,?_,?_,?_,?_⟩
 ·intro x hx
  rcases List.mem_append.1 hx with hx | hx
  ·exact small_take h.us_small j x hx
  ·rcases List.mem_append.1 hx with hx | hx
   ·exact hs' x hx
   ·exact small_drop h.us_small _ x hx
 ·rw [List.length_set,List.length_append,List.length_append,hl',lw,List.length_drop,ht];omega
 ·rw [List.drop_append_of_le_length (by omega), List.drop_of_length_le (by omega), List.nil_append, val_append, hz, Nat.mul_zero, Nat.add_zero, hv', hV];exact Nat.mod_lt _ hV0
 ·have v := val_set qs j (val ((us.drop j).take (n + 1)) / val vs) hj;rw [h.zero j (by omega),Nat.mul_zero,Nat.add_zero] at v;have s:=h.sum;have u1:val us=val (us.take j)+18446744073709551616^j*(val ((us.drop j).take (n+1))+18446744073709551616^(n+1)*val (us.drop (j+(n+1)))):=by
   conv=>lhs;rw [e]
   rw [val_append,val_append,ht,lw]
  have u2:val (us.take j++(wl'++us.drop (j+(n+1))))=val (us.take j)+18446744073709551616^j*(val wl'+18446744073709551616^(n+1)*val (us.drop (j+(n+1)))):=by
   rw [val_append,val_append,ht,hl',lw]
  rw [hz,Nat.mul_zero,Nat.add_zero (val ((us.drop j).take (n+1)))] at u1;rw [hz,Nat.mul_zero,Nat.add_zero (val wl')] at u2;rw [v,u2,hv',Nat.add_mul,hV];rw [u1,hV] at s;have dm:=Nat.div_add_mod (val ((us.drop j).take (n+1))) (val vs);generalize val ((us.drop j).take (n+1))/val vs=q at *;generalize val ((us.drop j).take (n+1))%val vs=r at *;generalize val ((us.drop j).take (n+1))=W at *;generalize 18446744073709551616^j=P at *;have e3:P*q*val vs+P*r=P*W:=by rw [Nat.mul_assoc,←Nat.mul_add,Nat.mul_comm q,dm]
  omega
 ·intro i hi;rw [nth_set _ _ _ _ hj,if_neg (by omega)];exact h.zero i (by omega)
theorem LongInv.finish {N V n:Nat}{us qs:List Nat}(h:LongInv N V n us qs 0):val qs=N/V∧val us=N%V:=by
 have a:=h.low;have b:=h.sum;rw [List.drop_zero] at a;have hV:0<V:=by omega
 rw [←b,Nat.add_comm];exact ⟨by rw [Nat.add_mul_div_right _ _ hV,Nat.div_eq_of_lt a,Nat.zero_add],by rw [Nat.add_mul_mod_self_right,Nat.mod_eq_of_lt a]⟩
theorem take_rest (us:List Nat)(h:Small us)(n:Nat)(hn:n≤us.length)(hV:val us<18446744073709551616^n):val (us.take n)=val us:=by
 have e:=val_append (us.take n) (us.drop n);rw [List.take_append_drop,List.length_take,Nat.min_eq_left hn] at e;have:val (us.drop n)=0:=by
  rw [val_drop us h n,Nat.div_eq_of_lt hV]
 rw [this,Nat.mul_zero,Nat.add_zero] at e;exact e.symm
theorem val_pad (n:Nat)(k:Nat):val (limbs n++List.replicate k 0)=n:=by
 rw [val_append,val_replicate,Nat.mul_zero,Nat.add_zero,val_limbs]
theorem small_pad (n k:Nat):Small (limbs n++List.replicate k 0):=by
 intro x hx
 rcases List.mem_append.1 hx with hx | hx
 ·exact small_limbs n x hx
 ·exact small_replicate k x hx
theorem limbs_length_le (n k:Nat)(h:n<18446744073709551616^k):(limbs n).length≤k:=by
 by_cases h0:n=0
 ·subst h0;rw [limbs_zero];exact Nat.zero_le _
 ·have a := pow_length_le n h0
  by_cases hk:(limbs n).length≤k
  ·exact hk
  ·have : 18446744073709551616 ^ k ≤ 18446744073709551616 ^ ((limbs n).length - 1) := Nat.pow_le_pow_right (by decide) (by omega);omega
theorem le_limbs_length (n k:Nat)(h:18446744073709551616^k≤n):k<(limbs n).length:=by
 have a:=lt_pow_length n
 by_cases hk:k<(limbs n).length
 ·exact hk
 ·have : 18446744073709551616 ^ (limbs n).length ≤ 18446744073709551616 ^ k := Nat.pow_le_pow_right (by decide) (by omega);omega
theorem norm_divisor (m:Nat)(h:m≠0):m*2^(64-bl (nth (limbs m) ((limbs m).length-1)))<18446744073709551616^(limbs m).length ∧
 18446744073709551616^((limbs m).length-1)*9223372036854775808≤m*2^(64-bl (nth (limbs m) ((limbs m).length-1))):=by
 have ht:=bl_top m h;have hp:=length_limbs_pos m h;have hb:=bl_le64 _ (nth_lt (small_limbs m) ((limbs m).length-1));have hb0:=bl_pos _ (limbs_last m h);have a:=two_bl_le m h;have b:=lt_two_bl m;rw [ht] at a b;generalize bl (nth (limbs m) ((limbs m).length-1))=t at *;generalize (limbs m).length=l at *;obtain ⟨i,rfl⟩:∃ i,l=i+1:=⟨l-1,by omega⟩;rw [Nat.add_sub_cancel] at *;have p:∀ q,(18446744073709551616:Nat)^q=2^(64*q):=fun q=>by rw [Nat.pow_mul]
 constructor
 ·have := Nat.mul_lt_mul_of_pos_right b (Nat.pow_pos (n := 64 - t) (show 0 < 2 by decide));rw [←Nat.pow_add,show 64*i+t+(64-t)=64*(i+1) by omega,←p] at this;exact this
 ·have := Nat.mul_le_mul_right (2 ^ (64 - t)) a;rw [←Nat.pow_add,show 64*i+t-1+(64-t)=64*i+63 by omega,Nat.pow_add,←p] at this;exact this
theorem top_limb (vs:List Nat)(h:Small vs)(n:Nat)(hn:vs.length=n)(h0:0<n)(hv:18446744073709551616^(n-1)*9223372036854775808≤val vs):9223372036854775808≤nth vs (n-1):=by
 have e:=val_take_succ vs (n-1) (by omega);rw [show n-1+1=n by omega,List.take_of_length_le (by omega)] at e;have b:=val_lt _ (small_take h (n-1));rw [List.length_take,Nat.min_eq_left (by omega)] at b;generalize 18446744073709551616^(n-1)=P at *;have:P*9223372036854775808<P*(nth vs (n-1)+1):=by rw [Nat.mul_add];omega
 have:=Nat.lt_of_mul_lt_mul_left this;omega
theorem LongInv.start (n m s:Nat)(us vs:List Nat)(l d:Nat)(hs:Small us)(hl:us.length=l+2+d+1)(hv:val us=n*2^s)(hm:m≠0)(hml:(limbs m).length=l+2)(hn:(limbs n).length=l+2+d)(hV:val vs=m*2^s) :
 LongInv (n*2^s) (val vs) (l+2) us (List.replicate (d+1) 0) (d+1):=by
 refine ⟨hs,small_replicate _,by rw [hl,List.length_replicate];omega,?_,by rw [val_replicate,Nat.zero_mul,Nat.zero_add,hv],fun i _=>nth_replicate _ i⟩;rw [val_drop us hs,hv,hV,Nat.div_lt_iff_lt_mul (Nat.pow_pos (by decide))];have a:=lt_pow_length n;have b:=pow_length_le m hm;rw [hn] at a;rw [hml,show l+2-1=l+1 by omega] at b;have c:18446744073709551616^(l+2+d)=18446744073709551616^(l+1)*18446744073709551616^(d+1):=by rw [←Nat.pow_add];congr 1;omega
 rw [c] at a;have e:=Nat.mul_lt_mul_of_pos_right a (Nat.pow_pos (n:=s) (show 0<2 by decide));refine Nat.lt_of_lt_of_le e ?_;rw [Nat.mul_right_comm];exact Nat.mul_le_mul_right _ (Nat.mul_le_mul_right _ b)
end Go.Proofs.YtabjjdicffcolaaGreatDoor
namespace Go.Proofs.YtabjjdicffcolaaGreatDoor
def OkI (o:Outc Iv):Prop:=o.v.Ok∧(o.k≠0→o.v=iz)
theorem iz_ok:iz.Ok:=⟨dz_ok,dz_ok,Rat.le_refl⟩
theorem badI_ok (k:Int):OkI ⟨iz,k⟩:=⟨iz_ok,fun _=>rfl⟩
theorem ends_okI {lo hi:Outc Dy}(h1:lo.Ok)(h2:hi.Ok)(h:lo.k=0→hi.k=0→lo.v.q≤hi.v.q):OkI (ends lo hi):=by
 unfold ends Outc.bind
 by_cases k1:lo.k=0
 ·simp only [if_pos k1]
  by_cases k2:hi.k=0
  ·simp only [if_pos k2];exact ⟨⟨h1.1,h2.1,h k1 k2⟩,fun h=>absurd rfl h⟩
  ·simp only [if_neg k2];exact badI_ok _
 ·simp only [if_neg k1];exact badI_ok _
theorem rndD_ok (o:Outc Dy)(p:Nat)(up:Bool):(rndD o p up).Ok:=by
 unfold rndD Outc.bind
 by_cases k1:o.k=0
 ·simp only [if_pos k1];exact dirD_ok _ _ _
 ·simp only [if_neg k1];exact bad_ok _
theorem four_okI {a b c d:Outc Dy}{f:Dy→Dy→Dy→Dy→Outc Iv}(h:a.k=0→b.k=0→c.k=0→d.k=0→OkI (f a.v b.v c.v d.v)):OkI (four a b c d f):=by
 unfold four Outc.bind
 by_cases k1:a.k=0
 ·simp only [if_pos k1]
  by_cases k2:b.k=0
  ·simp only [if_pos k2]
   by_cases k3:c.k=0
   ·simp only [if_pos k3]
    by_cases k4:d.k=0
    ·simp only [if_pos k4];exact h k1 k2 k3 k4
    ·simp only [if_neg k4];exact badI_ok _
   ·simp only [if_neg k3];exact badI_ok _
  ·simp only [if_neg k2];exact badI_ok _
 ·simp only [if_neg k1];exact badI_ok _
theorem addI_ok {a b:Iv}(ha:a.Ok)(hb:b.Ok){p:Nat}(hp:1≤p):OkI (addI a b p):=by
 unfold addI;refine ends_okI (rndD_ok _ _ _) (rndD_ok _ _ _) fun k1 k2=>?_
 obtain ⟨h4,h5⟩:=rndD_ok' k1;obtain ⟨h6,h7⟩:=rndD_ok' k2;rw [h5] at k1 ⊢;rw [h7] at k2 ⊢;have d1:=(dirD_down hp k1).le;have d2:=(dirD_up hp k2).le;rw [sumD_q h4] at d1;rw [sumD_q h6] at d2;have:=ha.le;have:=hb.le
 grind
theorem neg_ok {b:Iv}(hb:b.Ok):(Iv.mk (negD b.hi) (negD b.lo)).Ok :=
 ⟨negD_ok hb.hi,negD_ok hb.lo,by simp only [negD_q];have:=hb.le;grind⟩
theorem subI_add (a b:Iv)(p:Nat):subI a b p=addI a ⟨negD b.hi,negD b.lo⟩ p:=rfl
theorem subI_ok {a b:Iv}(ha:a.Ok)(hb:b.Ok){p:Nat}(hp:1≤p):OkI (subI a b p):=by
 rw [subI_add];exact addI_ok ha (neg_ok hb) hp
theorem negI_ok {a:Iv}(ha:a.Ok){p:Nat}(hp:1≤p):OkI (negI a p):=by
 unfold negI;refine ends_okI (dirD_ok _ _ _) (dirD_ok _ _ _) fun k1 k2=>?_
 have d1:=(dirD_down hp k1).le;have d2:=(dirD_up hp k2).le;have:=(neg_ok ha).le;simp only at this
 grind
theorem mulI_ok {a b:Iv}{p:Nat}(hp:1≤p):OkI (mulI a b p):=by
 unfold mulI;refine four_okI fun h1 h2 h3 h4=>ends_okI (dirD_ok _ _ _) (dirD_ok _ _ _) fun k1 k2=>?_
 have d1:=(dirD_down hp k1).le;have d2:=(dirD_up hp k2).le;have l:=(least4 (x:=(mulD a.lo b.lo).v) (y:=(mulD a.lo b.hi).v) (z:=(mulD a.hi b.lo).v) (u:=(mulD a.hi b.hi).v)).1;have g:=(greatest4 (x:=(mulD a.lo b.lo).v) (y:=(mulD a.lo b.hi).v) (z:=(mulD a.hi b.lo).v) (u:=(mulD a.hi b.hi).v)).1
 grind
theorem hasZero_nz {b:Iv}(hb:b.Ok)(h:¬hasZero b=true):¬b.lo.m=0∧¬b.hi.m=0:=by
 have hz:=fun x=>h ((hasZero_iff b).2 x)
 have:=hb.le;constructor
 ·intro h0;have:=zero_q h0;exact hz ⟨by grind,by grind⟩
 ·intro h0;have:=zero_q h0;exact hz ⟨by grind,by grind⟩
theorem quotD_down {a b:Dy}{p:Nat}(hp:1≤p)(hb:¬b.m=0)(hk:(quotD a b p false).k=0):IsDown p (a.q/b.q) (quotD a b p false).v.q:=quotD_dir hp hb hk
theorem quotD_up {a b:Dy}{p:Nat}(hp:1≤p)(hb:¬b.m=0)(hk:(quotD a b p true).k=0):IsUp p (a.q/b.q) (quotD a b p true).v.q:=quotD_dir hp hb hk
theorem divI_ok {a b:Iv}(hb:b.Ok){p:Nat}(hp:1≤p):OkI (divI a b p):=by
 unfold divI
 by_cases hz:hasZero b=true
 ·rw [if_pos hz];exact badI_ok _
 ·rw [if_neg hz];obtain ⟨n1,n2⟩:=hasZero_nz hb hz;refine four_okI fun h1 h2 h3 h4=>four_okI fun k1 k2 k3 k4=>⟨⟨?_,?_,?_⟩,fun h=>absurd rfl h⟩
  ·refine leastD_ok (quotD_ok _ _ _ _).1 fun x hx => ?_
   simp only [List.mem_cons,List.not_mem_nil,or_false] at hx
   rcases hx with rfl | rfl | rfl | rfl<;>exact (quotD_ok _ _ _ _).1
  ·refine greatestD_ok (quotD_ok _ _ _ _).1 fun x hx => ?_
   simp only [List.mem_cons,List.not_mem_nil,or_false] at hx
   rcases hx with rfl | rfl | rfl | rfl<;>exact (quotD_ok _ _ _ _).1
  ·have d1 := (quotD_down hp n1 h1).le;have d2:=(quotD_up hp n1 k1).le;have l:=(least4 (x:=(quotD a.lo b.lo p false).v) (y:=(quotD a.lo b.hi p false).v) (z:=(quotD a.hi b.lo p false).v) (u:=(quotD a.hi b.hi p false).v)).1;have g:=(greatest4 (x:=(quotD a.lo b.lo p true).v) (y:=(quotD a.lo b.hi p true).v) (z:=(quotD a.hi b.lo p true).v) (u:=(quotD a.hi b.hi p true).v)).1
   show (leastD _ _).q≤(greatestD _ _).q
   grind
theorem sqrI_ok {a:Iv}{p:Nat}(hp:1≤p):OkI (sqrI a p):=by
 have sqn:∀ x:Rat,0≤x*x:=fun x=>by
  by_cases h:0≤x
  ·exact Rat.mul_nonneg h h
  ·have:=Rat.mul_nonneg (show 0≤-x by grind) (show 0≤-x by grind);grind
 unfold sqrI Outc.bind
 by_cases h1:(mulD a.lo a.lo).k=0
 ·simp only [if_pos h1]
  by_cases h2:(mulD a.hi a.hi).k=0
  ·simp only [if_pos h2];refine ends_okI (dirD_ok _ _ _) (dirD_ok _ _ _) fun k1 k2=>?_
   have d1:=(dirD_down hp k1).le;have d2:=(dirD_up hp k2).le;have l:=(least2 (x:=(mulD a.lo a.lo).v) (y:=(mulD a.hi a.hi).v)).1;have g:=(greatest2 (x:=(mulD a.lo a.lo).v) (y:=(mulD a.hi a.hi).v)).1;have q1:=mulD_q h1;have:=sqn a.lo.q;have hl:(if hasZero a=true then dz else leastD (mulD a.lo a.lo).v [(mulD a.lo a.lo).v,(mulD a.hi a.hi).v]).q≤(mulD a.lo a.lo).v.q:=by
    split
    ·rw [dz_q];grind
    ·exact l
   grind
  ·simp only [if_neg h2];exact badI_ok _
 ·simp only [if_neg h1];exact badI_ok _
theorem root_le {x y d e:Rat}(hd:d*d≤x)(hxy:x≤y)(he:0≤e)(hy:y≤e*e):d≤e:=by
 by_cases h:d≤e
 ·exact h
 ·have := lt_sq he (show e < d by grind)
  grind
theorem sqrtI_neg {a:Iv}(ha:a.Ok)(h:¬sg a.lo<0):a.lo.neg=false∧a.hi.neg=false:=by
 rw [sg_q] at h;have h0:0≤a.lo.q:=by
  have:=@cmpQ_lt a.lo.q 0
  grind
 have h1:0≤a.hi.q:=by have:=ha.le;grind
 have key:∀ d:Dy,d.Ok→0≤d.q→d.neg=false:=by
  intro d hd hq
  by_cases hm:d.m=0
  ·exact (hd.zero hm).1
  ·cases hn : d.neg
   ·rfl
   ·have : sg d = -1 := by unfold sg; rw [if_neg hm, hn]; rfl
    have:=(sg_neg this).1
    grind
 exact ⟨key _ ha.lo h0,key _ ha.hi h1⟩
theorem rootD_down {d:Dy}{p:Nat}(hp:1≤p)(hn:d.neg=false)(hk:(rootD d p false).k=0):IsRootDown p d.q (rootD d p false).v.q:=rootD_dir hp hn hk
theorem rootD_up {d:Dy}{p:Nat}(hp:1≤p)(hn:d.neg=false)(hk:(rootD d p true).k=0):IsRootUp p d.q (rootD d p true).v.q:=rootD_dir hp hn hk
theorem sqrtI_ok {a:Iv}(ha:a.Ok){p:Nat}(hp:1≤p):OkI (sqrtI a p):=by
 unfold sqrtI
 by_cases hs:sg a.lo<0
 ·rw [if_pos hs];exact badI_ok _
 ·rw [if_neg hs];obtain ⟨n1,n2⟩:=sqrtI_neg ha hs;refine ends_okI (rootD_ok _ _ _) (rootD_ok _ _ _) fun k1 k2=>?_
  have d1:=rootD_down hp n1 k1;have d2:=rootD_up hp n2 k2;exact root_le d1.le ha.le d2.nonneg d2.le
theorem IsDown.sign {p:Nat}{x d:Rat}(h:IsDown p x d)(hx:0≤x):0≤d:=h.best 0 (Fits.zero p) hx
theorem grow_add {a b x y:Iv}{n m:Nat}(hm:1≤m)(hn:m≤n)(x1:x.lo.q≤a.lo.q)(x2:a.hi.q≤x.hi.q)(y1:y.lo.q≤b.lo.q)(y2:b.hi.q≤y.hi.q)
 (h1:(addI a b n).k=0) (h2:(addI x y m).k=0):(addI x y m).v.lo.q≤(addI a b n).v.lo.q∧(addI a b n).v.hi.q≤(addI x y m).v.hi.q:=by
 obtain ⟨d1,d2⟩:=addI_spec (Nat.le_trans hm hn) h1;obtain ⟨e1,e2⟩:=addI_spec hm h2;exact ⟨e1.mono d1 hn (by grind),e2.mono d2 hn (by grind)⟩
theorem grow_sub {a b x y:Iv}{n m:Nat}(hm:1≤m)(hn:m≤n)(x1:x.lo.q≤a.lo.q)(x2:a.hi.q≤x.hi.q)(y1:y.lo.q≤b.lo.q)(y2:b.hi.q≤y.hi.q)
 (h1:(subI a b n).k=0) (h2:(subI x y m).k=0):(subI x y m).v.lo.q≤(subI a b n).v.lo.q∧(subI a b n).v.hi.q≤(subI x y m).v.hi.q:=by
 have i1:(Iv.mk (negD y.hi) (negD y.lo)).lo.q≤(Iv.mk (negD b.hi) (negD b.lo)).lo.q:=by simp only [negD_q];grind
 have i2:(Iv.mk (negD b.hi) (negD b.lo)).hi.q≤(Iv.mk (negD y.hi) (negD y.lo)).hi.q:=by simp only [negD_q];grind
 rw [subI_add] at h1 h2;rw [subI_add,subI_add];exact grow_add (a:=a) (b:=⟨negD b.hi,negD b.lo⟩) (x:=x) (y:=⟨negD y.hi,negD y.lo⟩) hm hn x1 x2 i1 i2 h1 h2
theorem grow_mul {a b x y:Iv}(ha:a.lo.q≤a.hi.q)(hb:b.lo.q≤b.hi.q){n m:Nat}(hm:1≤m)(hn:m≤n)(x1:x.lo.q≤a.lo.q)(x2:a.hi.q≤x.hi.q)(y1:y.lo.q≤b.lo.q)(y2:b.hi.q≤y.hi.q)
 (h1:(mulI a b n).k=0) (h2:(mulI x y m).k=0):(mulI x y m).v.lo.q≤(mulI a b n).v.lo.q∧(mulI a b n).v.hi.q≤(mulI x y m).v.hi.q:=by
 obtain ⟨L,H,d1,d2,-,-,l,g⟩:=mulI_spec (Nat.le_trans hm hn) h1;obtain ⟨L',H',e1,e2,⟨t1,t2,t3,t4⟩,⟨u1,u2,u3,u4⟩,-,-⟩:=mulI_spec hm h2;have lo:∀ u v,x.lo.q≤u→u≤x.hi.q→y.lo.q≤v→v≤y.hi.q→L'≤u*v:=fun u v a b c d=>bilin a b c d t1 t2 t3 t4
 have hi:∀ u v,x.lo.q≤u→u≤x.hi.q→y.lo.q≤v→v≤y.hi.q→u*v≤H':=fun u v a b c d=>bilin' a b c d u1 u2 u3 u4
 refine ⟨e1.mono d1 hn ?_,e2.mono d2 hn ?_⟩
 ·rcases l with rfl | rfl | rfl | rfl<;>exact lo _ _ (by grind) (by grind) (by grind) (by grind)
 ·rcases g with rfl | rfl | rfl | rfl<;>exact hi _ _ (by grind) (by grind) (by grind) (by grind)
theorem grow_sqr {a x:Iv}(_ha:a.lo.q≤a.hi.q){n m:Nat}(hm:1≤m)(hn:m≤n)(x1:x.lo.q≤a.lo.q)(x2:a.hi.q≤x.hi.q)
 (h1:(sqrI a n).k=0) (h2:(sqrI x m).k=0):(sqrI x m).v.lo.q≤(sqrI a n).v.lo.q∧(sqrI a n).v.hi.q≤(sqrI x m).v.hi.q:=by
 obtain ⟨L,H,d1,d2,s1,s2,s3,s4,s5,s6,s7⟩:=sqrI_spec (Nat.le_trans hm hn) h1;obtain ⟨L',H',e1,e2,t1,t2,t3,t4,t5,t6,t7⟩:=sqrI_spec hm h2;have B:∀ u,x.lo.q≤u→u≤x.hi.q→L'≤u*u∧u*u≤H':=fun u a b=>sqr_bounds a b t1 t2 t3 t4 t7
 refine ⟨e1.mono d1 hn ?_,e2.mono d2 hn ?_⟩
 ·rcases s7 with ⟨rfl, z1, z2⟩ | ⟨-, rfl | rfl⟩
  ·rcases t7 with ⟨rfl, -, -⟩ | ⟨h, -⟩
   ·exact Rat.le_refl
   ·exact absurd ⟨by grind,by grind⟩ h
  ·exact (B _ (by grind) (by grind)).1
  ·exact (B _ (by grind) (by grind)).1
 ·rcases s6 with rfl | rfl
  ·exact (B _ (by grind) (by grind)).2
  ·exact (B _ (by grind) (by grind)).2
theorem limbs_len {n k:Nat}(h:bl n≤64*k):(limbs n).length≤k:=by
 apply limbs_length_le
 have h1:=lt_two_bl n;have h2:2^bl n≤2^(64*k):=Nat.pow_le_pow_right (by decide) h;rw [Nat.pow_mul 2 64 k] at h2;exact Nat.lt_of_lt_of_le h1 h2
end Go.Proofs.YtabjjdicffcolaaGreatDoor
namespace Go.Proofs.YtabjjdicffcolaaGreatDoor
theorem tz_oddN {n:Nat}(h:n%2=1):tz n=0:=tz_unique n 0 n h (by simp)
theorem fitD_self {d:Dy}(h:d.Ok):fitD d.neg d.m d.e=⟨d,0⟩:=by
 unfold fitD
 by_cases h0:d.m=0
 ·rw [if_pos h0];obtain ⟨a,b⟩:=h.zero h0;cases d with | mk n m e =>
   simp only at a b h0;subst a b h0
   rfl
 ·rw [if_neg h0, tz_oddN (h.odd h0)];have hl:=h.len;have h1:=h.lo;have h2:=h.hi;rw [if_neg (by simpa using hl),if_neg (by simp;omega),if_neg (by simp;omega)]
  simp [good]
structure Few (d:Dy) (b:Nat) (e:Int):Prop where
 ok:d.Ok
 bl:bl d.m≤b
 lo:-e≤d.e
 hi:d.e≤e
theorem mul_lt_bl {m n a b:Nat}(hm:bl m≤a)(hn:bl n≤b):bl (m*n)≤a+b:=by
 apply bl_le
 rw [Nat.pow_add];have h1:=lt_two_bl m;have h2:=lt_two_bl n;have h3:2^bl m≤2^a:=Nat.pow_le_pow_right (by decide) hm;have h4:2^bl n≤2^b:=Nat.pow_le_pow_right (by decide) hn;exact Nat.mul_lt_mul'' (by omega) (by omega)
end Go.Proofs.YtabjjdicffcolaaGreatDoor
