/- Words and contracts, part 2. -/
set_option maxRecDepth 100000
set_option maxHeartbeats 0
namespace Go.Proofs.YtabjjdicffcolaaGreatDoor
variable {xs:List Nat}
def nth (xs:List Nat) (i:Nat):Nat:=xs.getD i 0
def val:List Nat→Nat
 | []=>0
 | x::xs=>x+18446744073709551616*val xs
def Small (xs:List Nat):Prop:=∀ x∈xs,x<18446744073709551616
def limbs (n:Nat):List Nat:=if _h:n=0 then [] else (n%18446744073709551616)::limbs (n/18446744073709551616)
termination_by n
decreasing_by exact Nat.div_lt_self (by omega) (by decide)
theorem Au:limbs 0=[]:=by rw [limbs];simp
theorem Bq (n:Nat)(h:n≠0):limbs n=(n%18446744073709551616)::limbs (n/18446744073709551616):=by rw [limbs];simp [h]
theorem Bn (n:Nat):val (limbs n)=n:=by
 induction n using Nat.strongRecOn with
 | _ n ih =>
   by_cases h:n=0
   ·subst h;rw [Au];rfl
   ·rw [Bq n h,val,ih (n/18446744073709551616) (Nat.div_lt_self (by omega) (by decide))];exact Nat.mod_add_div n 18446744073709551616
theorem Dj (n:Nat):Small (limbs n):=by
 induction n using Nat.strongRecOn with
 | _ n ih =>
   by_cases h:n=0
   ·subst h;rw [Au];intro x hx;cases hx
   ·rw [Bq n h];intro x hx;rcases List.mem_cons.1 hx with rfl | hx
    ·exact Nat.mod_lt _ (by decide)
    ·exact ih (n/18446744073709551616) (Nat.div_lt_self (by omega) (by decide)) x hx
def Dw (xs:List Nat):Nat→Nat
 | 0=>0
 | k+1=>if nth xs k=0 then Dw xs k else k+1
def tl (xs:List Nat):Nat:=Dw xs xs.length
theorem M7 (xs:List Nat):∀ k,Dw xs k≤k
 | 0=>Nat.le_refl _
 | k + 1 => by
   unfold Dw;split
   ·exact Nat.le_succ_of_le (M7 xs k)
   ·exact Nat.le_refl _
theorem Zp (xs:List Nat):tl xs≤xs.length:=M7 xs _
theorem Ej (x:Nat)(xs:List Nat)(i:Nat):nth (x::xs) (i+1)=nth xs i:=rfl
theorem nth_lt (h:Small xs)(i:Nat):nth xs i<18446744073709551616:=by
 unfold nth;by_cases hi:i<xs.length
 ·rw [List.getD_eq_getElem?_getD,List.getElem?_eq_getElem hi];exact h _ (List.getElem_mem hi)
 ·rw [List.getD_eq_getElem?_getD,List.getElem?_eq_none (by omega)];decide
theorem J2 (x:Nat)(xs:List Nat):∀ k,Dw (x::xs) (k+1)=if Dw xs k=0 then (if x=0 then 0 else 1) else Dw xs k+1
 | 0=>by simp [Dw,nth]
 | k + 1 => by
   rw [Dw,Ej,J2 x xs k,Dw];by_cases h:nth xs k=0
   ·simp [h]
   ·simp [h]
theorem Py (xs:List Nat)(h:Small xs):xs.take (tl xs)=limbs (val xs):=by
 induction xs with
 | nil=>simp [tl,Dw,val,Au]
 | cons x xs ih =>
   have hx:x<18446744073709551616:=h x (List.mem_cons_self);have hs:Small xs:=fun y hy=>h y (List.mem_cons_of_mem _ hy)
   have ih':=ih hs;have ht:tl (x::xs)=if tl xs=0 then (if x=0 then 0 else 1) else tl xs+1:=J2 x xs xs.length
   have hv:tl xs=0↔val xs=0:=by
    constructor
    ·intro h0;rw [h0] at ih';have:=Bn (val xs);rw [←ih'] at this;simpa [val] using this.symm
    ·intro h0;rw [h0,Au] at ih';have h1:=congrArg List.length ih';have h2:=Zp xs;rw [List.length_take,List.length_nil] at h1;omega
   by_cases h0:val xs=0
   ·rw [ht,if_pos (hv.2 h0)];by_cases hx0:x=0
    ·simp [hx0,val,h0,Au]
    ·rw [if_neg hx0,val,h0];have e1:(x+18446744073709551616*0)%18446744073709551616=x:=by omega
     have e2:(x+18446744073709551616*0)/18446744073709551616=0:=by omega
     rw [Bq _ (by omega),e1,e2,Au];simp
   ·rw [ht,if_neg (fun h=>h0 (hv.1 h)),List.take_succ_cons,ih',val];rw [Bq (x+18446744073709551616*val xs) (by omega)];have e1:(x+18446744073709551616*val xs)%18446744073709551616=x:=by omega
    have e2:(x+18446744073709551616*val xs)/18446744073709551616=val xs:=by omega
    rw [e1,e2]
theorem length_limbs (n : Nat) : (limbs n).length = if n = 0 then 0 else Nat.log2 n / 64 + 1 := by
 induction n using Nat.strongRecOn with
 | _ n ih =>
   by_cases h:n=0
   ·subst h;simp [Au]
   ·rw [Bq        n h, List.length_cons, ih (n / 18446744073709551616) (Nat.div_lt_self (by omega) (by decide)), if_neg h];by_cases h1:n/18446744073709551616=0
    ·rw [if_pos h1];have:Nat.log2 n<64:=(Nat.log2_lt h).2 (by omega);omega
    ·rw [if_neg h1];have key:Nat.log2 n=Nat.log2 (n/18446744073709551616)+64:=by
      have a1:=Nat.log2_self_le h1;have a2:=Nat.lt_log2_self (n:=n/18446744073709551616);have b1:2^(Nat.log2 (n/18446744073709551616)+64)≤n:=by
       rw [Nat.pow_add]
       calc 2^Nat.log2 (n/18446744073709551616)*2^64≤(n/18446744073709551616)*2^64:=Nat.mul_le_mul_right _ a1
        _≤n:=Nat.div_mul_le_self n 18446744073709551616
      have b2:n<2^(Nat.log2 (n/18446744073709551616)+64+1):=by
       have:n<(n/18446744073709551616+1)*18446744073709551616:=by
        have:=Nat.lt_mul_div_succ n (show 0<18446744073709551616 by decide);rw [Nat.mul_comm] at this;exact this
       calc n<(n/18446744073709551616+1)*18446744073709551616:=this
        _≤2^(Nat.log2 (n/18446744073709551616)+1)*18446744073709551616:=Nat.mul_le_mul_right _ a2
        _=2^(Nat.log2 (n/18446744073709551616)+64+1):=by rw [show Nat.log2 (n/18446744073709551616)+64+1=(Nat.log2 (n/18446744073709551616)+1)+64 by omega,Nat.pow_add _ _ 64]
      have c1:=(Nat.le_log2 h).2 b1;have c2:=(Nat.log2_lt h).2 b2;omega
     rw [key];omega
def Nx (xs:List Nat):Bool:=xs.length==0||(decide (xs.length≤64)&&nth xs (xs.length-1) != 0)
def Du (n m:Nat):Int:=if n<m then -1 else if n=m then 0 else 1
def E5 (xs ys:List Nat):Nat→Int
 | 0=>0
 | k+1=>if nth xs k=nth ys k then E5 xs ys k else if nth xs k<nth ys k then -1 else 1
theorem Cn (xs ys:List Nat):val (xs++ys)=val xs+18446744073709551616^xs.length*val ys:=by
 induction xs with
 | nil=>simp [val]
 | cons x xs ih =>
   rw [List.cons_append,val,ih,val,List.length_cons,Nat.pow_succ];generalize 18446744073709551616^xs.length=p;rw [Nat.mul_add,Nat.add_assoc]
   congr 2
   rw [←Nat.mul_assoc,Nat.mul_comm p]
theorem Ev (xs:List Nat)(h:Small xs):val xs<18446744073709551616^xs.length:=by
 induction xs with
 | nil=>simp [val]
 | cons x xs ih =>
   have hx:x<18446744073709551616:=h x (List.mem_cons_self);have:=ih (fun y hy=>h y (List.mem_cons_of_mem _ hy));rw [val,List.length_cons,Nat.pow_succ];generalize 18446744073709551616^xs.length=p at *;omega
theorem D3 (h:Small xs)(k:Nat):Small (xs.take k):=fun x hx=>h x (List.mem_of_mem_take hx)
theorem J0 (h:Small xs)(k:Nat):Small (xs.drop k):=fun x hx=>h x (List.mem_of_mem_drop hx)
theorem Km (xs:List Nat)(k:Nat)(h:k<xs.length):xs.take (k+1)=xs.take k++[nth xs k]:=by
 rw [List.take_succ_eq_append_getElem h,nth,List.getD_eq_getElem?_getD,List.getElem?_eq_getElem h];rfl
theorem Br (xs:List Nat)(k:Nat)(h:k<xs.length):val (xs.take (k+1))=val (xs.take k)+18446744073709551616^k*nth xs k:=by
 rw [Km xs k h,Cn,List.length_take,Nat.min_eq_left (by omega)];simp [val]
theorem Jn (xs ys:List Nat)(hx:Small xs)(hy:Small ys):∀ k,k≤xs.length→k≤ys.length→E5 xs ys k=Du (val (xs.take k)) (val (ys.take k))
 | 0,_,_=>by simp [E5,Du]
 | k + 1, h1, h2 => by
   have ih:=Jn xs ys hx hy k (by omega) (by omega);rw [E5,Br xs k (by omega),Br ys k (by omega),ih];have a:=Ev _ (D3 hx k);have b:=Ev _ (D3 hy k);rw [List.length_take,Nat.min_eq_left (by omega)] at a b;generalize 18446744073709551616^k=p at *;generalize val (xs.take k)=u at *;generalize val (ys.take k)=v at *;generalize nth xs k=x;generalize nth ys k=y;by_cases e:x=y
   ·subst e;rw [if_pos rfl];unfold Du;simp only [Nat.add_lt_add_iff_right,Nat.add_right_cancel_iff]
   ·rw [if_neg e];by_cases l:x<y
    ·rw [if_pos l];have:p*(x+1)≤p*y:=Nat.mul_le_mul_left _ l;rw [Nat.mul_add] at this;unfold Du;rw [if_pos (by omega)]
    ·rw [if_neg l];have:p*(y+1)≤p*x:=Nat.mul_le_mul_left _ (by omega);rw [Nat.mul_add] at this;unfold Du;rw [if_neg (by omega),if_neg (by omega)]
theorem Ce (n:Nat):n<18446744073709551616^(limbs n).length:=by
 have:=Ev _ (Dj n);rwa [Bn] at this
theorem Gk (n:Nat)(h:n≠0):18446744073709551616^((limbs n).length-1)≤n:=by
 induction n using Nat.strongRecOn with
 | _ n ih =>
   rw [Bq n h,List.length_cons,Nat.add_sub_cancel];by_cases h1:n/18446744073709551616=0
   ·rw [h1,Au];simp;omega
   ·have:=ih _ (Nat.div_lt_self (by omega) (by decide)) h1;have hl:0<(limbs (n/18446744073709551616)).length:=by rw [Bq _ h1];simp
    obtain ⟨l,hl⟩:∃ l,(limbs (n/18446744073709551616)).length=l+1:=⟨_,(Nat.succ_pred_eq_of_pos hl).symm⟩;rw [hl] at this ⊢;rw [Nat.add_sub_cancel] at this;rw [Nat.pow_succ];generalize 18446744073709551616^l=p at *;omega
theorem Ft (n m:Nat)(h:(limbs n).length<(limbs m).length):n<m:=by
 have a:=Ce n;have hm:m≠0:=by rintro rfl;rw [Au] at h;simp at h
 have b:=Gk m hm;have c:18446744073709551616^(limbs n).length≤18446744073709551616^((limbs m).length-1):=Nat.pow_le_pow_right (by decide) (by omega);omega
theorem Lk (n m:Nat)(h:(limbs n).length=(limbs m).length):E5 (limbs n) (limbs m) (limbs n).length=Du n m:=by
 rw [Jn _ _ (Dj n) (Dj m) _ (Nat.le_refl _) (by omega),List.take_of_length_le (Nat.le_refl _),List.take_of_length_le (by omega),Bn,Bn]
theorem Js (n:Nat)(h:n≠0):nth (limbs n) ((limbs n).length-1)≠0:=by
 induction n using Nat.strongRecOn with
 | _ n ih =>
   rw [Bq n h,List.length_cons,Nat.add_sub_cancel];by_cases h1:n/18446744073709551616=0
   ·rw [h1,Au];simp [nth];omega
   ·have hl:0<(limbs (n/18446744073709551616)).length:=by rw [Bq _ h1];simp
    have:=ih _ (Nat.div_lt_self (by omega) (by decide)) h1;obtain ⟨l,hl⟩:∃ l,(limbs (n/18446744073709551616)).length=l+1:=⟨_,(Nat.succ_pred_eq_of_pos hl).symm⟩;rw [hl] at this ⊢;rw [Ej];exact this
theorem Bc (n:Nat)(h:n≠0):0<(limbs n).length:=by rw [Bq n h];simp
def bl (n:Nat):Nat:=if n=0 then 0 else Nat.log2 n+1
theorem Gp:bl 0=0:=rfl
theorem Ba (n:Nat):n<2^bl n:=by
 unfold bl;split
 ·omega
 ·exact Nat.lt_log2_self
theorem Cz (n:Nat)(h:n≠0):2^(bl n-1)≤n:=by
 unfold bl;rw [if_neg h,Nat.add_sub_cancel];exact Nat.log2_self_le h
theorem Cr (n:Nat)(h:n≠0):0<bl n:=by unfold bl;rw [if_neg h];omega
theorem Fl (n k:Nat)(h:n<2^k):bl n≤k:=by
 by_cases h0:n=0
 ·subst h0;exact Nat.zero_le _
 ·have:=Cz n h0;have p:=Cr n h0;by_cases hk:bl n≤k
  ·exact hk
  ·have:2^k≤2^(bl n-1):=Nat.pow_le_pow_right (by decide) (by omega);omega
theorem Af2 (n k:Nat)(h:2^k≤n):k<bl n:=by
 by_cases hk:k<bl n
 ·exact hk
 ·have:2^bl n≤2^k:=Nat.pow_le_pow_right (by decide) (by omega);have:=Ba n;omega
theorem Xa (n k:Nat)(h1:2^k≤n)(h2:n<2^(k+1)):bl n=k+1:=by
 have:=Fl n _ h2;have:=Af2 n _ h1;omega
theorem O7 (n:Nat)(h:n<18446744073709551616):bl n≤64:=Fl n 64 h
theorem Gn {n m:Nat}(h:n≤m):bl n≤bl m:=Fl n _ (Nat.lt_of_le_of_lt h (Ba m))
theorem Fq (n k:Nat)(h:n≠0):bl (n*2^k)=bl n+k:=by
 obtain ⟨l,hl⟩:∃ l,bl n=l+1:=⟨bl n-1,by have:=Cr n h;omega⟩;have a:=Cz n h;have b:=Ba n;rw [hl] at a b ⊢;rw [Nat.add_sub_cancel] at a;have:=Xa (n*2^k) (l+k) (by rw [Nat.pow_add];exact Nat.mul_le_mul_right _ a) (by rw [show l+k+1=(l+1)+k by omega,Nat.pow_add];exact Nat.mul_lt_mul_of_pos_right b (Nat.pow_pos (by decide)));omega
theorem Rx     (n : Nat) (h : n ≠ 0) : bl n = 64 * ((limbs n).length - 1) + bl (nth (limbs n) ((limbs n).length - 1)) := by
 induction n using Nat.strongRecOn with
 | _ n ih =>
   rw [Bq n h,List.length_cons,Nat.add_sub_cancel];by_cases h1:n/18446744073709551616=0
   ·rw [h1,Au];have:n%18446744073709551616=n:=by omega
    simp [nth,this]
   ·have hl:0<(limbs (n/18446744073709551616)).length:=by rw [Bq _ h1];simp
    have IH:=ih _ (Nat.div_lt_self (by omega) (by decide)) h1;obtain ⟨l,hl⟩:∃ l,(limbs (n/18446744073709551616)).length=l+1:=⟨_,(Nat.succ_pred_eq_of_pos hl).symm⟩;rw [hl,Nat.add_sub_cancel] at IH;rw [hl,Ej];have key:bl n=bl (n/18446744073709551616)+64:=by
     obtain ⟨q,hq⟩:∃ q,bl (n/18446744073709551616)=q+1:=⟨bl (n/18446744073709551616)-1,by have:=Cr _ h1;omega⟩;have a:=Cz _ h1;have b:=Ba (n/18446744073709551616);rw [hq] at a b ⊢;rw [Nat.add_sub_cancel] at a
     have := Xa    n (q + 64) (by rw [Nat.pow_add]; have : (2:Nat) ^ 64 = 18446744073709551616 := by decide
                                  rw [this]; omega) (by rw [show q + 64 + 1 = (q + 1) + 64 by omega, Nat.pow_add]; have : (2:Nat) ^ 64 = 18446744073709551616 := by decide
                                                        rw [this];omega)
     omega
    omega
def tzF:Nat→Nat→Nat
 | 0,_=>0
 | f+1,n=>if n%2=1 then 0 else tzF f (n/2)+1
def tz (n:Nat):Nat:=tzF (bl n) n
theorem Tx:∀ (f n:Nat),n≠0→n<2^f→2^tzF f n ∣ n∧n/2^tzF f n%2=1
 | 0,n,h,hf=>by simp at hf;omega
 | f + 1, n, h, hf => by
   rw [tzF];by_cases e:n%2=1
   ·rw [if_pos e];simp [e]
   ·rw [if_neg e];have hh:n/2≠0:=by omega
    obtain ⟨a,b⟩:=Tx f (n/2) hh (by rw [Nat.pow_succ] at hf;omega);obtain ⟨q,hq⟩:=a;refine ⟨⟨q,by rw [Nat.pow_succ,Nat.mul_right_comm,←hq];omega⟩,?_⟩;rw [Nat.pow_succ,Nat.mul_comm,←Nat.div_div_eq_div_mul];exact b
theorem Wz (n:Nat)(h:n≠0):2^tz n ∣ n:=(Tx _ n h (Ba n)).1
theorem Tz (n:Nat)(h:n≠0):n/2^tz n%2=1:=(Tx _ n h (Ba n)).2
theorem Ty (n:Nat)(h:n≠0):n/2^tz n*2^tz n=n:=Nat.div_mul_cancel (Wz n h)
theorem Jv {a b x y:Nat}(hx:x%2=1)(hy:y%2=1)(h:x*2^a=y*2^b):a=b∧x=y:=by
 have key:∀ {a b x y:Nat},x%2=1→x*2^a=y*2^b→b≤a:=by
  intro a b x y hx h;by_cases hab:b≤a
  ·exact hab
  ·obtain ⟨d,rfl⟩:∃ d,b=a+(d+1):=⟨b-a-1,by omega⟩;rw [Nat.pow_add,←Nat.mul_assoc,Nat.mul_right_comm] at h;have:=Nat.eq_of_mul_eq_mul_right (Nat.pow_pos (by decide)) h;rw [Nat.pow_succ,←Nat.mul_assoc] at this;omega
 have e:a=b:=Nat.le_antisymm (key hy h.symm) (key hx h);subst e;exact ⟨rfl,Nat.eq_of_mul_eq_mul_right (Nat.pow_pos (by decide)) h⟩
theorem Hb (n k q:Nat)(hq:q%2=1)(h:n=q*2^k):tz n=k:=by
 have hn:n≠0:=by
  rintro rfl;have:0<q*2^k:=Nat.mul_pos (by omega) (Nat.pow_pos (by decide));omega
 exact (Jv (Tz n hn) hq ((Ty n hn).trans h)).1
def tzL:List Nat→Nat
 | []=>0
 | x::xs=>if x=0 then 64+tzL xs else tz x
theorem Aem (n:Nat)(h:n≠0):tzL (limbs n)=tz n:=by
 induction n using Nat.strongRecOn with
 | _ n ih =>
   rw [Bq n h,tzL];have p:(2:Nat)^64=18446744073709551616:=by decide
   by_cases hx:n%18446744073709551616=0
   ·rw [if_pos hx];have h1:n/18446744073709551616≠0:=by omega
    rw [ih _ (Nat.div_lt_self (by omega) (by decide)) h1];have a:=Tz _ h1;have b:=Ty _ h1;refine (Hb n _ _ a ?_).symm;rw [Nat.add_comm,Nat.pow_add,←Nat.mul_assoc,b,p];omega
   ·rw [if_neg hx];have a:=Tz _ hx;have b:=Ty _ hx;have c:tz (n%18446744073709551616)<64:=by
     by_cases hc:tz (n%18446744073709551616)<64
     ·exact hc
     ·have d:=Wz _ hx;have:=Nat.le_of_dvd (by omega) d;have e:2^64≤2^tz (n%18446744073709551616):=Nat.pow_le_pow_right (by decide) (by omega);omega
    obtain ⟨d,hd⟩:∃ d,64=tz (n%18446744073709551616)+(d+1):=⟨64-tz (n%18446744073709551616)-1,by omega⟩;refine (Hb n _ (n%18446744073709551616/2^tz (n%18446744073709551616)+2^(d+1)*(n/18446744073709551616)) ?_ ?_).symm
    ·rw [Nat.pow_succ,Nat.mul_comm (2^d) 2,Nat.mul_assoc];omega
    ·rw [Nat.add_mul,b,Nat.mul_right_comm,←Nat.pow_add,Nat.add_comm (d+1),←hd,p];omega
theorem Xn (xs:List Nat)(k:Nat)(h:k<xs.length):xs.drop k=nth xs k::xs.drop (k+1):=by
 rw [List.drop_eq_getElem_cons h,nth,List.getD_eq_getElem?_getD,List.getElem?_eq_getElem h];rfl
theorem Ahv (xs:List Nat)(k:Nat)(h:k<xs.length):tzL (xs.drop k)=if nth xs k=0 then 64+tzL (xs.drop (k+1)) else tz (nth xs k):=by
 rw [Xn xs k h,tzL]
theorem M8 (n k:Nat)(h:n≠0)(hk:n<2^k):tz n<k:=by
 have:=Nat.le_of_dvd (Nat.pos_of_ne_zero h) (Wz n h);exact (Nat.pow_lt_pow_iff_right (by decide)).1 (Nat.lt_of_le_of_lt this hk)
end Go.Proofs.YtabjjdicffcolaaGreatDoor
namespace Go.Proofs.YtabjjdicffcolaaGreatDoor
theorem Jg (xs:List Nat)(i j y:Nat)(hi:i<xs.length):nth (xs.set i y) j=if i=j then y else nth xs j:=by
 unfold nth;rw [List.getD_eq_getElem?_getD,List.getD_eq_getElem?_getD,List.getElem?_set];by_cases e:i=j
 ·subst e;simp [hi]
 ·simp [e]
theorem Qi (xs:List Nat)(i:Nat)(h:xs.length≤i):nth xs i=0:=by
 unfold nth;rw [List.getD_eq_getElem?_getD,List.getElem?_eq_none h];rfl
theorem Gu (xs:List Nat)(i y:Nat)(hi:i<xs.length):val (xs.set i y)+18446744073709551616^i*nth xs i=val xs+18446744073709551616^i*y:=by
 induction xs generalizing i with
 | nil=>simp at hi
 | cons x xs ih =>
   cases i with
   | zero=>simp [val,nth];omega
   | succ i =>
     have:=ih i (by simpa using hi);rw [List.set_cons_succ,val,val,Ej,Nat.pow_succ];generalize 18446744073709551616^i=p at *;generalize val (xs.set i y)=a at *;generalize val xs=b at *;generalize nth xs i=c at *;have e1:p*18446744073709551616*c=18446744073709551616*(p*c):=by rw [Nat.mul_right_comm,Nat.mul_comm]
     have e2:p*18446744073709551616*y=18446744073709551616*(p*y):=by rw [Nat.mul_right_comm,Nat.mul_comm]
     rw [e1,e2];omega
theorem Dv {xs:List Nat}(h:Small xs)(i y:Nat)(hy:y<18446744073709551616):Small (xs.set i y):=by
 intro x hx;rcases List.mem_or_eq_of_mem_set hx with h' | rfl
 ·exact h x h'
 ·exact hy
theorem Eg (n:Nat):Small (List.replicate n 0):=by
 intro x hx;rw [(List.mem_replicate.1 hx).2];decide
theorem Gm (n:Nat):val (List.replicate n 0)=0:=by
 induction n with
 | zero=>rfl
 | succ n ih=>rw [List.replicate_succ,val,ih]
theorem Fe (n i:Nat):nth (List.replicate n 0) i=0:=by
 unfold nth;rw [List.getD_eq_getElem?_getD,List.getElem?_replicate];split<;>rfl
theorem Agv {a b:Nat}(ha:a<18446744073709551616)(hb:b<18446744073709551616):a ||| b<18446744073709551616:=Nat.or_lt_two_pow (n:=64) ha hb
def Ks (out:List Nat) (q r i x:Nat):List Nat :=
 (out.set (q+i) (nth out (q+i) ||| (x*2^r%18446744073709551616))).set (q+i+1) (nth out (q+i+1) ||| (x/2/2^(63-r)))
def Fw (xs:List Nat) (q r n:Nat):Nat→List Nat
 | 0=>List.replicate n 0
 | k+1=>Ks (Fw xs q r n k) q r k (nth xs k)
theorem Lx (xs:List Nat)(q r n:Nat):∀ k,(Fw xs q r n k).length=n
 | 0=>by simp [Fw]
 | k+1=>by simp [Fw,Ks,Lx xs q r n k]
theorem Q4 (xs:List Nat)(h:Small xs)(q r n:Nat):∀ k,Small (Fw xs q r n k)
 | 0=>Eg n
 | k + 1 => by
   have ih:=Q4 xs h q r n k;unfold Fw Ks;refine Dv (Dv ih _ _ (Agv (nth_lt ih _) (Nat.mod_lt _ (by decide)))) _ _ (Agv (nth_lt ih _) ?_);refine Nat.lt_of_le_of_lt (Nat.div_le_self _ _) (Nat.lt_of_le_of_lt (Nat.div_le_self _ _) (nth_lt h _))
theorem Ze (x r:Nat)(hr:r<64):x/2/2^(63-r)=x*2^r/18446744073709551616:=by
 rw [Nat.div_div_eq_div_mul];have e:(18446744073709551616:Nat)=2*2^(63-r)*2^r:=by
  rw [Nat.mul_assoc,←Nat.pow_add,show 63-r+r=63 by omega]
 rw [e,Nat.mul_div_mul_right _ _ (Nat.pow_pos (by decide))]
theorem Agu (c x r:Nat)(hr:r<64)(hc:c<2^r):c ||| (x*2^r%18446744073709551616)=c+x*2^r%18446744073709551616:=by
 have e:(18446744073709551616:Nat)=2^(64-r)*2^r:=by
  rw [←Nat.pow_add,show 64-r+r=64 by omega]
 rw [e,Nat.mul_mod_mul_right,Nat.mul_comm,Nat.or_comm,←Nat.two_pow_add_eq_or_of_lt hc,Nat.add_comm]
theorem Uw (xs:List Nat)(h:Small xs)(q r n:Nat)(hr:r<64)(hn:n=q+xs.length+1):∀ k,k≤xs.length →
 val (Fw xs q r n k)=val (xs.take k)*2^r*18446744073709551616^q∧nth (Fw xs q r n k) (q+k)<2^r∧∀ j,q+k<j→nth (Fw xs q r n k) j=0
 | 0, _ => by
   refine ⟨by simp [Fw,Gm,val],?_,fun j _=>?_⟩
   ·rw [Fw,Fe];exact Nat.pow_pos (by decide)
   ·rw [Fw,Fe]
 | k + 1, hk => by
   obtain ⟨i1,i2,i3⟩:=Uw xs h q r n hr hn k (by omega);have hl:=Lx xs q r n k;have hx:=nth_lt h k;rw [Fw];generalize Fw xs q r n k=out at *;unfold Ks;have h0:=i3 (q+k+1) (by omega);rw [h0,Nat.zero_or,Ze _ r hr,Agu _ _ r hr i2];have hx2:nth xs k*2^r/18446744073709551616<2^r:=by
    rw [Nat.div_lt_iff_lt_mul (by decide),Nat.mul_comm (2^r)];exact Nat.mul_lt_mul_of_pos_right hx (Nat.pow_pos (by decide))
   generalize hX:nth xs k*2^r=X at *;have l1:q+k<out.length:=by omega
   have l2:q+k+1<(out.set (q+k) (nth out (q+k)+X%18446744073709551616)).length:=by rw [List.length_set];omega
   refine ⟨?_,?_,fun j hj=>?_⟩
   ·have v1:=Gu out (q+k) (nth out (q+k)+X%18446744073709551616) l1;have v2:=Gu _ (q+k+1) (X/18446744073709551616) l2;rw [Jg _ _ _ _ l1,if_neg (by omega),h0] at v2;rw [Br xs k (by omega),Nat.add_mul,Nat.add_mul,←i1,Nat.mul_assoc (18446744073709551616^k),hX];rw [Nat.pow_succ] at v2;have e3:18446744073709551616^k*X*18446744073709551616^q=18446744073709551616^(q+k)*X:=by rw [Nat.mul_right_comm,←Nat.pow_add,Nat.add_comm k q]
    rw [e3];have e4:18446744073709551616^(q+k)*X=18446744073709551616^(q+k)*18446744073709551616*(X/18446744073709551616)+18446744073709551616^(q+k)*(X%18446744073709551616):=by
     rw [Nat.mul_assoc,←Nat.mul_add,Nat.div_add_mod]
    rw [e4];rw [Nat.mul_add] at v1;generalize 18446744073709551616^(q+k)*18446744073709551616*(X/18446744073709551616)=a at *;generalize 18446744073709551616^(q+k)*(X%18446744073709551616)=b at *;generalize 18446744073709551616^(q+k)*nth out (q+k)=c at *;omega
   ·rw [←Nat.add_assoc,Jg _ _ _ _ l2,if_pos rfl];exact hx2
   ·rw [Jg _ _ _ _ l2,if_neg (by omega),Jg _ _ _ _ l1,if_neg (by omega)];exact i3 j (by omega)
theorem Kn (n:Nat):2^n=2^(n%64)*18446744073709551616^(n/64):=by
 have e:(18446744073709551616:Nat)=2^64:=by decide
 rw [e,←Nat.pow_mul,←Nat.pow_add,Nat.mod_add_div]
theorem Adl (xs:List Nat)(h:Small xs)(n:Nat):val (Fw xs (n/64) (n%64) (n/64+xs.length+1) xs.length)=val xs*2^n:=by
 have:=(Uw xs h (n/64) (n%64) _ (Nat.mod_lt _ (by decide)) rfl xs.length (Nat.le_refl _)).1;rw [this,List.take_of_length_le (Nat.le_refl _),Nat.mul_assoc,←Kn]
def D5 (out ys:List Nat):Nat→List Nat × Nat
 | 0=>(out,0)
 | k + 1 => let s := D5   out ys k
   (s.1.set k ((nth s.1 k+nth ys k+s.2)%18446744073709551616),(nth s.1 k+nth ys k+s.2)/18446744073709551616)
theorem Hp (out ys:List Nat)(k:Nat):D5 out ys (k+1)=((D5 out ys k).1.set k ((nth (D5 out ys k).1 k+nth ys k+(D5 out ys k).2)%18446744073709551616),(nth (D5 out ys k).1 k+nth ys k+(D5 out ys k).2)/18446744073709551616):=rfl
theorem Fp (out ys:List Nat):∀ k,(D5 out ys k).1.length=out.length
 | 0=>rfl
 | k+1=>by rw [Hp,List.length_set,Fp out ys k]
theorem Gv (out ys:List Nat)(h:Small out):∀ k,Small (D5 out ys k).1
 | 0=>h
 | k+1=>by rw [Hp];exact Dv (Gv out ys h k) _ _ (Nat.mod_lt _ (by decide))
theorem Lf (out ys:List Nat)(h:Small out)(h':Small ys):∀ k,(D5 out ys k).2≤1
 | 0=>by simp [D5]
 | k + 1 => by
   have a:=Lf out ys h h' k;have b:=nth_lt (Gv out ys h k) k;have c:=nth_lt h' k;rw [Hp]
   show (nth (D5 out ys k).1 k+nth ys k+(D5 out ys k).2)/18446744073709551616≤1
   omega
theorem Hm (xs:List Nat)(k:Nat):val (xs.take (k+1))=val (xs.take k)+18446744073709551616^k*nth xs k:=by
 by_cases h:k<xs.length
 ·exact Br xs k h
 ·rw [List.take_of_length_le (by omega),List.take_of_length_le (by omega),Qi xs k (by omega)];rfl
theorem Rw (out ys:List Nat):∀ k,k≤out.length→val (D5 out ys k).1+18446744073709551616^k*(D5 out ys k).2=val out+val (ys.take k)
 | 0,_=>by simp [D5,val]
 | k + 1, hk => by
   have ih:=Rw out ys k (by omega);have hl:=Fp out ys k;rw [Hp,Hm];generalize D5 out ys k=s at *;obtain ⟨o,c⟩:=s;simp only at *;generalize hT:nth o k+nth ys k+c=T;have v:=Gu o k (T%18446744073709551616) (by omega);have e:18446744073709551616^(k+1)*(T/18446744073709551616)+18446744073709551616^k*(T%18446744073709551616)=18446744073709551616^k*T:=by
    rw [Nat.pow_succ,Nat.mul_assoc,←Nat.mul_add,Nat.div_add_mod]
   have e2:18446744073709551616^k*T=18446744073709551616^k*nth o k+18446744073709551616^k*nth ys k+18446744073709551616^k*c:=by
    rw [←hT,Nat.mul_add,Nat.mul_add]
   omega
theorem Uh (out ys:List Nat)(h:Small out)(k:Nat)(hy:ys.length≤k)(hc:(D5 out ys k).2=0):∀ d,k+d≤out.length→D5 out ys (k+d)=((D5 out ys k).1,0)
 | 0,_=>by rw [Nat.add_zero,←hc]
 | d + 1, hd => by
   have ih:=Uh out ys h k hy hc d (by omega);have hlt:=nth_lt (Gv out ys h k) (k+d);have hl:=Fp out ys k;rw [←Nat.add_assoc,Hp,ih,Qi ys (k+d) (by omega)];simp only [Nat.add_zero];rw [Nat.mod_eq_of_lt hlt,Nat.div_eq_of_lt hlt]
   congr 1
   apply List.ext_getElem
   ·simp
   ·intro i h1 h2;rw [List.getElem_set];split
    ·rename_i e;subst e;rw [nth,List.getD_eq_getElem?_getD,List.getElem?_eq_getElem h2];rfl
    ·rfl
theorem W6 (xs ys:List Nat)(h:Small xs)(h':Small ys)(hle:ys.length≤xs.length):val (D5 (xs++[0]) ys (xs.length+1)).1=val xs+val ys:=by
 have hs:Small (xs++[0]):=by
  intro x hx;rcases List.mem_append.1 hx with hx | hx
  ·exact h x hx
  ·have:x=0:=by simpa using hx
   omega
 have a:=Rw (xs++[0]) ys (xs.length+1) (by simp);rw [List.take_of_length_le (by omega),Cn,Nat.pow_succ] at a;have b:=Ev _ h;have c:=Ev _ h';have d:18446744073709551616^ys.length≤18446744073709551616^xs.length:=Nat.pow_le_pow_right (by decide) hle;have e:val [0]=0:=by simp [val]
 rw [e,Nat.mul_zero,Nat.add_zero] at a;generalize (D5 (xs++[0]) ys (xs.length+1)).2=q at *;generalize (D5 (xs++[0]) ys (xs.length+1)).1=o at *;generalize 18446744073709551616^xs.length=p at *;generalize 18446744073709551616^ys.length=p' at *;have hq:q=0:=by
  by_cases hq:q=0
  ·exact hq
  ·have:p*18446744073709551616*1≤p*18446744073709551616*q:=Nat.mul_le_mul_left _ (by omega);omega
 rw [hq,Nat.mul_zero,Nat.add_zero] at a;exact a
end Go.Proofs.YtabjjdicffcolaaGreatDoor
namespace Go.Proofs.YtabjjdicffcolaaGreatDoor
def J6 (out ys:List Nat):Nat→List Nat × Nat
 | 0=>(out,0)
 | k + 1 => let s := J6   out ys k
   (s.1.set k ((nth s.1 k+18446744073709551616-nth ys k-s.2)%18446744073709551616),if nth s.1 k<nth ys k+s.2 then 1 else 0)
theorem K9 (out ys:List Nat)(k:Nat):J6 out ys (k+1)=((J6 out ys k).1.set k ((nth (J6 out ys k).1 k+18446744073709551616-nth ys k-(J6 out ys k).2)%18446744073709551616),if nth (J6 out ys k).1 k<nth ys k+(J6 out ys k).2 then 1 else 0):=rfl
theorem Kd (out ys:List Nat):∀ k,(J6 out ys k).1.length=out.length
 | 0=>rfl
 | k+1=>by rw [K9,List.length_set,Kd out ys k]
theorem L8 (out ys:List Nat)(h:Small out):∀ k,Small (J6 out ys k).1
 | 0=>h
 | k+1=>by rw [K9];exact Dv (L8 out ys h k) _ _ (Nat.mod_lt _ (by decide))
theorem M6 (out ys:List Nat):∀ k,(J6 out ys k).2≤1
 | 0=>by simp [J6]
 | k + 1 => by
   rw [K9]
   show (if _ then 1 else 0)≤1
   split<;>omega
theorem Zl (out ys:List Nat)(h:Small out)(h':Small ys):∀ k,k≤out.length→val (J6 out ys k).1+val (ys.take k)=val out+18446744073709551616^k*(J6 out ys k).2
 | 0,_=>by simp [J6,val]
 | k + 1, hk => by
   have ih:=Zl out ys h h' k (by omega);have hl:=Kd out ys k;have hx:=nth_lt (L8 out ys h k) k;have hy:=nth_lt h' k;have hb:=M6 out ys k;rw [K9,Hm,Nat.pow_succ];generalize J6 out ys k=s at *;obtain ⟨o,c⟩:=s;simp only at *;generalize nth ys k=y at *;have v:=Gu o k ((nth o k+18446744073709551616-y-c)%18446744073709551616) (by omega);generalize nth o k=x at *;generalize 18446744073709551616^k=p at *;by_cases hlt:x<y+c
   ·rw [if_pos hlt,Nat.mod_eq_of_lt (by omega)] at *;have e:p*(x+18446744073709551616-y-c)+p*y+p*c=p*x+p*18446744073709551616:=by
     rw [←Nat.mul_add,←Nat.mul_add,←Nat.mul_add];congr 1;omega
    rw [Nat.mul_one];omega
   ·have e0:(x+18446744073709551616-y-c)%18446744073709551616=x-y-c:=by omega
    rw [if_neg hlt];rw [e0] at v ⊢;have e:p*(x-y-c)+p*y+p*c=p*x:=by
     rw [←Nat.mul_add,←Nat.mul_add];congr 1;omega
    rw [Nat.mul_zero,Nat.add_zero];omega
theorem Ahh (xs ys:List Nat)(h:Small xs)(h':Small ys)(hle:ys.length≤xs.length)(hv:val ys≤val xs):val (J6 xs ys xs.length).1=val xs-val ys:=by
 have a:=Zl xs ys h h' xs.length (Nat.le_refl _);rw [List.take_of_length_le hle] at a;have b:=Ev _ (L8 xs ys h xs.length);rw [Kd] at b;have c:=M6 xs ys xs.length;generalize (J6 xs ys xs.length).2=q at *;have hq:q=0:=by
  by_cases hq:q=0
  ·exact hq
  ·obtain rfl:q=1:=by omega
   rw [Nat.mul_one] at a;omega
 rw [hq,Nat.mul_zero,Nat.add_zero] at a;omega
theorem Agg (p c z:Nat) :
 (z+(p%18446744073709551616+c)%18446744073709551616)%18446744073709551616=(p+c+z)%18446744073709551616 ∧
 p/18446744073709551616+(p%18446744073709551616+c)/18446744073709551616+(z+(p%18446744073709551616+c)%18446744073709551616)/18446744073709551616=(p+c+z)/18446744073709551616:=by
 omega
theorem Nn (x y c z:Nat)(hx:x<18446744073709551616)(hy:y<18446744073709551616)(hc:c<18446744073709551616)(hz:z<18446744073709551616):(x*y+c+z)/18446744073709551616<18446744073709551616:=by
 have:x*y≤18446744073709551615*18446744073709551615:=Nat.mul_le_mul (by omega) (by omega);omega
def I8 (out:List Nat) (i x:Nat) (ys:List Nat):Nat→List Nat × Nat
 | 0=>(out,0)
 | j + 1 => let s := I8   out i x ys j
   (s.1.set (i+j) ((x*nth ys j+s.2+nth s.1 (i+j))%18446744073709551616),(x*nth ys j+s.2+nth s.1 (i+j))/18446744073709551616)
theorem Jk (out:List Nat)(i x:Nat)(ys:List Nat)(j:Nat):I8 out i x ys (j+1)=((I8 out i x ys j).1.set (i+j) ((x*nth ys j+(I8 out i x ys j).2+nth (I8 out i x ys j).1 (i+j))%18446744073709551616),(x*nth ys j+(I8 out i x ys j).2+nth (I8 out i x ys j).1 (i+j))/18446744073709551616):=rfl
theorem G8 (out:List Nat)(i x:Nat)(ys:List Nat):∀ j,(I8 out i x ys j).1.length=out.length
 | 0=>rfl
 | j+1=>by rw [Jk,List.length_set,G8 out i x ys j]
theorem L6 (out:List Nat)(i x:Nat)(ys:List Nat)(h:Small out):∀ j,Small (I8 out i x ys j).1
 | 0=>h
 | j+1=>by rw [Jk];exact Dv (L6 out i x ys h j) _ _ (Nat.mod_lt _ (by decide))
theorem Ov (out:List Nat)(i x:Nat)(ys:List Nat)(h:Small out)(h':Small ys)(hx:x<18446744073709551616):∀ j,(I8 out i x ys j).2<18446744073709551616
 | 0=>by simp [I8]
 | j + 1 => by
   rw [Jk];exact Nn _ _ _ _ hx (nth_lt h' j) (Ov out i x ys h h' hx j) (nth_lt (L6 out i x ys h j) _)
theorem Zb (out:List Nat)(i x:Nat)(ys:List Nat):∀ j k,i+j≤k→i+j≤out.length→nth (I8 out i x ys j).1 k=nth out k
 | 0,_,_,_=>rfl
 | j + 1, k, h, hk => by
   rw [Jk]
   show nth ((I8 out i x ys j).1.set (i+j) _) k=_
   rw [Jg _ _ _ _ (by rw [G8];omega),if_neg (by omega)];exact Zb out i x ys j k (by omega) (by omega)
theorem Zc (out:List Nat)(i x:Nat)(ys:List Nat):∀ j,i+j≤out.length →
 val (I8 out i x ys j).1+18446744073709551616^(i+j)*(I8 out i x ys j).2=val out+18446744073709551616^i*(x*val (ys.take j))
 | 0,_=>by simp [I8,val]
 | j + 1, hj => by
   have ih:=Zc out i x ys j (by omega);have hl:=G8 out i x ys j;rw [Jk,Hm,←Nat.add_assoc,Nat.pow_succ,Nat.mul_add,Nat.mul_add,←Nat.add_assoc,←ih];generalize I8 out i x ys j=s at *;obtain ⟨o,c⟩:=s;simp only at *;generalize hT:x*nth ys j+c+nth o (i+j)=T;have v:=Gu o (i+j) (T%18446744073709551616) (by omega);have e1:18446744073709551616^i*(x*(18446744073709551616^j*nth ys j))=18446744073709551616^(i+j)*(x*nth ys j):=by
    rw [Nat.pow_add,←Nat.mul_assoc x,Nat.mul_comm x,Nat.mul_assoc,Nat.mul_assoc]
   rw [e1];generalize 18446744073709551616^(i+j)=p at *;have e:p*18446744073709551616*(T/18446744073709551616)+p*(T%18446744073709551616)=p*T:=by
    rw [Nat.mul_assoc,←Nat.mul_add,Nat.div_add_mod]
   have e2:p*T=p*(x*nth ys j)+p*c+p*nth o (i+j):=by rw [←hT,Nat.mul_add,Nat.mul_add]
   omega
def Mt (xs ys:List Nat) (n:Nat):Nat→List Nat
 | 0=>List.replicate n 0
 | i + 1 => let s := I8   (Mt   xs ys n i) i (nth xs i) ys ys.length
   s.1.set (i+ys.length) s.2
theorem Nl (xs ys:List Nat)(n i:Nat):Mt xs ys n (i+1)=(I8 (Mt xs ys n i) i (nth xs i) ys ys.length).1.set (i+ys.length) (I8 (Mt xs ys n i) i (nth xs i) ys ys.length).2:=rfl
theorem Mu (xs ys:List Nat)(n:Nat):∀ i,(Mt xs ys n i).length=n
 | 0=>by simp [Mt]
 | i+1=>by rw [Nl,List.length_set,G8,Mu xs ys n i]
theorem Ss (xs ys:List Nat)(n:Nat)(h:Small xs)(h':Small ys):∀ i,Small (Mt xs ys n i)
 | 0=>Eg n
 | i + 1 => by
   have ih:=Ss xs ys n h h' i;rw [Nl];exact Dv (L6 _ _ _ _ ih _) _ _ (Ov _ _ _ _ ih h' (nth_lt h i) _)
theorem Ye (xs ys:List Nat)(h:Small xs)(h':Small ys):∀ i,i≤xs.length →
 val (Mt xs ys (xs.length+ys.length) i)=val (xs.take i)*val ys∧∀ k,i+ys.length≤k→nth (Mt xs ys (xs.length+ys.length) i) k=0
 | 0, _ => by
   refine ⟨by simp [Mt,Gm,val],fun k _=>?_⟩;rw [Mt,Fe]
 | i + 1, hi => by
   obtain ⟨i1,i2⟩:=Ye xs ys h h' i (by omega);have hl:=Mu xs ys (xs.length+ys.length) i;rw [Nl];generalize Mt xs ys (xs.length+ys.length) i=out at *;have v:=Zc out i (nth xs i) ys ys.length (by omega);have hn:=Zb out i (nth xs i) ys ys.length;have hrl:=G8 out i (nth xs i) ys ys.length;generalize I8 out i (nth xs i) ys ys.length=s at *;obtain ⟨o,c⟩:=s;simp only at *;have v2:=Gu o (i+ys.length) c (by omega);rw [hn _ (Nat.le_refl _) (by omega),i2 _ (Nat.le_refl _),Nat.mul_zero,Nat.add_zero] at v2;refine ⟨?_,fun k hk=>?_⟩
   ·rw [List.take_of_length_le (Nat.le_refl _)] at v;rw [Br xs i (by omega),Nat.add_mul,←i1,Nat.mul_assoc,←v];exact v2
   ·rw [Jg _ _ _ _ (by omega),if_neg (by omega),hn k (by omega) (by omega),i2 k (by omega)]
theorem Age (xs ys:List Nat)(h:Small xs)(h':Small ys):val (Mt xs ys (xs.length+ys.length) xs.length)=val xs*val ys:=by
 rw [(Ye xs ys h h' xs.length (Nat.le_refl _)).1,List.take_of_length_le (Nat.le_refl _)]
def Jz (xs:List Nat) (r i:Nat):Nat:=if i+1<xs.length then (nth xs i/2^r) ||| (nth xs (i+1)*2%18446744073709551616*2^(63-r)%18446744073709551616) else nth xs i/2^r
def Ee (xs:List Nat) (r:Nat):Nat→List Nat
 | 0=>List.replicate xs.length 0
 | k+1=>(Ee xs r k).set k (Jz xs r k)
theorem Ir (xs:List Nat)(r:Nat):∀ k,(Ee xs r k).length=xs.length
 | 0=>by simp [Ee]
 | k+1=>by rw [Ee,List.length_set,Ir xs r k]
theorem Ad5 (xs:List Nat)(h:Small xs)(r i:Nat)(hr:r<64):Jz xs r i=nth xs i/2^r+nth xs (i+1)*2^(64-r)%18446744073709551616:=by
 have e64:(18446744073709551616:Nat)=2^(64-r)*2^r:=by
  rw [←Nat.pow_add,show 64-r+r=64 by omega]
 unfold Jz;by_cases hi:i+1<xs.length
 ·rw [if_pos hi];have e1:nth xs (i+1)*2%18446744073709551616*2^(63-r)%18446744073709551616=nth xs (i+1)*2^(64-r)%18446744073709551616:=by
   rw [Nat.mod_mul_mod,Nat.mul_assoc,show (64-r)=(63-r)+1 by omega,Nat.pow_succ,Nat.mul_comm 2]
  have e2:nth xs i/2^r<2^(64-r):=by
   rw [Nat.div_lt_iff_lt_mul (Nat.pow_pos (by decide)),←e64];exact nth_lt h i
  rw [e1];have e3:nth xs (i+1)*2^(64-r)%18446744073709551616=2^(64-r)*(nth xs (i+1)%2^r):=by
   rw [e64,Nat.mul_comm (nth xs (i+1)),Nat.mul_mod_mul_left]
  rw [e3,Nat.or_comm,←Nat.two_pow_add_eq_or_of_lt e2,Nat.add_comm]
 ·rw [if_neg hi,Qi xs (i+1) (by omega),Nat.zero_mul,Nat.zero_mod,Nat.add_zero]
theorem Ad6 (xs:List Nat)(h:Small xs)(r i:Nat)(_hr:r<64):Jz xs r i<18446744073709551616:=by
 unfold Jz;have a:=nth_lt h i;have b:nth xs i/2^r≤nth xs i:=Nat.div_le_self _ _;split
 ·exact Agv (by omega) (Nat.mod_lt _ (by decide))
 ·omega
theorem Pr (xs:List Nat)(h:Small xs)(r:Nat)(hr:r<64):∀ k,Small (Ee xs r k)
 | 0=>Eg _
 | k+1=>Dv (Pr xs h r hr k) _ _ (Ad6 xs h r k hr)
theorem S7 (xs:List Nat)(r:Nat):∀ k j,k≤xs.length→nth (Ee xs r k) j=if j<k then Jz xs r j else 0
 | 0,j,_=>by rw [Ee,Fe,if_neg (by omega)]
 | k + 1, j, hk => by
   rw [Ee,Jg _ _ _ _ (by rw [Ir];omega),S7 xs r k j (by omega)];by_cases e:k=j
   ·subst e;rw [if_pos rfl,if_pos (by omega)]
   ·rw [if_neg e];by_cases h2:j<k
    ·rw [if_pos h2,if_pos (by omega)]
    ·rw [if_neg h2,if_neg (by omega)]
theorem S8 (xs:List Nat)(h:Small xs)(r:Nat)(hr:r<64)(o:List Nat)(ho:∀ j,j<xs.length→nth o j=Jz xs r j):∀ k,k≤xs.length→k≤o.length →
 val (o.take k)*2^r+nth xs 0%2^r=val (xs.take k)+18446744073709551616^k*(nth xs k%2^r)
 | 0,_,_=>by simp [val]
 | k + 1, hk, hk' => by
   have ih:=S8 xs h r hr o ho k (by omega) (by omega);have e64:(18446744073709551616:Nat)=2^(64-r)*2^r:=by
    rw [←Nat.pow_add,show 64-r+r=64 by omega]
   rw [Br o k (by omega),Br xs k (by omega),ho k (by omega),Ad5 xs h r k hr,Nat.add_mul,Nat.pow_succ];have e3:nth xs (k+1)*2^(64-r)%18446744073709551616*2^r=18446744073709551616*(nth xs (k+1)%2^r):=by
    rw [e64,Nat.mul_comm (nth xs (k+1)),Nat.mul_mod_mul_left,Nat.mul_right_comm]
   have e4:nth xs k/2^r*2^r+nth xs k%2^r=nth xs k:=by rw [Nat.mul_comm];exact Nat.div_add_mod _ _
   generalize 18446744073709551616^k=p at *;have e5:p*(nth xs k/2^r+nth xs (k+1)*2^(64-r)%18446744073709551616)*2^r=p*(nth xs k/2^r*2^r)+p*(18446744073709551616*(nth xs (k+1)%2^r)):=by
    rw [Nat.mul_assoc,Nat.add_mul,e3,Nat.mul_add]
   rw [e5,←Nat.mul_assoc p 18446744073709551616];have e6:p*nth xs k=p*(nth xs k/2^r*2^r)+p*(nth xs k%2^r):=by rw [←Nat.mul_add,e4]
   omega
theorem Aba (xs:List Nat)(h:Small xs)(r:Nat)(hr:r<64):val (Ee xs r xs.length)=val xs/2^r:=by
 have hl:=Ir xs r xs.length;have:=S8 xs h r hr (Ee xs r xs.length) (fun j hj=>by rw [S7 xs r _ j (Nat.le_refl _),if_pos hj]) xs.length (Nat.le_refl _) (by omega);rw [List.take_of_length_le (by omega),List.take_of_length_le (Nat.le_refl _),Qi xs xs.length (Nat.le_refl _),Nat.zero_mod,Nat.mul_zero,Nat.add_zero] at this;have hlt:nth xs 0%2^r<2^r:=Nat.mod_lt _ (Nat.pow_pos (by decide));rw [←this,Nat.add_comm,Nat.add_mul_div_right _ _ (Nat.pow_pos (by decide)),Nat.div_eq_of_lt hlt,Nat.zero_add]
theorem T0 (xs:List Nat)(h:Small xs)(k:Nat):val (xs.drop k)=val xs/18446744073709551616^k:=by
 by_cases hk:k≤xs.length
 ·have e:=Cn (xs.take k) (xs.drop k);rw [List.take_append_drop,List.length_take,Nat.min_eq_left hk] at e;have b:=Ev _ (D3 h k);rw [List.length_take,Nat.min_eq_left hk] at b;rw [e,Nat.add_mul_div_left _ _ (Nat.pow_pos (by decide)),Nat.div_eq_of_lt b,Nat.zero_add]
 ·rw [List.drop_eq_nil_of_le (by omega),Nat.div_eq_of_lt]
  ·rfl
  ·exact Nat.lt_of_lt_of_le (Ev _ h) (Nat.pow_le_pow_right (by decide) (by omega))
theorem Ad7 (xs:List Nat)(h:Small xs)(n:Nat):val (Ee (xs.drop (n/64)) (n%64) (xs.drop (n/64)).length)=val xs/2^n:=by
 rw [Aba _ (J0 h _) _ (Nat.mod_lt _ (by decide)),T0 xs h,Nat.div_div_eq_div_mul,Kn n,Nat.mul_comm]
end Go.Proofs.YtabjjdicffcolaaGreatDoor
namespace Go.Proofs.YtabjjdicffcolaaGreatDoor
variable {d q r u yn0 yn1:Nat}
structure F1 (u d yn1 yn0 q r:Nat):Prop where
 sum:u=q*yn1+r
 ge:(u*4294967296+d)/(yn1*4294967296+yn0)≤q
theorem Lu (u d yn1 yn0:Nat)(hd:d<4294967296)(h1:0<yn1):F1 u d yn1 yn0 (u/yn1) (u%yn1):=by
 refine ⟨by rw [Nat.mul_comm];exact (Nat.div_add_mod u yn1).symm,?_⟩;have e:(u*4294967296+d)/(yn1*4294967296)=u/yn1:=by
  rw [Nat.mul_comm yn1,←Nat.div_div_eq_div_mul]
  congr 1
  omega
 rw [←e];exact Nat.div_le_div_left (by omega) (by omega)
theorem Kr (h:F1 u d yn1 yn0 q r)(h1:0<yn1)(hc:q*yn0≤4294967296*r+d):q=(u*4294967296+d)/(yn1*4294967296+yn0):=by
 refine Nat.le_antisymm ?_ h.ge;rw [Nat.le_div_iff_mul_le (by omega),h.sum,Nat.mul_add,Nat.add_mul,Nat.mul_assoc q yn1,←Nat.mul_assoc];have:r*4294967296=4294967296*r:=Nat.mul_comm _ _;omega
theorem Gz (h:F1 u d yn1 yn0 q r)(hu:u<yn1*4294967296+yn0)(hd:d<4294967296)(_h1:0<yn1)(hc:4294967296≤q∨4294967296*r+d<q*yn0) :
 1≤q∧F1 u d yn1 yn0 (q-1) (r+yn1):=by
 have key:(u*4294967296+d)/(yn1*4294967296+yn0)<q:=by
  rw [Nat.div_lt_iff_lt_mul (by omega)];rcases hc with hc | hc
  ·have:4294967296*(yn1*4294967296+yn0)≤q*(yn1*4294967296+yn0):=Nat.mul_le_mul_right _ hc;omega
  ·rw [h.sum,Nat.mul_add,Nat.add_mul,←Nat.mul_assoc];have:r*4294967296=4294967296*r:=Nat.mul_comm _ _;omega
 have h1:1≤q:=Nat.lt_of_le_of_lt (Nat.zero_le _) key;refine ⟨h1,?_,Nat.le_sub_one_of_lt key⟩;have hs:=h.sum;clear key hc h;obtain ⟨k,rfl⟩:∃ k,q=k+1:=⟨q-1,by omega⟩;rw [Nat.add_sub_cancel,hs,Nat.add_mul];omega
theorem Fv (h:F1 u d yn1 yn0 q r)(hu:u<yn1*4294967296+yn0)(h0:yn0<4294967296)(h1:0<yn1)(hr:4294967296≤r):q=(u*4294967296+d)/(yn1*4294967296+yn0):=by
 have hq:q<4294967296:=by
  have a:q*yn1<yn1*4294967296:=by have:=h.sum;omega
  rw [Nat.mul_comm] at a;exact Nat.lt_of_mul_lt_mul_left a
 refine Kr h h1 ?_;have:q*yn0≤4294967296*4294967296:=Nat.mul_le_mul (by omega) (by omega);omega
theorem Adi (u d Y q:Nat)(hY:Y<18446744073709551616)(h0:0<Y)(hq:q=(u*4294967296+d)/Y) :
 (((u*4294967296:Int)+d)-q*Y)%18446744073709551616=(((u*4294967296+d)%Y:Nat):Int):=by
 have a:=Nat.div_add_mod (u*4294967296+d) Y;rw [←hq] at a;have b:=Nat.mod_lt (u*4294967296+d) h0;have c:(q:Int)*Y=((Y*q:Nat):Int):=by rw [Int.natCast_mul,Int.mul_comm]
 rw [c];generalize Y*q=p at *;generalize (u*4294967296+d)%Y=t at *;omega
theorem Abi (N Y lo hi:Nat)(h0:0<Y)(hN:N=hi*4294967296+lo)(_hl:lo<4294967296) :
 N/Y=hi/Y*4294967296+(hi%Y*4294967296+lo)/Y∧N%Y=(hi%Y*4294967296+lo)%Y:=by
 have a:=Nat.div_add_mod hi Y;have e:N=Y*(hi/Y*4294967296)+(hi%Y*4294967296+lo):=by
  rw [hN,←Nat.mul_assoc,←Nat.add_assoc,←Nat.add_mul,a]
 rw [e];exact ⟨by rw [Nat.mul_add_div h0],by rw [Nat.mul_add_mod]⟩
theorem Aee (hi lo y s:Nat)(hs:s<64)(hlo:lo<18446744073709551616)(hlt:hi<y) :
 (hi*18446744073709551616+lo)*2^s=(hi*2^s+lo/2^(64-s))*18446744073709551616+lo*2^s%18446744073709551616∧hi*2^s+lo/2^(64-s)<y*2^s∧lo/2^(64-s)<2^s∧lo/2^(64-s)=lo*2^s/18446744073709551616:=by
 have e64:(18446744073709551616:Nat)=2^(64-s)*2^s:=by
  rw [←Nat.pow_add,show 64-s+s=64 by omega]
 have e1:lo/2^(64-s)=lo*2^s/18446744073709551616:=by
  rw [e64,Nat.mul_div_mul_right _ _ (Nat.pow_pos (by decide))]
 have h2:lo/2^(64-s)<2^s:=by
  rw [Nat.div_lt_iff_lt_mul (Nat.pow_pos (by decide)),Nat.mul_comm (2^s),←e64];exact hlo
 refine ⟨?_,?_,h2,e1⟩
 ·have:=Nat.div_add_mod (lo*2^s) 18446744073709551616;rw [←e1] at this;rw [Nat.add_mul,Nat.add_mul,Nat.mul_right_comm];omega
 ·have:(hi+1)*2^s≤y*2^s:=Nat.mul_le_mul_right _ hlt;rw [Nat.add_mul] at this;omega
theorem Dx (u d Y:Nat)(hu:u<Y)(hd:d<4294967296):(u*4294967296+d)/Y<4294967296:=by
 rw [Nat.div_lt_iff_lt_mul (by omega)];omega
end Go.Proofs.YtabjjdicffcolaaGreatDoor
namespace Go.Proofs.YtabjjdicffcolaaGreatDoor
def Q9 (n:Nat):Nat→Nat→Nat
 | 0,x=>x
 | f+1,x=>if x≤(x+n/x)/2 then x else Q9 n f ((x+n/x)/2)
def isq (n:Nat):Nat:=if n=0 then 0 else Q9 n (2^((bl n+1)/2)) (2^((bl n+1)/2))
theorem Ag9 {a b:Nat}(h:a*a<b*b):a<b:=by
 by_cases hab:a<b
 ·exact hab
 ·have:=Nat.mul_le_mul (show b≤a by omega) (show b≤a by omega);omega
theorem Tr (n x:Nat)(hx:0<x):n<((x+n/x)/2+1)*((x+n/x)/2+1):=by
 have a:=Nat.lt_mul_div_succ n hx;generalize n/x=q at *;generalize hy:(x+q)/2=y at *;have b:x+q+1≤2*(y+1):=by omega
 -- n < x (q + 1), and 4 x (q + 1) ≤ (x + q + 1)^2
 have c:4*(x*(q+1))≤(x+(q+1))*(x+(q+1)):=by
  rcases Nat.le_total x (q+1) with h | h
  ·obtain ⟨d,hd⟩:∃ d,q+1=x+d:=⟨q+1-x,by omega⟩;rw [hd];have e:(x+(x+d))*(x+(x+d))=4*(x*(x+d))+d*d:=by grind
   omega
  ·obtain ⟨d,hd⟩:∃ d,x=(q+1)+d:=⟨x-(q+1),by omega⟩;rw [hd];have e:(q+1+d+(q+1))*(q+1+d+(q+1))=4*((q+1+d)*(q+1))+d*d:=by grind
   omega
 have d:(x+(q+1))*(x+(q+1))≤(2*(y+1))*(2*(y+1)):=Nat.mul_le_mul (by omega) (by omega);have e:(2*(y+1))*(2*(y+1))=4*((y+1)*(y+1)):=by grind
 omega
theorem Aeh (n x:Nat)(hx:0<x)(h:x≤(x+n/x)/2):x*x≤n:=by
 have:x≤n/x:=by omega
 rwa [Nat.le_div_iff_mul_le hx] at this
theorem Zj (n x:Nat)(hx:0<x)(hn:0<n):0<(x+n/x)/2:=by
 have:=Tr n x hx;by_cases h:(x+n/x)/2=0
 ·rw [h] at this;omega
 ·exact Nat.pos_of_ne_zero h
theorem Uu (n:Nat)(hn:0<n):∀ f x,0<x→x≤f→n<(x+1)*(x+1)→Q9 n f x*Q9 n f x≤n∧n<(Q9 n f x+1)*(Q9 n f x+1)
 | 0,x,hx,hf,_=>by omega
 | f + 1, x, hx, hf, h => by
   unfold Q9;by_cases hd:x≤(x+n/x)/2
   ·rw [if_pos hd];exact ⟨Aeh n x hx hd,h⟩
   ·rw [if_neg hd];exact Uu n hn f _ (Zj n x hx hn) (by omega) (Tr n x hx)
theorem Adk (n:Nat):n<(2^((bl n+1)/2)+1)*(2^((bl n+1)/2)+1):=by
 have a:=Ba n;have b:2^bl n≤2^((bl n+1)/2+(bl n+1)/2):=Nat.pow_le_pow_right (by decide) (by omega);rw [Nat.pow_add] at b;have c:=Nat.mul_le_mul (Nat.le_succ (2^((bl n+1)/2))) (Nat.le_succ (2^((bl n+1)/2)));exact Nat.lt_of_lt_of_le a (Nat.le_trans b c)
theorem Mp (n:Nat):isq n*isq n≤n∧n<(isq n+1)*(isq n+1):=by
 unfold isq;by_cases h:n=0
 ·subst h;simp
 ·rw [if_neg h];exact Uu n (by omega) _ _ (Nat.pow_pos (by decide)) (Nat.le_refl _) (Adk n)
end Go.Proofs.YtabjjdicffcolaaGreatDoor
namespace Go.Proofs.YtabjjdicffcolaaGreatDoor
variable {xs:List Nat}
structure Raw where
 neg:Bool
 m:List Nat
 e:Int
structure Dy where
 neg:Bool
 m:Nat
 e:Int
def Dy.raw (d:Dy):Raw:=⟨d.neg,limbs d.m,d.e⟩
def dz:Dy:=⟨false,0,0⟩
def Raw.dy (r:Raw):Dy:=⟨r.neg,val r.m,r.e⟩
def Ew (r:Raw):Bool :=
 if r.m.length=0 then (!r.neg&&r.e==0) else (Nx r.m&&nth r.m 0%2==1&&decide (-1048576≤r.e)&&decide (r.e≤1048576))
structure Dy.Ok (d:Dy):Prop where
 len:(limbs d.m).length≤64
 zero:d.m=0→d.neg=false∧d.e=0
 odd:d.m≠0→d.m%2=1
 lo:-1048576≤d.e
 hi:d.e≤1048576
theorem Aax (h:Small xs)(hm:Nx xs=true):limbs (val xs)=xs:=by
 rw [←Py xs h];unfold Nx at hm;by_cases h0:xs.length=0
 ·obtain rfl:=List.eq_nil_of_length_eq_zero h0;rfl
 ·simp [h0] at hm;have hm2:=hm;obtain ⟨k,hk⟩:∃ k,xs.length=k+1:=⟨xs.length-1,by omega⟩;have:tl xs=xs.length:=by
   unfold tl;rw [hk,Dw,if_neg];have:=hm2.2;rwa [hk,Nat.add_sub_cancel] at this
  rw [this,List.take_of_length_le (Nat.le_refl _)]
theorem Af9 (hm:Nx xs=true):xs.length≤64:=by
 unfold Nx at hm;by_cases h0:xs.length=0
 ·omega
 ·simp [h0] at hm;exact hm.1
theorem Mw (n:Nat):nth (limbs n) 0=n%18446744073709551616:=by
 by_cases h:n=0
 ·subst h;rw [Au];rfl
 ·rw [Bq n h];rfl
theorem Gw {r:Raw}(h:Small r.m)(hm:Ew r=true):r.dy.raw=r∧r.dy.Ok:=by
 obtain ⟨neg,m,e⟩:=r;unfold Ew at hm;simp only at hm h;by_cases h0:m.length=0
 ·obtain rfl:=List.eq_nil_of_length_eq_zero h0;simp at hm;obtain ⟨rfl,rfl⟩:=hm;refine ⟨by simp [Raw.dy,Dy.raw,val,Au],?_⟩;refine ⟨by simp [Raw.dy,val,Au],fun _=>⟨rfl,rfl⟩,fun h=>absurd rfl h,by simp [Raw.dy],by simp [Raw.dy]⟩
 ·rw [if_neg h0] at hm;simp only [Bool.and_eq_true,beq_iff_eq,decide_eq_true_eq] at hm;obtain ⟨⟨⟨h1,h2⟩,h3⟩,h4⟩:=hm;have hl:=Aax h h1;have hv:val m≠0:=by
   intro hv;rw [hv,Au] at hl;rw [←hl] at h0;simp at h0
  refine ⟨by simp only [Raw.dy,Dy.raw];rw [hl],?_⟩;refine ⟨by simp only [Raw.dy];rw [hl];exact Af9 h1,fun h=>absurd h hv,fun _=>?_,h3,h4⟩;simp only [Raw.dy];rw [←hl,Mw] at h2;omega
theorem T9 (n:Nat)(h:(limbs n).length≤64):Nx (limbs n)=true:=by
 by_cases h0:n=0
 ·subst h0;rw [Au];rfl
 ·unfold Nx;have:=Js n h0;simp [h]
  right
  exact this
theorem Dy.Ok.may {d:Dy}(h:d.Ok):Ew d.raw=true:=by
 unfold Ew Dy.raw;simp only;by_cases h0:d.m=0
 ·obtain ⟨a,b⟩:=h.zero h0;rw [h0,Au,a,b];rfl
 ·rw [if_neg (by have:=Bc d.m h0;omega),T9 d.m h.len,Mw];have h1:=h.odd h0;have h2:=h.lo;have h3:=h.hi;have h4:d.m%18446744073709551616%2=1:=by omega
  simp [h4,h2,h3]
theorem Dy.raw_dy (d:Dy):d.raw.dy=d:=by
 simp [Dy.raw,Raw.dy,Bn]
theorem Dy.small (d:Dy):Small d.raw.m:=Dj _
theorem Md:dz.Ok:=⟨by simp [dz,Au],fun _=>⟨rfl,rfl⟩,fun h=>absurd rfl h,by decide,by decide⟩
structure Outc (α:Type) where
 v:α
 k:Int
def good {α:Type} (a:α):Outc α:=⟨a,0⟩
def bad (k:Int):Outc Dy:=⟨dz,k⟩
def Bu (neg:Bool) (n:Nat) (e:Int):Outc Dy :=
 if n=0 then good dz
 else if 64<(limbs (n/2^tz n)).length then bad 2
 else if 1048576<e∨e < -1048576-tz n then bad 3
 else if 1048576<e+tz n then bad 3
 else good ⟨neg,n/2^tz n,e+tz n⟩
theorem Ih (neg:Bool)(n:Nat)(e:Int):(Bu neg n e).v.Ok∧((Bu neg n e).k≠0→(Bu neg n e).v=dz):=by
 unfold Bu;by_cases h0:n=0
 ·rw [if_pos h0];exact ⟨Md,fun _=>rfl⟩
 ·rw [if_neg h0];by_cases h1:64<(limbs (n/2^tz n)).length
  ·rw [if_pos h1];exact ⟨Md,fun _=>rfl⟩
  ·rw [if_neg h1];by_cases h2:1048576<e∨e < -1048576-tz n
   ·rw [if_pos h2];exact ⟨Md,fun _=>rfl⟩
   ·rw [if_neg h2];by_cases h3:1048576<e+tz n
    ·rw [if_pos h3];exact ⟨Md,fun _=>rfl⟩
    ·rw [if_neg h3];have ho:=Tz n h0;refine ⟨⟨by simp only [good];omega,fun hz=>?_,fun _=>ho,by simp only [good];omega,by simp only [good];omega⟩,fun h=>absurd rfl h⟩;simp only [good] at hz;rw [hz] at ho;omega
end Go.Proofs.YtabjjdicffcolaaGreatDoor
namespace Go.Proofs.YtabjjdicffcolaaGreatDoor
variable {rest up:Bool} {a b e f l:Int} {m m' n p p':Nat} {M d d' x x' y:Rat}
def pw (e:Int):Rat:=(2:Rat)^e
theorem Hy (e:Int):0<pw e:=Rat.zpow_pos (by decide)
theorem Es (a b:Int):pw (a+b)=pw a*pw b:=Rat.zpow_add (by decide) a b
theorem Gt:pw 0=1:=Rat.zpow_zero _
theorem Qk:pw 1=2:=Rat.zpow_one _
theorem I7 (n:Nat):pw (n:Int)=((2^n:Nat):Rat):=by
 unfold pw;rw [Rat.zpow_natCast,Rat.natCast_pow];rfl
theorem Oq (e:Int):pw e*pw (-e)=1:=by rw [←Es,Int.add_right_neg,Gt]
theorem No (y:Rat)(i:Int):y*pw (-i)*pw i=y:=by rw [Rat.mul_assoc,Rat.mul_comm (pw (-i)),Oq,Rat.mul_one]
theorem Df (e:Int):0≤pw e:=Rat.le_of_lt (Hy e)
theorem Anj (e:Int):pw e≠0:=by have:=Hy e;grind
theorem Yq (h:a≤b):pw b=((2^(b-a).toNat:Nat):Rat)*pw a:=by
 rw [←I7,←Es];congr 1;omega
theorem F7 (h:a≤b):pw a≤pw b:=by
 rw [Yq h];have h1:(1:Rat)≤((2^(b-a).toNat:Nat):Rat):=by
  have:=Rat.natCast_le_natCast.2 (Nat.one_le_two_pow (n:=(b-a).toNat));exact this
 have h2:=Rat.mul_le_mul_of_nonneg_right h1 (Df a);grind
def sq (s:Bool) (m:Nat):Rat:=if s then -(m:Rat) else m
theorem Wv (s:Bool)(m:Nat):sq (!s) m=-sq s m:=by cases s<;>simp [sq]
theorem Nt (s:Bool):sq s 0=0:=by cases s<;>simp [sq]
theorem Amc (s t:Bool)(m n:Nat):sq (s != t) (m*n)=sq s m*sq t n:=by
 cases s<;>cases t<;>simp [sq,Rat.natCast_mul]<;>grind
def Dy.q (d:Dy):Rat:=sq d.neg d.m*pw d.e
theorem Xr:dz.q=0:=by simp [Dy.q,dz,sq]
theorem Cy {a b:Nat}:(a:Rat)<(b:Rat)↔a<b:=Rat.natCast_lt_natCast
theorem Co {a b:Nat}:(a:Rat)≤(b:Rat)↔a≤b:=Rat.natCast_le_natCast
theorem Wj (h:m≠0):0<(m:Rat):=by
 have:=Cy.2 (Nat.pos_of_ne_zero h);simpa using this
theorem S5 (h:m≠0)(e:Int):0<(m:Rat)*pw e:=Rat.mul_pos (Wj h) (Hy e)
theorem Np {d:Dy}(hd:d.Ok):d.q=0↔d=dz:=by
 constructor
 ·intro h;by_cases h0:d.m=0
  ·obtain ⟨a,b⟩:=hd.zero h0;obtain ⟨n,m,e⟩:=d;simp only at h0 a b;subst h0 a b;rfl
  ·exfalso;have:=S5 h0 d.e;unfold Dy.q sq at h;cases hn:d.neg<;>rw [hn] at h<;>simp at h<;>grind
 ·rintro rfl;exact Xr
theorem Il (m:Nat)(h:l≤e):(m:Rat)*pw e=((m*2^(e-l).toNat:Nat):Rat)*pw l:=by
 rw [Yq h,Rat.natCast_mul,Rat.mul_assoc]
theorem U4 {a b:Rat}(e:Int):a*pw e<b*pw e↔a<b:=Rat.mul_lt_mul_right (Hy e)
theorem G7 {a b:Rat}(e:Int):a*pw e≤b*pw e↔a≤b:=by
 constructor
 ·intro h;exact Rat.le_of_mul_le_mul_right h (Hy e)
 ·intro h;exact Rat.mul_le_mul_of_nonneg_right h (Df e)
theorem Af4 (m n:Nat)(h:l≤e)(k:l≤f):(m:Rat)*pw e≤(n:Rat)*pw f↔m*2^(e-l).toNat≤n*2^(f-l).toNat:=by
 rw [Il m h,Il n k,G7,Co]
theorem Alq (m n:Nat)(h:l≤e)(k:l≤f):(m:Rat)*pw e<(n:Rat)*pw f↔m*2^(e-l).toNat<n*2^(f-l).toNat:=by
 rw [Il m h,Il n k,U4,Cy]
theorem Aav (m n:Nat)(h:l≤e)(k:l≤f):(m:Rat)*pw e=(n:Rat)*pw f↔m*2^(e-l).toNat=n*2^(f-l).toNat:=by
 constructor
 ·intro he;have h1:=(Af4 m n h k).1 (by rw [he];exact Rat.le_refl);have h2:=(Af4 n m k h).1 (by rw [he];exact Rat.le_refl);omega
 ·intro he;rw [Il m h,Il n k,he]
theorem Acb (hm:m%2=1)(hn:n%2=1)(h:(m:Rat)*pw e=(n:Rat)*pw f):m=n∧e=f:=by
 rcases Int.le_total e f with hl | hl
 ·have h1:=(Aav m n (Int.le_refl e) hl).1 h;obtain ⟨a,b⟩:=Jv hm hn h1;exact ⟨b,by omega⟩
 ·have h1:=(Aav m n hl (Int.le_refl f)).1 h;obtain ⟨a,b⟩:=Jv hm hn h1;exact ⟨b,by omega⟩
theorem Ank {a b:Dy}(ha:a.Ok)(hb:b.Ok)(h:a.q=b.q):a=b:=by
 by_cases h0:a.m=0
 ·have ha0:a.q=0:=by unfold Dy.q;rw [h0,Nt,Rat.zero_mul]
  rw [(Np ha).1 ha0,(Np hb).1 (by rw [←h,ha0])]
 ·by_cases h1:b.m=0
  ·have hb0:b.q=0:=by unfold Dy.q;rw [h1,Nt,Rat.zero_mul]
   rw [(Np hb).1 hb0,(Np ha).1 (by rw [h,hb0])]
  ·have pa:=S5 h0 a.e;have pb:=S5 h1 b.e;have oa:=ha.odd h0;have ob:=hb.odd h1;obtain ⟨n1,m1,e1⟩:=a;obtain ⟨n2,m2,e2⟩:=b;simp only [Dy.q,sq] at *;cases n1<;>cases n2<;>simp only [if_true,if_false,Bool.false_eq_true] at h
   ·obtain ⟨rfl,rfl⟩:=Acb oa ob h;rfl
   ·grind
   ·grind
   ·have h':(m1:Rat)*pw e1=(m2:Rat)*pw e2:=by grind
    obtain ⟨rfl,rfl⟩:=Acb oa ob h';rfl
def Cg (x y:Rat):Int:=if x<y then -1 else if x=y then 0 else 1
theorem Xf (x y:Rat):Cg (-x) (-y)=-Cg x y:=by
 unfold Cg;by_cases h:x<y
 ·rw [if_pos h,if_neg (by grind),if_neg (by grind)];rfl
 ·by_cases h1:x=y
  ·rw [if_neg h,if_pos h1,if_neg (by grind),if_pos (by rw [h1])];rfl
  ·rw [if_neg h,if_neg h1,if_pos (by grind)]
theorem Je {x y:Rat}:Cg x y≤0↔x≤y:=by
 unfold Cg;by_cases h:x<y
 ·rw [if_pos h];constructor<;>intro<;>first | grind | decide
 ·by_cases h1:x=y
  ·rw [if_neg h,if_pos h1];constructor<;>intro<;>first | grind | decide
  ·rw [if_neg h,if_neg h1];constructor<;>intro h2
   ·exact absurd h2 (by decide)
   ·grind
theorem Nf {x y:Rat}:0≤Cg x y↔y≤x:=by
 unfold Cg;by_cases h:x<y
 ·rw [if_pos h];constructor<;>intro h2
  ·exact absurd h2 (by decide)
  ·grind
 ·by_cases h1:x=y
  ·rw [if_neg h,if_pos h1];constructor<;>intro<;>first | grind | decide
  ·rw [if_neg h,if_neg h1];constructor<;>intro<;>first | grind | decide
theorem Lj {x y:Rat}:Cg x y<0↔x<y:=by
 have:=@Nf x y;constructor
 ·intro h;by_cases hxy:x<y
  ·exact hxy
  ·exfalso;have:(0:Int)≤Cg x y:=this.2 (by grind);omega
 ·intro h;by_cases hc:Cg x y<0
  ·exact hc
  ·exfalso;have:=this.1 (by omega);grind
theorem Abt {x y:Rat}:0<Cg x y↔y<x:=by
 have:=@Je x y;constructor
 ·intro h;by_cases hxy:y<x
  ·exact hxy
  ·exfalso;have:Cg x y≤0:=this.2 (by grind);omega
 ·intro h;by_cases hc:0<Cg x y
  ·exact hc
  ·exfalso;have:=this.1 (by omega);grind
theorem Uk (x:Rat):Cg x x=0:=by
 unfold Cg;rw [if_neg (by grind),if_pos rfl]
theorem Ae8 (m n:Nat)(h:l≤e)(k:l≤f):Cg ((m:Rat)*pw e) ((n:Rat)*pw f)=Du (m*2^(e-l).toNat) (n*2^(f-l).toNat):=by
 unfold Cg Du;simp only [Alq m n h k,Aav m n h k]
def Fits (p:Nat) (y:Rat):Prop:=∃ s k j,bl k≤p∧y=sq s k*pw j
theorem Fits.neg (h:Fits p y):Fits p (-y):=by
 obtain ⟨s,k,j,hk,rfl⟩:=h;exact ⟨!s,k,j,hk,by rw [Wv];grind⟩
theorem Fits.mono (h:Fits p y)(hp:p≤p'):Fits p' y:=by
 obtain ⟨s,k,j,hk,rfl⟩:=h;exact ⟨s,k,j,by omega,rfl⟩
theorem Fits.pw (h:Fits p y)(i:Int):Fits p (y*pw i):=by
 obtain ⟨s,k,j,hk,rfl⟩:=h;exact ⟨s,k,j+i,hk,by rw [Es,Rat.mul_assoc]⟩
theorem Fits.zero (p:Nat):Fits p 0:=⟨false,0,0,by simp [bl],by rw [Nt,Rat.zero_mul]⟩
structure IsDown (p:Nat) (x d:Rat):Prop where
 fits:Fits p d
 le:d≤x
 best:∀ y,Fits p y→y≤x→y≤d
structure IsUp (p:Nat) (x d:Rat):Prop where
 fits:Fits p d
 le:x≤d
 best:∀ y,Fits p y→x≤y→d≤y
def Jl (up:Bool) (p:Nat) (x d:Rat):Prop:=if up then IsUp p x d else IsDown p x d
theorem IsDown.neg (h:IsDown p x d):IsUp p (-x) (-d) :=
 ⟨h.fits.neg,by have:=h.le;grind,fun y hy hx=>by have:=h.best (-y) hy.neg (by grind);grind⟩
theorem IsUp.neg (h:IsUp p x d):IsDown p (-x) (-d) :=
 ⟨h.fits.neg,by have:=h.le;grind,fun y hy hx=>by have:=h.best (-y) hy.neg (by grind);grind⟩
theorem IsDown.mono (h:IsDown p x d)(h':IsDown p' x' d')(hp:p≤p')(hx:x≤x'):d≤d' :=
 h'.best d (h.fits.mono hp) (by have:=h.le;grind)
theorem IsUp.mono (h:IsUp p x d)(h':IsUp p' x' d')(hp:p≤p')(hx:x'≤x):d'≤d :=
 h'.best d (h.fits.mono hp) (by have:=h.le;grind)
theorem IsDown.of_fits (h:Fits p x):IsDown p x x:=⟨h,Rat.le_refl,fun _ _ h=>h⟩
theorem IsUp.of_fits (h:Fits p x):IsUp p x x:=⟨h,Rat.le_refl,fun _ _ h=>h⟩
theorem IsDown.pw (h:IsDown p x d)(i:Int):IsDown p (x*pw i) (d*pw i):=by
 refine ⟨h.fits.pw i,(G7 i).2 h.le,fun y hy hx=>?_⟩;have h2:=h.best (y*Go.Proofs.YtabjjdicffcolaaGreatDoor.pw (-i)) (hy.pw (-i)) (by rw [←G7 i,No];exact hx);rw [←G7 i,No] at h2;exact h2
theorem IsUp.pw (h:IsUp p x d)(i:Int):IsUp p (x*pw i) (d*pw i):=by
 have:=(h.neg.pw i).neg;simpa [Rat.neg_mul] using this
theorem N0 (hm:2^(p-1)≤m')(hp:1≤p)(hx:x<(m':Rat)+1)(hy:Fits p y)(hyx:y≤x):y≤m':=by
 obtain ⟨s,k,j,hk,rfl⟩:=hy;have hm0:(0:Rat)≤m':=Co.2 (Nat.zero_le m');cases s
 case true =>
  have:sq true k*pw j≤0:=by
   have h1:(0:Rat)≤k:=Co.2 (Nat.zero_le k);have h2:=Rat.mul_le_mul_of_nonneg_right h1 (Df j);simp only [sq,if_true];grind
  grind
 case false =>
  simp only [sq,Bool.false_eq_true,if_false] at *;rcases Int.le_total 0 j with hj | hj
  ·have e:(k:Rat)*pw j=((k*2^j.toNat:Nat):Rat):=by
    have h:=Il k hj;rw [Gt] at h;simpa using h
   rw [e] at hyx ⊢;have h3:((k*2^j.toNat:Nat):Rat)<((m'+1:Nat):Rat):=by
    rw [Rat.natCast_add];have:((1:Nat):Rat)=1:=rfl;grind
   have:=Cy.1 h3;exact Co.2 (by omega)
  ·by_cases hj0:j=0
   ·subst hj0;rw [Gt,Rat.mul_one] at hyx ⊢;have h3:(k:Rat)<((m'+1:Nat):Rat):=by
     rw [Rat.natCast_add];have:((1:Nat):Rat)=1:=rfl;grind
    have:=Cy.1 h3;exact Co.2 (by omega)
   ·have h1:(k:Rat)*pw j≤(k:Rat)*pw (-1):=by
     have h1:(0:Rat)≤k:=Co.2 (Nat.zero_le k);exact Rat.mul_le_mul_of_nonneg_left (F7 (by omega)) h1
    have h2:k≤2*m':=by
     have h4:=Ba k;have h5:2^bl k≤2^p:=Nat.pow_le_pow_right (by decide) hk;have h6:2^p=2*2^(p-1):=by
      rw [←Nat.pow_succ'];congr 1;omega
     omega
    have h3:(k:Rat)≤2*(m':Rat):=by
     have:=Co.2 h2;rw [Rat.natCast_mul] at this;exact this
    have h4:=Oq (-1);have h5:pw (-(-1:Int))=2:=Qk;rw [h5] at h4;have h6:=Hy (-1);have h7:=Rat.mul_le_mul_of_nonneg_right h3 (Df (-1));have h8:2*(m':Rat)*pw (-1)=m':=by
     rw [Rat.mul_comm 2,Rat.mul_assoc,Rat.mul_comm 2,h4,Rat.mul_one]
    rw [h8] at h7;exact Rat.le_trans h1 h7
theorem V5 (hm:2^(p-1)≤m')(hp:1≤p)(hx:(m':Rat)<x)(hy:Fits p y)(hyx:x≤y):(m':Rat)+1≤y:=by
 by_cases h:(m':Rat)+1≤y
 ·exact h
 ·exfalso;have:=N0 hm hp (x:=y) (by grind) hy Rat.le_refl;grind
theorem Alf (m n:Nat):((m/2^n:Nat):Rat)*((2^n:Nat):Rat)≤m∧(m:Rat)<(((m/2^n:Nat):Rat)+1)*((2^n:Nat):Rat):=by
 have h0:0<2^n:=Nat.two_pow_pos n;have h1:=Nat.div_add_mod m (2^n);have h2:=Nat.mod_lt m h0;constructor
 ·rw [←Rat.natCast_mul,Co];rw [Nat.mul_comm] at h1;omega
 ·have:(((m/2^n:Nat):Rat)+1)*((2^n:Nat):Rat)=(((m/2^n+1)*2^n:Nat):Rat):=by
   rw [Rat.natCast_mul,Rat.natCast_add];rfl
  rw [this,Cy,Nat.add_mul,Nat.one_mul];rw [Nat.mul_comm] at h1;omega
theorem Vg (m n:Nat)(h:m≠0):tz m<n↔m%2^n≠0:=by
 constructor
 ·intro hlt hz;have hd:2^n ∣ m:=Nat.dvd_of_mod_eq_zero hz;have h1:=Ty m h;have h2:=Tz m h;have h3:2^(tz m+1) ∣ m:=Nat.dvd_trans (Nat.pow_dvd_pow 2 hlt) hd;obtain ⟨c,hc⟩:=h3;have h4:m/2^tz m=2*c:=by
   apply Nat.div_eq_of_eq_mul_left (Nat.two_pow_pos _);have:2^(tz m+1)*c=2*c*2^tz m:=by rw [Nat.pow_succ,Nat.mul_assoc,Nat.mul_comm]
   omega
  omega
 ·intro hz;by_cases hc:tz m<n
  ·exact hc
  ·exfalso;apply hz;exact Nat.mod_eq_zero_of_dvd (Nat.dvd_trans (Nat.pow_dvd_pow 2 (by omega)) (Wz m h))
def Jf (m:Nat) (rest:Bool) (p:Nat):Bool × Nat × Nat :=
 let n:=bl m-p
 (rest||(decide (0<n)&&decide (tz m<n)),m/2^n,n)
theorem P6 (m n:Nat):bl (m/2^n)=bl m-n:=by
 by_cases h:m=0
 ·subst h;simp [bl]
 ·by_cases hn:n<bl m
  ·have h1:=Cz m h;have h2:=Ba m;have e:bl m-n=(bl m-n-1)+1:=by omega
   rw [e];refine Xa _ _ ?_ ?_
   ·rw [Nat.le_div_iff_mul_le (Nat.two_pow_pos n),←Nat.pow_add];have:bl m-n-1+n=bl m-1:=by omega
    rw [this];exact h1
   ·rw [Nat.div_lt_iff_lt_mul (Nat.two_pow_pos n),←Nat.pow_add];have:bl m-n-1+1+n=bl m:=by omega
    rw [this];exact h2
  ·have h2:=Ba m;have:m/2^n=0:=Nat.div_eq_of_lt (Nat.lt_of_lt_of_le h2 (Nat.pow_le_pow_right (by decide) (by omega)));rw [this,Gp];omega
def Mag (m:Nat) (rest:Bool) (M:Rat):Prop:=if rest then (m:Rat)<M∧M<(m:Rat)+1 else M=m
theorem Xj (h:Mag m rest M)(h0:rest=true→p<bl m)(h1p:1≤p) :
 Mag (Jf m rest p).2.1 (Jf m rest p).1 (M*pw (-((bl m-p:Nat):Int)))∧((Jf m rest p).1=true→2^(p-1)≤(Jf m rest p).2.1)∧bl (Jf m rest p).2.1≤p:=by
 obtain ⟨n,hn⟩:∃ n,bl m-p=n:=⟨_,rfl⟩;simp only [Jf,hn];have hbl:bl (m/2^n)≤p:=by rw [P6];omega
 have hbig:0<n→2^(p-1)≤m/2^n:=by
  intro hp;have hm:m≠0:=by rintro rfl;simp [bl] at hn;omega
  have h1:=Cz m hm;rw [Nat.le_div_iff_mul_le (Nat.two_pow_pos n),←Nat.pow_add];refine Nat.le_trans (Nat.pow_le_pow_right (by decide) ?_) h1;omega
 by_cases hp:0<n
 ·have hm:m≠0:=by rintro rfl;simp [bl] at hn;omega
  have hd:decide (0<n)=true:=by simp [hp]
  rw [hd,Bool.true_and];obtain ⟨d1,d2⟩:=Alf m n;have e1:=Oq (n:Int);rw [I7] at e1;have e2:=Hy (-(n:Int));have e3:0<((2^n:Nat):Rat):=by rw [←I7];exact Hy _
  refine ⟨?_,fun _=>hbig hp,hbl⟩;by_cases hr:(rest||decide (tz m<n))=true
  ·rw [hr];simp only [Mag,if_true];have hstrict:((m/2^n:Nat):Rat)*((2^n:Nat):Rat)<M∧M<(((m/2^n:Nat):Rat)+1)*((2^n:Nat):Rat):=by
    cases rest
    ·simp only [Mag,Bool.false_eq_true,if_false] at h;simp only [Bool.false_or,decide_eq_true_eq] at hr;have hz:=(Vg m n hm).1 hr;subst h;refine ⟨?_,d2⟩;rw [←Rat.natCast_mul,Cy];have h1:=Nat.div_add_mod m (2^n);rw [Nat.mul_comm] at h1;omega
    ·simp only [Mag,if_true] at h;refine ⟨by grind,?_⟩;have:(((m/2^n:Nat):Rat)+1)*((2^n:Nat):Rat)=(((m/2^n+1)*2^n:Nat):Rat):=by
      rw [Rat.natCast_mul,Rat.natCast_add];rfl
     rw [this] at d2 ⊢;have d3:=Cy.1 d2;have d4:((m+1:Nat):Rat)≤(((m/2^n+1)*2^n:Nat):Rat):=Co.2 d3;rw [Rat.natCast_add] at d4;have:((1:Nat):Rat)=1:=rfl;grind
   generalize ((m/2^n:Nat):Rat)=A at *;generalize ((2^n:Nat):Rat)=B at *;generalize pw (-(n:Int))=C at *;obtain ⟨s1,s2⟩:=hstrict;have t1:=(Rat.mul_lt_mul_right e2).2 s1;have t2:=(Rat.mul_lt_mul_right e2).2 s2;rw [Rat.mul_assoc,e1,Rat.mul_one] at t1 t2;exact ⟨t1,t2⟩
  ·have hr':(rest||decide (tz m<n))=false:=by simpa using hr
   rw [hr'];simp only [Bool.or_eq_false_iff,decide_eq_false_iff_not] at hr';obtain ⟨r1,r2⟩:=hr';subst r1;simp only [Mag,Bool.false_eq_true,if_false] at h ⊢;have hz:m%2^n=0:=by
    by_cases hz:m%2^n=0
    ·exact hz
    ·exact absurd ((Vg m n hm).2 hz) r2
   have h1:=Nat.div_add_mod m (2^n);rw [hz,Nat.add_zero,Nat.mul_comm] at h1;have h2:((m/2^n:Nat):Rat)*((2^n:Nat):Rat)=m:=by rw [←Rat.natCast_mul,h1]
   subst h;rw [←h2,Rat.mul_assoc,e1,Rat.mul_one]
 ·have hn0:n=0:=by omega
  subst hn0;have hr:rest=false:=by
   cases rest
   ·rfl
   ·have:=h0 rfl;omega
  subst hr;have e:pw (-((0:Nat):Int))=1:=Gt;refine ⟨?_,fun h=>?_,hbl⟩
  ·rw [e,Rat.mul_one];simpa [Mag] using h
  ·simp at h
def E7 (m:Nat) (rest:Bool) (p:Nat) (away:Bool):Nat:=if (Jf m rest p).1&&away then (Jf m rest p).2.1+1 else (Jf m rest p).2.1
theorem Kq (h:bl m≤p):Fits p (m:Rat):=⟨false,m,0,h,by simp [sq,Gt]⟩
theorem Adf (h:bl m≤p)(hp:1≤p):Fits p ((m:Rat)+1):=by
 have e:(m:Rat)+1=((m+1:Nat):Rat):=by rw [Rat.natCast_add];rfl
 rw [e];by_cases hb:bl (m+1)≤p
 ·exact Kq hb
 ·have h1:=Ba m;have h2:2^bl m≤2^p:=Nat.pow_le_pow_right (by decide) h;have h3:m+1=2^p:=by
   by_cases h4:m+1<2^p
   ·exact absurd (Fl _ _ h4) hb
   ·omega
  rw [h3];refine ⟨false,1,p,?_,?_⟩
  ·have:bl 1=1:=by decide
   omega
  ·rw [I7];simp only [sq,Bool.false_eq_true,if_false];exact (Rat.one_mul _).symm
theorem Ng (h:Mag m rest M)(h0:rest=true→p<bl m)(hp:1≤p) :
 IsDown p M ((E7 m rest p false:Rat)*pw ((bl m-p:Nat):Int)):=by
 obtain ⟨hm,hb,hl⟩:=Xj h h0 hp;have e1:=Oq (((bl m-p:Nat):Int));have key:IsDown p (M*pw (-((bl m-p:Nat):Int))) (E7 m rest p false:Rat):=by
  unfold E7;rw [Bool.and_false];simp only [Bool.false_eq_true,if_false];generalize (Jf m rest p).2.1=m' at *;generalize (Jf m rest p).1=r' at *;generalize M*pw (-((bl m-p:Nat):Int))=x at *;cases r'
  ·simp only [Mag,Bool.false_eq_true,if_false] at hm;subst hm;exact .of_fits (Kq hl)
  ·simp only [Mag,if_true] at hm;exact ⟨Kq hl,by grind,fun y hy hx=>N0 (hb rfl) hp hm.2 hy hx⟩
 have:=key.pw ((bl m-p:Nat):Int);rw [Rat.mul_assoc,Rat.mul_comm (pw _),e1,Rat.mul_one] at this;exact this
theorem Ri (h:Mag m rest M)(h0:rest=true→p<bl m)(hp:1≤p) :
 IsUp p M ((E7 m rest p true:Rat)*pw ((bl m-p:Nat):Int)):=by
 obtain ⟨hm,hb,hl⟩:=Xj h h0 hp;have e1:=Oq (((bl m-p:Nat):Int));have key:IsUp p (M*pw (-((bl m-p:Nat):Int))) (E7 m rest p true:Rat):=by
  unfold E7;rw [Bool.and_true];generalize (Jf m rest p).2.1=m' at *;generalize (Jf m rest p).1=r' at *;generalize M*pw (-((bl m-p:Nat):Int))=x at *;cases r'
  ·simp only [Mag,Bool.false_eq_true,if_false] at hm ⊢;subst hm;exact .of_fits (Kq hl)
  ·simp only [Mag,if_true] at hm ⊢;have e:((m'+1:Nat):Rat)=(m':Rat)+1:=by rw [Rat.natCast_add];rfl
   rw [e];exact ⟨Adf hl hp,by grind,fun y hy hx=>V5 (hb rfl) hp hm.1 hy hx⟩
 have:=key.pw ((bl m-p:Nat):Int);rw [Rat.mul_assoc,Rat.mul_comm (pw _),e1,Rat.mul_one] at this;exact this
def J5 (neg:Bool) (m:Nat) (e:Int) (rest:Bool) (p:Nat) (up:Bool):Outc Dy :=
 Bu neg (E7 m rest p (up != neg)) (e+((bl m-p:Nat):Int))
theorem Lq {neg:Bool}(h:(Bu neg n e).k=0):(Bu neg n e).v.q=sq neg n*pw e:=by
 unfold Bu at *;by_cases h0:n=0
 ·rw [if_pos h0];subst h0;rw [Nt,Rat.zero_mul];exact Xr
 ·rw [if_neg h0] at h ⊢;by_cases h1:64<(limbs (n/2^tz n)).length
  ·rw [if_pos h1] at h;exact absurd h (by decide)
  ·rw [if_neg h1] at h ⊢;by_cases h2:1048576<e∨e < -1048576-tz n
   ·rw [if_pos h2] at h;exact absurd h (by decide)
   ·rw [if_neg h2] at h ⊢;by_cases h3:1048576<e+tz n
    ·rw [if_pos h3] at h;exact absurd h (by decide)
    ·rw [if_neg h3];simp only [good,Dy.q];rw [Int.add_comm,Es,I7,←Rat.mul_assoc]
     congr 1
     have:=Ty n h0;unfold sq;cases neg
     ·simp only [Bool.false_eq_true,if_false];rw [←Rat.natCast_mul,this]
     ·simp only [if_true];rw [Rat.neg_mul,←Rat.natCast_mul,this]
theorem Xi {neg:Bool}(h:Mag m rest M)(h0:rest=true→p<bl m)(hp:1≤p)
 (hk:(J5 neg m e rest p up).k=0):Jl up p ((if neg then -M else M)*pw e) (J5 neg m e rest p up).v.q:=by
 unfold J5 at *;rw [Lq hk,Int.add_comm,Es,←Rat.mul_assoc];unfold Jl;cases neg<;>cases up
 ·exact ((Ng h h0 hp).pw e)
 ·exact ((Ri h h0 hp).pw e)
 ·have e1:(false != true)=true:=rfl;have:=((Ri h h0 hp).neg).pw e;simpa only [e1,Bool.false_eq_true,if_false,if_true,sq,Rat.neg_mul] using this
 ·have e1:(true != true)=false:=rfl;have:=((Ng h h0 hp).neg).pw e;simpa only [e1,Bool.false_eq_true,if_false,if_true,sq,Rat.neg_mul] using this
end Go.Proofs.YtabjjdicffcolaaGreatDoor
namespace Go.Proofs.YtabjjdicffcolaaGreatDoor
variable {up:Bool} {a b d x y:Dy} {p:Nat}
def Cu (d:Dy):Dy:=if d.m=0 then d else ⟨!d.neg,d.m,d.e⟩
theorem Qh (d:Dy):(Cu d).q=-d.q:=by
 unfold Cu Dy.q;by_cases h:d.m=0
 ·rw [if_pos h,h,Nt,Rat.zero_mul];rfl
 ·rw [if_neg h];simp only [Wv,Rat.neg_mul]
theorem Iq (h:d.Ok):(Cu d).Ok:=by
 unfold Cu;by_cases h0:d.m=0
 ·rw [if_pos h0];exact h
 ·rw [if_neg h0];exact ⟨h.len,fun hz=>absurd hz h0,h.odd,h.lo,h.hi⟩
def J7 (a b:Dy):Outc Dy :=
 if ¬a.e=b.e∧4097-(bl a.m:Int)<a.e-b.e then bad 2
 else if a.neg=b.neg then Bu a.neg (a.m*2^(a.e-b.e).toNat+b.m) b.e
 else if b.m≤a.m*2^(a.e-b.e).toNat then Bu a.neg (a.m*2^(a.e-b.e).toNat-b.m) b.e
 else Bu b.neg (b.m-a.m*2^(a.e-b.e).toNat) b.e
def Dq (x y:Dy):Outc Dy :=
 if x.m=0 then good y else if y.m=0 then good x else if x.e<y.e then J7 y x else J7 x y
theorem Ahi (h:b.e≤a.e)(hk:(J7 a b).k=0):(J7 a b).v.q=a.q+b.q:=by
 have e1:sq a.neg (a.m*2^(a.e-b.e).toNat)*pw b.e=a.q:=by
  unfold Dy.q;have:=Il a.m h;unfold sq;cases a.neg
  ·simp only [Bool.false_eq_true,if_false];exact this.symm
  ·simp only [if_true,Rat.neg_mul];rw [this]
 unfold J7 at *;by_cases h1:¬a.e=b.e∧4097-(bl a.m:Int)<a.e-b.e
 ·rw [if_pos h1] at hk;exact absurd hk (by decide)
 ·rw [if_neg h1] at hk ⊢;generalize a.m*2^(a.e-b.e).toNat=X at *;by_cases h2:a.neg=b.neg
  ·rw [if_pos h2] at hk ⊢;rw [Lq hk,←e1];unfold Dy.q;rw [h2];unfold sq;cases b.neg
   ·simp only [Bool.false_eq_true,if_false,Rat.natCast_add,Rat.add_mul]
   ·simp only [if_true,Rat.natCast_add,Rat.neg_mul,Rat.add_mul];grind
  ·rw [if_neg h2] at hk ⊢;have e2:b.neg=!a.neg:=by cases ha:a.neg<;>cases hb:b.neg<;>simp_all
   by_cases h3:b.m≤X
   ·rw [if_pos h3] at hk ⊢;rw [Lq hk,←e1];unfold Dy.q;rw [e2,Wv];obtain ⟨c,rfl⟩:∃ c,X=b.m+c:=⟨X-b.m,by omega⟩;rw [Nat.add_sub_cancel_left];unfold sq;cases a.neg
    ·simp only [Bool.false_eq_true,if_false,Rat.natCast_add,Rat.add_mul,Rat.neg_mul];grind
    ·simp only [if_true,Rat.natCast_add,Rat.neg_mul,Rat.add_mul];grind
   ·rw [if_neg h3] at hk ⊢;rw [Lq hk,←e1];unfold Dy.q;rw [e2,Wv];obtain ⟨c,hc⟩:∃ c,b.m=X+c:=⟨b.m-X,by omega⟩;rw [hc,Nat.add_sub_cancel_left];unfold sq;cases a.neg
    ·simp only [Bool.false_eq_true,if_false,Rat.natCast_add,Rat.neg_mul];grind
    ·simp only [if_true,Rat.natCast_add,Rat.neg_mul];grind
theorem Oy (h:d.m=0):d.q=0:=by unfold Dy.q;rw [h,Nt,Rat.zero_mul]
theorem Qs (hk:(Dq x y).k=0):(Dq x y).v.q=x.q+y.q:=by
 unfold Dq at *;by_cases h0:x.m=0
 ·rw [if_pos h0,Oy h0,Rat.zero_add];rfl
 ·rw [if_neg h0] at hk ⊢;by_cases h1:y.m=0
  ·rw [if_pos h1,Oy h1,Rat.add_zero];rfl
  ·rw [if_neg h1] at hk ⊢;by_cases h2:x.e<y.e
   ·rw [if_pos h2] at hk ⊢;rw [Ahi (by omega) hk,Rat.add_comm]
   ·rw [if_neg h2] at hk ⊢;exact Ahi (by omega) hk
def Outc.Ok (o:Outc Dy):Prop:=o.v.Ok∧(o.k≠0→o.v=dz)
theorem Pg (h:d.Ok):(good d).Ok:=⟨h,fun h=>absurd rfl h⟩
theorem Mj (k:Int):(bad k).Ok:=⟨Md,fun _=>rfl⟩
theorem Wx (a b:Dy):(J7 a b).Ok:=by
 unfold J7;split
 ·exact Mj _
 ·split
  ·exact Ih _ _ _
  ·split<;>exact Ih _ _ _
theorem Jh (hx:x.Ok)(hy:y.Ok):(Dq x y).Ok:=by
 unfold Dq;split
 ·exact Pg hy
 ·split
  ·exact Pg hx
  ·split<;>exact Wx _ _
def Bt (x y:Dy):Outc Dy:=Bu (x.neg != y.neg) (x.m*y.m) (x.e+y.e)
theorem Kj (hk:(Bt x y).k=0):(Bt x y).v.q=x.q*y.q:=by
 unfold Bt at *;rw [Lq hk,Amc,Es];unfold Dy.q;grind
theorem Ip (x y:Dy):(Bt x y).Ok:=Ih _ _ _
def Gx (d:Dy) (n:Int):Outc Dy :=
 if d.m=0 then good d else if 2097152<n∨n < -2097152 then bad 3 else Bu d.neg d.m (d.e+n)
theorem Ag5 {n:Int}(hk:(Gx d n).k=0):(Gx d n).v.q=d.q*pw n:=by
 unfold Gx at *;by_cases h:d.m=0
 ·rw [if_pos h];simp only [good];rw [Oy h,Rat.zero_mul]
 ·rw [if_neg h] at hk ⊢;by_cases h1:2097152<n∨n < -2097152
  ·rw [if_pos h1] at hk;exact absurd hk (by decide)
  ·rw [if_neg h1] at hk ⊢;rw [Lq hk,Es,←Rat.mul_assoc];rfl
theorem Vb (h:d.Ok)(n:Int):(Gx d n).Ok:=by
 unfold Gx;split
 ·exact Pg h
 ·split
  ·exact Mj _
  ·exact Ih _ _ _
def Dh (d:Dy) (p:Nat) (up:Bool):Outc Dy:=J5 d.neg d.m d.e false p up
theorem Hf (d:Dy)(p:Nat)(up:Bool):(Dh d p up).Ok:=Ih _ _ _
theorem Sc (hp:1≤p)(hk:(Dh d p up).k=0):Jl up p d.q (Dh d p up).v.q:=by
 have h:=Xi (neg:=d.neg) (m:=d.m) (e:=d.e) (rest:=false) (p:=p) (up:=up) (M:=d.m) (by simp [Mag]) (by simp) hp hk;have e:(if d.neg then -(d.m:Rat) else d.m)*pw d.e=d.q:=rfl;rw [e] at h;exact h
def Bv (a b:Dy) (p:Nat):Nat:=p+1+bl b.m-bl a.m
def Bg (a b:Dy) (p:Nat) (up:Bool):Outc Dy :=
 J5 (a.neg != b.neg) (a.m*2^Bv a b p/b.m) (a.e-b.e-Bv a b p) (decide (¬a.m*2^Bv a b p%b.m=0)) p up
theorem Yf (n m:Nat)(h:m≠0):Mag (n/m) (decide (¬n%m=0)) ((n:Rat)/m):=by
 have hm:0<(m:Rat):=Wj h;have h1:=Nat.div_add_mod n m;have h2:=Nat.mod_lt n (Nat.pos_of_ne_zero h);rw [Nat.mul_comm] at h1;by_cases hr:n%m=0
 ·have:decide (¬n%m=0)=false:=by simp [hr]
  rw [this];simp only [Mag,Bool.false_eq_true,if_false];rw [hr,Nat.add_zero] at h1;have h3:(n:Rat)=((n/m:Nat):Rat)*m:=by rw [←Rat.natCast_mul,h1]
  rw [h3];generalize ((n/m:Nat):Rat)=A;rw [Rat.mul_div_cancel (by grind)]
 ·have:decide (¬n%m=0)=true:=by simp [hr]
  rw [this];simp only [Mag,if_true];rw [Rat.lt_div_iff hm,Rat.div_lt_iff hm,←Rat.natCast_mul];have e:((n/m:Nat):Rat)+1=((n/m+1:Nat):Rat):=by rw [Rat.natCast_add];rfl
  rw [e,←Rat.natCast_mul,Cy,Cy,Nat.add_mul,Nat.one_mul];omega
theorem Ro (a b p:Nat)(ha:a≠0)(hb:b≠0)(k:Nat)(hk:p+1+bl b≤bl a+k):p<bl (a*2^k/b):=by
 apply Af2;rw [Nat.le_div_iff_mul_le (Nat.pos_of_ne_zero hb)];have h1:=Cz a ha;have h2:=Ba b;have h3:2^p*b≤2^p*2^bl b:=Nat.mul_le_mul_left _ (by omega);have h4:2^(bl a-1)*2^k≤a*2^k:=Nat.mul_le_mul_right _ h1;rw [←Nat.pow_add] at h3 h4;refine Nat.le_trans h3 (Nat.le_trans (Nat.pow_le_pow_right (by decide) ?_) h4);have:=Cr a ha;omega
theorem Ama (s t:Bool)(x:Rat)(m n:Nat)(hx:(m:Rat)=x*n):(if (s != t) then -x else x)*sq t n=sq s m:=by
 cases s<;>cases t<;>simp [sq,hx]<;>grind
theorem Nq (hp:1≤p)(hb:b.m≠0)(hk:(Bg a b p up).k=0):Jl up p (a.q/b.q) (Bg a b p up).v.q:=by
 unfold Bg at *;have hm:=Yf (a.m*2^Bv a b p) b.m hb;have h:=Xi hm ?_ hp hk
 ·have e:(if (a.neg != b.neg) then -(((a.m*2^Bv a b p:Nat):Rat)/b.m) else ((a.m*2^Bv a b p:Nat):Rat)/b.m)*pw (a.e-b.e-Bv a b p)=a.q/b.q:=by
   have hbq:b.q≠0:=by
    have:=S5 hb b.e;unfold Dy.q sq;cases b.neg<;>simp<;>grind
   have hb0:=Wj hb;rw [Rat.div_def a.q];have key:(if (a.neg != b.neg) then -(((a.m*2^Bv a b p:Nat):Rat)/b.m) else ((a.m*2^Bv a b p:Nat):Rat)/b.m)*pw (a.e-b.e-Bv a b p)*b.q=a.q:=by
    unfold Dy.q;have h1:=Ama a.neg b.neg (((a.m*2^Bv a b p:Nat):Rat)/b.m) (a.m*2^Bv a b p) b.m (by rw [Rat.div_mul_cancel (by grind)]);have h2:pw (a.e-b.e-Bv a b p)*pw b.e*pw (Bv a b p)=pw a.e:=by
     rw [←Es,←Es];congr 1;omega
    have h3:sq a.neg (a.m*2^Bv a b p)=sq a.neg a.m*pw (Bv a b p):=by
     rw [I7];unfold sq;cases a.neg<;>simp [Rat.natCast_mul,Rat.neg_mul]
    rw [h3] at h1;generalize (if (a.neg != b.neg) then -(((a.m*2^Bv a b p:Nat):Rat)/b.m) else ((a.m*2^Bv a b p:Nat):Rat)/b.m)=A at *;generalize sq a.neg a.m=B at *;generalize sq b.neg b.m=C at *;have h4:=Hy (Bv a b p);have h5:=Anj (Bv a b p);generalize pw (a.e-b.e-Bv a b p)=D at *;generalize pw (Bv a b p)=E at *;generalize pw b.e=F at *;generalize pw a.e=G at *;have h6:A*D*(C*F)=B*(D*F*E):=by
     have:A*D*(C*F)=(A*C)*(D*F):=by grind
     rw [this,h1];grind
    rw [h6,h2]
   rw [←key,Rat.mul_assoc,Rat.mul_inv_cancel _ hbq,Rat.mul_one]
  rw [e] at h;exact h
 ·intro hr;have ha:a.m≠0:=by
   intro ha;rw [ha,Nat.zero_mul,Nat.zero_mod] at hr;simp at hr
  exact Ro a.m b.m p ha hb (Bv a b p) (by unfold Bv;omega)
theorem Et (a b:Dy)(p:Nat)(up:Bool):(Bg a b p up).Ok:=Ih _ _ _
end Go.Proofs.YtabjjdicffcolaaGreatDoor
namespace Go.Proofs.YtabjjdicffcolaaGreatDoor
variable {m p x:Nat} {a b:Rat}
def Kl (d:Dy) (p:Nat):Nat:=2*p+2-bl d.m
def Mz (d:Dy) (p:Nat):Nat:=if (d.e-Kl d p)%2=0 then Kl d p else Kl d p+1
def Iy (d:Dy) (p:Nat) (up:Bool):Outc Dy :=
 J5 false (isq (d.m*2^Mz d p)) ((d.e-Mz d p)/2) (decide (¬isq (d.m*2^Mz d p)*isq (d.m*2^Mz d p)=d.m*2^Mz d p)) p up
theorem Td (d:Dy)(p:Nat)(up:Bool):(Iy d p up).Ok:=Ih _ _ _
theorem Tf (d:Dy)(p:Nat):(d.e-Mz d p)%2=0:=by
 unfold Mz;by_cases h:(d.e-Kl d p)%2=0
 ·rw [if_pos h];exact h
 ·rw [if_neg h];omega
theorem Agz (d:Dy)(p:Nat):Kl d p≤Mz d p:=by
 unfold Mz;split<;>omega
structure IsRootDown (p:Nat) (x d:Rat):Prop where
 fits:Fits p d
 nonneg:0≤d
 le:d*d≤x
 best:∀ y,Fits p y→0≤y→y*y≤x→y≤d
structure IsRootUp (p:Nat) (x d:Rat):Prop where
 fits:Fits p d
 nonneg:0≤d
 le:x≤d*d
 best:∀ y,Fits p y→0≤y→x≤y*y→d≤y
def Uf (up:Bool) (p:Nat) (x d:Rat):Prop:=if up then IsRootUp p x d else IsRootDown p x d
theorem N5 (ha:0≤a)(h:a≤b):a*a≤b*b:=by
 have h1:=Rat.mul_le_mul_of_nonneg_left h ha;have h2:=Rat.mul_le_mul_of_nonneg_right h (by grind:0≤b);grind
theorem Aks (hb:0≤b)(h:a*a<b*b):a<b:=by
 by_cases hc:a<b
 ·exact hc
 ·have:=N5 hb (by grind:b≤a);grind
theorem Af3 (ha:0≤a)(h:a<b):a*a<b*b:=by
 have h1:=N5 ha (by grind:a≤b);by_cases hc:a*a<b*b
 ·exact hc
 ·exfalso;have h2:a*a=b*b:=by grind
  have h3:=(Rat.mul_lt_mul_right (by grind:0<b)).2 h;have h4:=Rat.mul_le_mul_of_nonneg_left (by grind:a≤b) ha;grind
theorem Ah8 (x y:Rat):∃ M,x<M∧M<x+1∧(y<x+1→y≤M):=by
 by_cases h:x<y∧y<x+1
 ·exact ⟨y,h.1,h.2,fun _=>Rat.le_refl⟩
 ·refine ⟨x+1/2,by grind,by grind,fun hy=>?_⟩;have:¬x<y:=fun hx=>h ⟨hx,hy⟩
  grind
theorem Aez (x y:Rat):∃ M,x<M∧M<x+1∧(x<y→M≤y):=by
 by_cases h:x<y∧y<x+1
 ·exact ⟨y,h.1,h.2,fun _=>Rat.le_refl⟩
 ·refine ⟨x+1/2,by grind,by grind,fun hx=>?_⟩;have:¬y<x+1:=fun hy=>h ⟨hx,hy⟩
  grind
theorem Gs (n:Nat):(0:Rat)≤n:=Co.2 (Nat.zero_le n)
theorem Uc (h1:x*x≤m)(h2:m<(x+1)*(x+1))(h0:¬x*x=m→p<bl x)(hp:1≤p) :
 IsRootDown p m ((E7 x (decide (¬x*x=m)) p false:Rat)*pw ((bl x-p:Nat):Int)):=by
 have q1:((x:Rat))*x≤m:=by rw [←Rat.natCast_mul];exact Co.2 h1
 have q2:(m:Rat)<(x+1)*(x+1):=by
  have:=Cy.2 h2;rw [Rat.natCast_mul,Rat.natCast_add] at this;exact this
 have hx0:=Gs x;have hnn:(0:Rat)≤(E7 x (decide (¬x*x=m)) p false:Rat)*pw ((bl x-p:Nat):Int):=Rat.mul_nonneg (Gs _) (Df _);by_cases he:x*x=m
 ·have hd:decide (¬x*x=m)=false:=by simp [he]
  rw [hd] at hnn ⊢;have k:=Ng (m:=x) (rest:=false) (p:=p) (M:=x) (by simp [Mag]) (by simp) hp;have q3:(m:Rat)=x*x:=by rw [←Rat.natCast_mul,he]
  rw [q3];exact ⟨k.fits,hnn,N5 hnn k.le,fun y hy hy0 hyx=>k.best y hy (by
   by_cases hc:y≤x
   ·exact hc
   ·have:=Af3 hx0 (by grind:(x:Rat)<y);grind)⟩
 ·have hd:decide (¬x*x=m)=true:=by simp [he]
  rw [hd] at hnn ⊢;have k:=fun M (a:(x:Rat)<M) (b:M<x+1)=>Ng (m:=x) (rest:=true) (p:=p) (M:=M) (by simp only [Mag,if_true];exact ⟨a,b⟩) (fun _=>h0 he) hp
  generalize (E7 x true p false:Rat)*pw ((bl x-p:Nat):Int)=d at *;have k1:=k (x+1/2) (by grind) (by grind);have hdx:d≤x:=by
   by_cases hc:d≤x
   ·exact hc
   ·exfalso;have k2:=k (if d<x+1/2 then (x+d)/2 else x+1/4) (by split<;>grind) (by split<;>grind);have:=k2.le;split at this<;>grind
  refine ⟨k1.fits,hnn,Rat.le_trans (N5 hnn hdx) q1,fun y hy hy0 hyx=>?_⟩;obtain ⟨M,a,b,c⟩:=Ah8 x y;exact (k M a b).best y hy (c (Aks (by grind) (by grind)))
theorem Y8 (h1:x*x≤m)(h2:m<(x+1)*(x+1))(h0:¬x*x=m→p<bl x)(hp:1≤p) :
 IsRootUp p m ((E7 x (decide (¬x*x=m)) p true:Rat)*pw ((bl x-p:Nat):Int)):=by
 have q1:((x:Rat))*x≤m:=by rw [←Rat.natCast_mul];exact Co.2 h1
 have q2:(m:Rat)<(x+1)*(x+1):=by
  have:=Cy.2 h2;rw [Rat.natCast_mul,Rat.natCast_add] at this;exact this
 have hx0:=Gs x;have hnn:(0:Rat)≤(E7 x (decide (¬x*x=m)) p true:Rat)*pw ((bl x-p:Nat):Int):=Rat.mul_nonneg (Gs _) (Df _);by_cases he:x*x=m
 ·have hd:decide (¬x*x=m)=false:=by simp [he]
  rw [hd] at hnn ⊢;have k:=Ri (m:=x) (rest:=false) (p:=p) (M:=x) (by simp [Mag]) (by simp) hp;have q3:(m:Rat)=x*x:=by rw [←Rat.natCast_mul,he]
  rw [q3];exact ⟨k.fits,hnn,N5 hx0 k.le,fun y hy hy0 hyx=>k.best y hy (by
   by_cases hc:(x:Rat)≤y
   ·exact hc
   ·have:=Af3 hy0 (by grind:y<(x:Rat));grind)⟩
 ·have hd:decide (¬x*x=m)=true:=by simp [he]
  rw [hd] at hnn ⊢;have k:=fun M (a:(x:Rat)<M) (b:M<x+1)=>Ri (m:=x) (rest:=true) (p:=p) (M:=M) (by simp only [Mag,if_true];exact ⟨a,b⟩) (fun _=>h0 he) hp
  have q4:(x:Rat)*x<m:=by rw [←Rat.natCast_mul];exact Cy.2 (by omega)
  generalize (E7 x true p true:Rat)*pw ((bl x-p:Nat):Int)=d at *;have k1:=k (x+1/2) (by grind) (by grind);have hdx:(x:Rat)+1≤d:=by
   by_cases hc:(x:Rat)+1≤d
   ·exact hc
   ·exfalso;have k2:=k (if x+1/2<d then (x+1+d)/2 else x+3/4) (by split<;>grind) (by split<;>grind);have:=k2.le;split at this<;>grind
  refine ⟨k1.fits,hnn,?_,fun y hy hy0 hyx=>?_⟩
  ·have:=N5 (by grind:(0:Rat)≤x+1) hdx;grind
  ·obtain ⟨M,a,b,c⟩:=Aez x y;exact (k M a b).best y hy (c (Aks hy0 (by grind)))
theorem Ajr (a p:Nat)(ha:a≠0)(k:Nat)(hk:2*p+2≤bl a+k):p<bl (isq (a*2^k)):=by
 apply Af2;have h1:=Cz a ha;have h4:2^(bl a-1)*2^k≤a*2^k:=Nat.mul_le_mul_right _ h1;rw [←Nat.pow_add] at h4;have h5:2^(2*p)≤a*2^k:=Nat.le_trans (Nat.pow_le_pow_right (by decide) (by have:=Cr a ha;omega)) h4;have h6:2^(2*p)=2^p*2^p:=by rw [←Nat.pow_add];congr 1;omega
 have h7:=(Mp (a*2^k)).2;have h8:=Ag9 (a:=2^p) (b:=isq (a*2^k)+1) (by omega);omega
theorem U6 {d:Dy}{up:Bool}(hp:1≤p)(hn:d.neg=false)(hk:(Iy d p up).k=0):Uf up p d.q (Iy d p up).v.q:=by
 unfold Iy J5 at *;rw [Lq hk];have hev:=Tf d p;have hle:=Agz d p;have hk0:2*p+2≤bl d.m+Kl d p:=by unfold Kl;omega
 clear hk;generalize Mz d p=k at *;obtain ⟨s1,s2⟩:=Mp (d.m*2^k);have h0:¬isq (d.m*2^k)*isq (d.m*2^k)=d.m*2^k→p<bl (isq (d.m*2^k)):=by
  intro hne;have ha:d.m≠0:=by
   intro ha;rw [ha,Nat.zero_mul] at hne;exact hne rfl
  exact Ajr d.m p ha k (by omega)
 generalize isq (d.m*2^k)=x at *;have hq:d.q=((d.m*2^k:Nat):Rat)*(pw ((d.e-k)/2)*pw ((d.e-k)/2)):=by
  unfold Dy.q;rw [hn,←Es];have:(d.e-k)/2+(d.e-k)/2=d.e-k:=by omega
  rw [this,Rat.natCast_mul,←I7,Rat.mul_assoc,←Es];simp only [sq,Bool.false_eq_true,if_false]
  congr 2;omega
 have hup:(up != false)=up:=by cases up<;>rfl
 rw [hq,hup];generalize (d.e-k)/2=h at *;have hh:=Hy h;have hh2:=Rat.mul_pos hh hh;have hc:=Oq h;have e0:sq false (E7 x (decide (¬x*x=d.m*2^k)) p up)*pw (h+((bl x-p:Nat):Int))=((E7 x (decide (¬x*x=d.m*2^k)) p up:Rat)*pw ((bl x-p:Nat):Int))*pw h:=by
  simp only [sq,Bool.false_eq_true,if_false];rw [Es,Rat.mul_comm (pw h),Rat.mul_assoc]
 rw [e0];have ypos:∀ y:Rat,0≤y→0≤y*pw (-h):=fun y hy=>Rat.mul_nonneg hy (Df _)
 have yy:∀ y:Rat,(y*pw (-h))*(y*pw (-h))*(pw h*pw h)=y*y:=by
  intro y;have:(y*pw (-h))*(y*pw (-h))*(pw h*pw h)=(y*y)*((pw h*pw (-h))*(pw h*pw (-h))):=by grind
  rw [this,hc];grind
 unfold Uf;cases up
 ·simp only [Bool.false_eq_true,if_false];have k1:=Uc s1 s2 h0 hp;generalize (E7 x (decide (¬x*x=d.m*2^k)) p false:Rat)*pw ((bl x-p:Nat):Int)=r at *;refine ⟨k1.fits.pw h,Rat.mul_nonneg k1.nonneg (Df h),?_,fun y hy hy0 hyx=>?_⟩
  ·have:=Rat.mul_le_mul_of_nonneg_right k1.le (Rat.le_of_lt hh2);grind
  ·have:=k1.best (y*pw (-h)) (hy.pw (-h)) (ypos y hy0) (by
    apply Rat.le_of_mul_le_mul_right _ hh2;rw [yy];exact hyx)
   rw [←G7 h,No] at this;exact this
 ·simp only [if_true];have k1:=Y8 s1 s2 h0 hp;generalize (E7 x (decide (¬x*x=d.m*2^k)) p true:Rat)*pw ((bl x-p:Nat):Int)=r at *;refine ⟨k1.fits.pw h,Rat.mul_nonneg k1.nonneg (Df h),?_,fun y hy hy0 hyx=>?_⟩
  ·have:=Rat.mul_le_mul_of_nonneg_right k1.le (Rat.le_of_lt hh2);grind
  ·have:=k1.best (y*pw (-h)) (hy.pw (-h)) (ypos y hy0) (by
    apply Rat.le_of_mul_le_mul_right _ hh2;rw [yy];exact hyx)
   rw [←G7 h,No] at this;exact this
end Go.Proofs.YtabjjdicffcolaaGreatDoor
namespace Go.Proofs.YtabjjdicffcolaaGreatDoor.Dg
def val:List Nat→Nat
 | []=>0
 | x::xs=>x+65536*val xs
def Small (xs:List Nat):Prop:=∀ x∈xs,x<65536
def limbs (n:Nat):List Nat:=if _h:n=0 then [] else (n%65536)::limbs (n/65536)
termination_by n
decreasing_by exact Nat.div_lt_self (by omega) (by decide)
theorem Au:limbs 0=[]:=by rw [limbs];simp
theorem Bq (n:Nat)(h:n≠0):limbs n=(n%65536)::limbs (n/65536):=by rw [limbs];simp [h]
theorem Bn (n:Nat):val (limbs n)=n:=by
 induction n using Nat.strongRecOn with
 | _ n ih =>
   by_cases h:n=0
   ·subst h;rw [Au];rfl
   ·rw [Bq n h,val,ih (n/65536) (Nat.div_lt_self (by omega) (by decide))];exact Nat.mod_add_div n 65536
theorem Dj (n:Nat):Small (limbs n):=by
 induction n using Nat.strongRecOn with
 | _ n ih =>
   by_cases h:n=0
   ·subst h;rw [Au];intro x hx;cases hx
   ·rw [Bq n h];intro x hx;rcases List.mem_cons.1 hx with rfl | hx
    ·exact Nat.mod_lt _ (by decide)
    ·exact ih (n/65536) (Nat.div_lt_self (by omega) (by decide)) x hx
def Dw (xs:List Nat):Nat→Nat
 | 0=>0
 | k+1=>if nth xs k=0 then Dw xs k else k+1
def tl (xs:List Nat):Nat:=Dw xs xs.length
theorem M7 (xs:List Nat):∀ k,Dw xs k≤k
 | 0=>Nat.le_refl _
 | k + 1 => by
   unfold Dw;split
   ·exact Nat.le_succ_of_le (M7 xs k)
   ·exact Nat.le_refl _
theorem Zp (xs:List Nat):tl xs≤xs.length:=M7 xs _
theorem nth_lt {xs:List Nat}(h:Small xs)(i:Nat):nth xs i<65536:=by
 unfold nth;by_cases hi:i<xs.length
 ·rw [List.getD_eq_getElem?_getD,List.getElem?_eq_getElem hi];exact h _ (List.getElem_mem hi)
 ·rw [List.getD_eq_getElem?_getD,List.getElem?_eq_none (by omega)];decide
theorem J2 (x:Nat)(xs:List Nat):∀ k,Dw (x::xs) (k+1)=if Dw xs k=0 then (if x=0 then 0 else 1) else Dw xs k+1
 | 0=>by simp [Dw,nth]
 | k + 1 => by
   rw [Dw,Ej,J2 x xs k,Dw];by_cases h:nth xs k=0
   ·simp [h]
   ·simp [h]
theorem Py (xs:List Nat)(h:Small xs):xs.take (tl xs)=limbs (val xs):=by
 induction xs with
 | nil=>simp [tl,Dw,val,Au]
 | cons x xs ih =>
   have hx:x<65536:=h x (List.mem_cons_self);have hs:Small xs:=fun y hy=>h y (List.mem_cons_of_mem _ hy)
   have ih':=ih hs;have ht:tl (x::xs)=if tl xs=0 then (if x=0 then 0 else 1) else tl xs+1:=J2 x xs xs.length
   have hv:tl xs=0↔val xs=0:=by
    constructor
    ·intro h0;rw [h0] at ih';have:=Bn (val xs);rw [←ih'] at this;simpa [val] using this.symm
    ·intro h0;rw [h0,Au] at ih';have h1:=congrArg List.length ih';have h2:=Zp xs;rw [List.length_take,List.length_nil] at h1;omega
   by_cases h0:val xs=0
   ·rw [ht,if_pos (hv.2 h0)];by_cases hx0:x=0
    ·simp [hx0,val,h0,Au]
    ·rw [if_neg hx0,val,h0];have e1:(x+65536*0)%65536=x:=by omega
     have e2:(x+65536*0)/65536=0:=by omega
     rw [Bq _ (by omega),e1,e2,Au];simp
   ·rw [ht,if_neg (fun h=>h0 (hv.1 h)),List.take_succ_cons,ih',val];rw [Bq (x+65536*val xs) (by omega)];have e1:(x+65536*val xs)%65536=x:=by omega
    have e2:(x+65536*val xs)/65536=val xs:=by omega
    rw [e1,e2]
theorem length_limbs (n : Nat) : (limbs n).length = if n = 0 then 0 else Nat.log2 n / 16 + 1 := by
 induction n using Nat.strongRecOn with
 | _ n ih =>
   by_cases h:n=0
   ·subst h;simp [Au]
   ·rw [Bq        n h, List.length_cons, ih (n / 65536) (Nat.div_lt_self (by omega) (by decide)), if_neg h];by_cases h1:n/65536=0
    ·rw [if_pos h1];have:Nat.log2 n<16:=(Nat.log2_lt h).2 (by omega);omega
    ·rw [if_neg h1];have key:Nat.log2 n=Nat.log2 (n/65536)+16:=by
      have a1:=Nat.log2_self_le h1;have a2:=Nat.lt_log2_self (n:=n/65536);have b1:2^(Nat.log2 (n/65536)+16)≤n:=by
       rw [Nat.pow_add]
       calc 2^Nat.log2 (n/65536)*2^16≤(n/65536)*2^16:=Nat.mul_le_mul_right _ a1
        _≤n:=Nat.div_mul_le_self n 65536
      have b2:n<2^(Nat.log2 (n/65536)+16+1):=by
       have:n<(n/65536+1)*65536:=by
        have:=Nat.lt_mul_div_succ n (show 0<65536 by decide);rw [Nat.mul_comm] at this;exact this
       calc n<(n/65536+1)*65536:=this
        _≤2^(Nat.log2 (n/65536)+1)*65536:=Nat.mul_le_mul_right _ a2
        _=2^(Nat.log2 (n/65536)+16+1):=by rw [show Nat.log2 (n/65536)+16+1=(Nat.log2 (n/65536)+1)+16 by omega,Nat.pow_add _ _ 16]
      have c1:=(Nat.le_log2 h).2 b1;have c2:=(Nat.log2_lt h).2 b2;omega
     rw [key];omega
def E5 (xs ys:List Nat):Nat→Int
 | 0=>0
 | k+1=>if nth xs k=nth ys k then E5 xs ys k else if nth xs k<nth ys k then -1 else 1
theorem Cn (xs ys:List Nat):val (xs++ys)=val xs+65536^xs.length*val ys:=by
 induction xs with
 | nil=>simp [val]
 | cons x xs ih =>
   rw [List.cons_append,val,ih,val,List.length_cons,Nat.pow_succ];generalize 65536^xs.length=p;rw [Nat.mul_add,Nat.add_assoc]
   congr 2
   rw [←Nat.mul_assoc,Nat.mul_comm p]
theorem Ev (xs:List Nat)(h:Small xs):val xs<65536^xs.length:=by
 induction xs with
 | nil=>simp [val]
 | cons x xs ih =>
   have hx:x<65536:=h x (List.mem_cons_self);have:=ih (fun y hy=>h y (List.mem_cons_of_mem _ hy));rw [val,List.length_cons,Nat.pow_succ];generalize 65536^xs.length=p at *;omega
theorem D3 {xs:List Nat}(h:Small xs)(k:Nat):Small (xs.take k):=fun x hx=>h x (List.mem_of_mem_take hx)
theorem J0 {xs:List Nat}(h:Small xs)(k:Nat):Small (xs.drop k):=fun x hx=>h x (List.mem_of_mem_drop hx)
theorem Br (xs:List Nat)(k:Nat)(h:k<xs.length):val (xs.take (k+1))=val (xs.take k)+65536^k*nth xs k:=by
 rw [Km xs k h,Cn,List.length_take,Nat.min_eq_left (by omega)];simp [val]
theorem Jn (xs ys:List Nat)(hx:Small xs)(hy:Small ys):∀ k,k≤xs.length→k≤ys.length→E5 xs ys k=Du (val (xs.take k)) (val (ys.take k))
 | 0,_,_=>by simp [E5,Du]
 | k + 1, h1, h2 => by
   have ih:=Jn xs ys hx hy k (by omega) (by omega);rw [E5,Br xs k (by omega),Br ys k (by omega),ih];have a:=Ev _ (D3 hx k);have b:=Ev _ (D3 hy k);rw [List.length_take,Nat.min_eq_left (by omega)] at a b;generalize 65536^k=p at *;generalize val (xs.take k)=u at *;generalize val (ys.take k)=v at *;generalize nth xs k=x;generalize nth ys k=y;by_cases e:x=y
   ·subst e;rw [if_pos rfl];unfold Du;simp only [Nat.add_lt_add_iff_right,Nat.add_right_cancel_iff]
   ·rw [if_neg e];by_cases l:x<y
    ·rw [if_pos l];have:p*(x+1)≤p*y:=Nat.mul_le_mul_left _ l;rw [Nat.mul_add] at this;unfold Du;rw [if_pos (by omega)]
    ·rw [if_neg l];have:p*(y+1)≤p*x:=Nat.mul_le_mul_left _ (by omega);rw [Nat.mul_add] at this;unfold Du;rw [if_neg (by omega),if_neg (by omega)]
theorem Ce (n:Nat):n<65536^(limbs n).length:=by
 have:=Ev _ (Dj n);rwa [Bn] at this
theorem Gk (n:Nat)(h:n≠0):65536^((limbs n).length-1)≤n:=by
 induction n using Nat.strongRecOn with
 | _ n ih =>
   rw [Bq n h,List.length_cons,Nat.add_sub_cancel];by_cases h1:n/65536=0
   ·rw [h1,Au];simp;omega
   ·have:=ih _ (Nat.div_lt_self (by omega) (by decide)) h1;have hl:0<(limbs (n/65536)).length:=by rw [Bq _ h1];simp
    obtain ⟨l,hl⟩:∃ l,(limbs (n/65536)).length=l+1:=⟨_,(Nat.succ_pred_eq_of_pos hl).symm⟩;rw [hl] at this ⊢;rw [Nat.add_sub_cancel] at this;rw [Nat.pow_succ];generalize 65536^l=p at *;omega
theorem Ft (n m:Nat)(h:(limbs n).length<(limbs m).length):n<m:=by
 have a:=Ce n;have hm:m≠0:=by rintro rfl;rw [Au] at h;simp at h
 have b:=Gk m hm;have c:65536^(limbs n).length≤65536^((limbs m).length-1):=Nat.pow_le_pow_right (by decide) (by omega);omega
theorem Lk (n m:Nat)(h:(limbs n).length=(limbs m).length):E5 (limbs n) (limbs m) (limbs n).length=Du n m:=by
 rw [Jn _ _ (Dj n) (Dj m) _ (Nat.le_refl _) (by omega),List.take_of_length_le (Nat.le_refl _),List.take_of_length_le (by omega),Bn,Bn]
theorem Js (n:Nat)(h:n≠0):nth (limbs n) ((limbs n).length-1)≠0:=by
 induction n using Nat.strongRecOn with
 | _ n ih =>
   rw [Bq n h,List.length_cons,Nat.add_sub_cancel];by_cases h1:n/65536=0
   ·rw [h1,Au];simp [nth];omega
   ·have hl:0<(limbs (n/65536)).length:=by rw [Bq _ h1];simp
    have:=ih _ (Nat.div_lt_self (by omega) (by decide)) h1;obtain ⟨l,hl⟩:∃ l,(limbs (n/65536)).length=l+1:=⟨_,(Nat.succ_pred_eq_of_pos hl).symm⟩;rw [hl] at this ⊢;rw [Ej];exact this
theorem Bc (n:Nat)(h:n≠0):0<(limbs n).length:=by rw [Bq n h];simp
theorem Rx     (n : Nat) (h : n ≠ 0) : bl n = 16 * ((limbs n).length - 1) + bl (nth (limbs n) ((limbs n).length - 1)) := by
 induction n using Nat.strongRecOn with
 | _ n ih =>
   rw [Bq n h,List.length_cons,Nat.add_sub_cancel];by_cases h1:n/65536=0
   ·rw [h1,Au];have:n%65536=n:=by omega
    simp [nth,this]
   ·have hl:0<(limbs (n/65536)).length:=by rw [Bq _ h1];simp
    have IH:=ih _ (Nat.div_lt_self (by omega) (by decide)) h1;obtain ⟨l,hl⟩:∃ l,(limbs (n/65536)).length=l+1:=⟨_,(Nat.succ_pred_eq_of_pos hl).symm⟩;rw [hl,Nat.add_sub_cancel] at IH;rw [hl,Ej];have key:bl n=bl (n/65536)+16:=by
     obtain ⟨q,hq⟩:∃ q,bl (n/65536)=q+1:=⟨bl (n/65536)-1,by have:=Cr _ h1;omega⟩;have a:=Cz _ h1;have b:=Ba (n/65536);rw [hq] at a b ⊢;rw [Nat.add_sub_cancel] at a
     have := Xa    n (q + 16) (by rw [Nat.pow_add]; have : (2:Nat) ^ 16 = 65536 := by decide
                                  rw [this]; omega) (by rw [show q + 16 + 1 = (q + 1) + 16 by omega, Nat.pow_add]; have : (2:Nat) ^ 16 = 65536 := by decide
                                                        rw [this];omega)
     omega
    omega
end Go.Proofs.YtabjjdicffcolaaGreatDoor.Dg
