/- Plain mathematics, no program: naturals as lists of digits of sixteen bits, their values, canonical lists (after the text of limbs). -/
set_option maxRecDepth 100000
set_option maxHeartbeats 16000000
namespace Go.Proofs.YtabjjdicffcolaaGreatDoor
def nth (xs:List Nat) (i:Nat):Nat:=xs.getD i 0
def val:List Nat→Nat
 | []=>0
 | x::xs=>x+18446744073709551616*val xs
def Small (xs:List Nat):Prop:=∀ x∈xs,x<18446744073709551616
def limbs (n:Nat):List Nat:=if _h:n=0 then [] else (n%18446744073709551616)::limbs (n/18446744073709551616)
termination_by n
decreasing_by exact Nat.div_lt_self (by omega) (by decide)
theorem limbs_zero:limbs 0=[]:=by rw [limbs];simp
theorem limbs_pos (n:Nat)(h:n≠0):limbs n=(n%18446744073709551616)::limbs (n/18446744073709551616):=by rw [limbs];simp [h]
theorem val_limbs (n:Nat):val (limbs n)=n:=by
 induction n using Nat.strongRecOn with
 | _ n ih =>
   by_cases h:n=0
   ·subst h;rw [limbs_zero];rfl
   ·rw [limbs_pos n h, val, ih (n / 18446744073709551616) (Nat.div_lt_self (by omega) (by decide))];exact Nat.mod_add_div n 18446744073709551616
theorem small_limbs (n:Nat):Small (limbs n):=by
 induction n using Nat.strongRecOn with
 | _ n ih =>
   by_cases h:n=0
   ·subst h;rw [limbs_zero];intro x hx;cases hx
   ·rw [limbs_pos n h];intro x hx
    rcases List.mem_cons.1 hx with rfl | hx
    ·exact Nat.mod_lt _ (by decide)
    ·exact ih (n/18446744073709551616) (Nat.div_lt_self (by omega) (by decide)) x hx
def trimN (xs:List Nat):Nat→Nat
 | 0=>0
 | k+1=>if nth xs k=0 then trimN xs k else k+1
def tl (xs:List Nat):Nat:=trimN xs xs.length
theorem trimN_le (xs:List Nat):∀ k,trimN xs k≤k
 | 0=>Nat.le_refl _
 | k + 1 => by
   unfold trimN;split
   ·exact Nat.le_succ_of_le (trimN_le xs k)
   ·exact Nat.le_refl _
theorem tl_le (xs:List Nat):tl xs≤xs.length:=trimN_le xs _
theorem nth_cons_succ (x:Nat)(xs:List Nat)(i:Nat):nth (x::xs) (i+1)=nth xs i:=rfl
theorem nth_lt {xs:List Nat}(h:Small xs)(i:Nat):nth xs i<18446744073709551616:=by
 unfold nth
 by_cases hi:i<xs.length
 ·rw [List.getD_eq_getElem?_getD,List.getElem?_eq_getElem hi];exact h _ (List.getElem_mem hi)
 ·rw [List.getD_eq_getElem?_getD,List.getElem?_eq_none (by omega)];decide
theorem trimN_cons (x:Nat)(xs:List Nat):∀ k,trimN (x::xs) (k+1)=if trimN xs k=0 then (if x=0 then 0 else 1) else trimN xs k+1
 | 0=>by simp [trimN,nth]
 | k + 1 => by
   rw [trimN,nth_cons_succ,trimN_cons x xs k,trimN]
   by_cases h:nth xs k=0
   ·simp [h]
   ·simp [h]
theorem take_tl (xs:List Nat)(h:Small xs):xs.take (tl xs)=limbs (val xs):=by
 induction xs with
 | nil=>simp [tl,trimN,val,limbs_zero]
 | cons x xs ih =>
   have hx:x<18446744073709551616:=h x (List.mem_cons_self);have hs:Small xs:=fun y hy=>h y (List.mem_cons_of_mem _ hy)
   have ih':=ih hs;have ht:tl (x::xs)=if tl xs=0 then (if x=0 then 0 else 1) else tl xs+1:=trimN_cons x xs xs.length
   have hv:tl xs=0↔val xs=0:=by
    constructor
    ·intro h0;rw [h0] at ih';have:=val_limbs (val xs);rw [←ih'] at this
     simpa [val] using this.symm
    ·intro h0;rw [h0,limbs_zero] at ih';have h1:=congrArg List.length ih';have h2:=tl_le xs;rw [List.length_take,List.length_nil] at h1;omega
   by_cases h0:val xs=0
   ·rw [ht, if_pos (hv.2 h0)]
    by_cases hx0:x=0
    ·simp [hx0,val,h0,limbs_zero]
    ·rw [if_neg hx0, val, h0];have e1:(x+18446744073709551616*0)%18446744073709551616=x:=by omega
     have e2:(x+18446744073709551616*0)/18446744073709551616=0:=by omega
     rw [limbs_pos _ (by omega),e1,e2,limbs_zero]
     simp
   ·rw [ht, if_neg (fun h => h0 (hv.1 h)), List.take_succ_cons, ih', val];rw [limbs_pos (x+18446744073709551616*val xs) (by omega)];have e1:(x+18446744073709551616*val xs)%18446744073709551616=x:=by omega
    have e2:(x+18446744073709551616*val xs)/18446744073709551616=val xs:=by omega
    rw [e1,e2]
theorem length_limbs (n : Nat) : (limbs n).length = if n = 0 then 0 else Nat.log2 n / 64 + 1 := by
 induction n using Nat.strongRecOn with
 | _ n ih =>
   by_cases h:n=0
   ·subst h;simp [limbs_zero]
   ·rw [limbs_pos n h, List.length_cons, ih (n / 18446744073709551616) (Nat.div_lt_self (by omega) (by decide)), if_neg h]
    by_cases h1:n/18446744073709551616=0
    ·rw [if_pos h1];have:Nat.log2 n<64:=(Nat.log2_lt h).2 (by omega);omega
    ·rw [if_neg h1];have key:Nat.log2 n=Nat.log2 (n/18446744073709551616)+64:=by
      have a1:=Nat.log2_self_le h1;have a2:=Nat.lt_log2_self (n:=n/18446744073709551616);have b1:2^(Nat.log2 (n/18446744073709551616)+64)≤n:=by
       rw [Nat.pow_add]
       calc 2^Nat.log2 (n/18446744073709551616)*2^64≤(n/18446744073709551616)*2^64:=Nat.mul_le_mul_right _ a1
        _≤n:=Nat.div_mul_le_self n 18446744073709551616
      have b2:n<2^(Nat.log2 (n/18446744073709551616)+64+1):=by
       have:n<(n/18446744073709551616+1)*18446744073709551616:=by
        have:=Nat.lt_mul_div_succ n (show 0<18446744073709551616 by decide);rw [Nat.mul_comm] at this;exact this
       calc n<(n/18446744073709551616+1)*18446744073709551616:=this
        _≤2^(Nat.log2 (n/18446744073709551616)+1)*18446744073709551616:=Nat.mul_le_mul_right _ a2
        _=2^(Nat.log2 (n/18446744073709551616)+64+1):=by rw [show Nat.log2 (n/18446744073709551616)+64+1=(Nat.log2 (n/18446744073709551616)+1)+64 by omega,Nat.pow_add _ _ 64]
      have c1:=(Nat.le_log2 h).2 b1;have c2:=(Nat.log2_lt h).2 b2;omega
     rw [key];omega
def mayN (xs:List Nat):Bool:=xs.length==0||(decide (xs.length≤64)&&nth xs (xs.length-1) != 0)
def cmpN (n m:Nat):Int:=if n<m then -1 else if n=m then 0 else 1
def cmpTop (xs ys:List Nat):Nat→Int
 | 0=>0
 | k+1=>if nth xs k=nth ys k then cmpTop xs ys k else if nth xs k<nth ys k then -1 else 1
theorem val_append (xs ys:List Nat):val (xs++ys)=val xs+18446744073709551616^xs.length*val ys:=by
 induction xs with
 | nil=>simp [val]
 | cons x xs ih =>
   rw [List.cons_append,val,ih,val,List.length_cons,Nat.pow_succ];generalize 18446744073709551616^xs.length=p;rw [Nat.mul_add,Nat.add_assoc]
   congr 2
   rw [←Nat.mul_assoc,Nat.mul_comm p]
theorem val_lt (xs:List Nat)(h:Small xs):val xs<18446744073709551616^xs.length:=by
 induction xs with
 | nil=>simp [val]
 | cons x xs ih =>
   have hx:x<18446744073709551616:=h x (List.mem_cons_self);have:=ih (fun y hy=>h y (List.mem_cons_of_mem _ hy));rw [val,List.length_cons,Nat.pow_succ];generalize 18446744073709551616^xs.length=p at *;omega
theorem small_take {xs:List Nat}(h:Small xs)(k:Nat):Small (xs.take k):=fun x hx=>h x (List.mem_of_mem_take hx)
theorem small_drop {xs:List Nat}(h:Small xs)(k:Nat):Small (xs.drop k):=fun x hx=>h x (List.mem_of_mem_drop hx)
theorem take_succ_nth (xs:List Nat)(k:Nat)(h:k<xs.length):xs.take (k+1)=xs.take k++[nth xs k]:=by
 rw [List.take_succ_eq_append_getElem h,nth,List.getD_eq_getElem?_getD,List.getElem?_eq_getElem h];rfl
theorem val_take_succ (xs:List Nat)(k:Nat)(h:k<xs.length):val (xs.take (k+1))=val (xs.take k)+18446744073709551616^k*nth xs k:=by
 rw [take_succ_nth xs k h,val_append,List.length_take,Nat.min_eq_left (by omega)]
 simp [val]
theorem cmpTop_val (xs ys:List Nat)(hx:Small xs)(hy:Small ys):∀ k,k≤xs.length→k≤ys.length→cmpTop xs ys k=cmpN (val (xs.take k)) (val (ys.take k))
 | 0,_,_=>by simp [cmpTop,cmpN]
 | k + 1, h1, h2 => by
   have ih:=cmpTop_val xs ys hx hy k (by omega) (by omega);rw [cmpTop,val_take_succ xs k (by omega),val_take_succ ys k (by omega),ih];have a:=val_lt _ (small_take hx k);have b:=val_lt _ (small_take hy k);rw [List.length_take,Nat.min_eq_left (by omega)] at a b;generalize 18446744073709551616^k=p at *;generalize val (xs.take k)=u at *;generalize val (ys.take k)=v at *;generalize nth xs k=x;generalize nth ys k=y
   by_cases e:x=y
   ·subst e;rw [if_pos rfl];unfold cmpN;simp only [Nat.add_lt_add_iff_right,Nat.add_right_cancel_iff]
   ·rw [if_neg e]
    by_cases l:x<y
    ·rw [if_pos l];have:p*(x+1)≤p*y:=Nat.mul_le_mul_left _ l;rw [Nat.mul_add] at this;unfold cmpN;rw [if_pos (by omega)]
    ·rw [if_neg l];have:p*(y+1)≤p*x:=Nat.mul_le_mul_left _ (by omega);rw [Nat.mul_add] at this;unfold cmpN;rw [if_neg (by omega),if_neg (by omega)]
theorem lt_pow_length (n:Nat):n<18446744073709551616^(limbs n).length:=by
 have:=val_lt _ (small_limbs n)
 rwa [val_limbs] at this
theorem pow_length_le (n:Nat)(h:n≠0):18446744073709551616^((limbs n).length-1)≤n:=by
 induction n using Nat.strongRecOn with
 | _ n ih =>
   rw [limbs_pos n h,List.length_cons,Nat.add_sub_cancel]
   by_cases h1:n/18446744073709551616=0
   ·rw [h1,limbs_zero];simp;omega
   ·have := ih _ (Nat.div_lt_self (by omega) (by decide)) h1;have hl:0<(limbs (n/18446744073709551616)).length:=by rw [limbs_pos _ h1];simp
    obtain ⟨l,hl⟩:∃ l,(limbs (n/18446744073709551616)).length=l+1:=⟨_,(Nat.succ_pred_eq_of_pos hl).symm⟩;rw [hl] at this ⊢;rw [Nat.add_sub_cancel] at this;rw [Nat.pow_succ];generalize 18446744073709551616^l=p at *;omega
theorem cmpN_length (n m:Nat)(h:(limbs n).length<(limbs m).length):n<m:=by
 have a:=lt_pow_length n;have hm:m≠0:=by rintro rfl;rw [limbs_zero] at h;simp at h
 have b:=pow_length_le m hm;have c:18446744073709551616^(limbs n).length≤18446744073709551616^((limbs m).length-1):=Nat.pow_le_pow_right (by decide) (by omega);omega
theorem cmpTop_limbs (n m:Nat)(h:(limbs n).length=(limbs m).length):cmpTop (limbs n) (limbs m) (limbs n).length=cmpN n m:=by
 rw [cmpTop_val _ _ (small_limbs n) (small_limbs m) _ (Nat.le_refl _) (by omega),List.take_of_length_le (Nat.le_refl _),List.take_of_length_le (by omega),val_limbs,val_limbs]
theorem limbs_last (n:Nat)(h:n≠0):nth (limbs n) ((limbs n).length-1)≠0:=by
 induction n using Nat.strongRecOn with
 | _ n ih =>
   rw [limbs_pos n h,List.length_cons,Nat.add_sub_cancel]
   by_cases h1:n/18446744073709551616=0
   ·rw [h1,limbs_zero];simp [nth];omega
   ·have hl : 0 < (limbs (n / 18446744073709551616)).length := by rw [limbs_pos _ h1]; simp
    have:=ih _ (Nat.div_lt_self (by omega) (by decide)) h1;obtain ⟨l,hl⟩:∃ l,(limbs (n/18446744073709551616)).length=l+1:=⟨_,(Nat.succ_pred_eq_of_pos hl).symm⟩;rw [hl] at this ⊢;rw [nth_cons_succ];exact this
theorem length_limbs_pos (n:Nat)(h:n≠0):0<(limbs n).length:=by rw [limbs_pos n h];simp
def bl (n:Nat):Nat:=if n=0 then 0 else Nat.log2 n+1
theorem bl_zero:bl 0=0:=rfl
theorem lt_two_bl (n:Nat):n<2^bl n:=by
 unfold bl;split
 ·omega
 ·exact Nat.lt_log2_self
theorem two_bl_le (n:Nat)(h:n≠0):2^(bl n-1)≤n:=by
 unfold bl;rw [if_neg h,Nat.add_sub_cancel];exact Nat.log2_self_le h
theorem bl_pos (n:Nat)(h:n≠0):0<bl n:=by unfold bl;rw [if_neg h];omega
theorem bl_le (n k:Nat)(h:n<2^k):bl n≤k:=by
 by_cases h0:n=0
 ·subst h0;exact Nat.zero_le _
 ·have := two_bl_le n h0;have p:=bl_pos n h0
  by_cases hk:bl n≤k
  ·exact hk
  ·have : 2 ^ k ≤ 2 ^ (bl n - 1) := Nat.pow_le_pow_right (by decide) (by omega);omega
theorem lt_bl (n k:Nat)(h:2^k≤n):k<bl n:=by
 by_cases hk:k<bl n
 ·exact hk
 ·have : 2 ^ bl n ≤ 2 ^ k := Nat.pow_le_pow_right (by decide) (by omega);have:=lt_two_bl n;omega
theorem bl_eq (n k:Nat)(h1:2^k≤n)(h2:n<2^(k+1)):bl n=k+1:=by
 have:=bl_le n _ h2;have:=lt_bl n _ h1;omega
theorem bl_le64 (n:Nat)(h:n<18446744073709551616):bl n≤64:=bl_le n 64 h
theorem bl_mono {n m:Nat}(h:n≤m):bl n≤bl m:=bl_le n _ (Nat.lt_of_le_of_lt h (lt_two_bl m))
theorem bl_mul_pow (n k:Nat)(h:n≠0):bl (n*2^k)=bl n+k:=by
 obtain ⟨l,hl⟩:∃ l,bl n=l+1:=⟨bl n-1,by have:=bl_pos n h;omega⟩;have a:=two_bl_le n h;have b:=lt_two_bl n;rw [hl] at a b ⊢;rw [Nat.add_sub_cancel] at a;have:=bl_eq (n*2^k) (l+k) (by rw [Nat.pow_add];exact Nat.mul_le_mul_right _ a) (by rw [show l+k+1=(l+1)+k by omega,Nat.pow_add];exact Nat.mul_lt_mul_of_pos_right b (Nat.pow_pos (by decide)));omega
theorem bl_top (n : Nat) (h : n ≠ 0) : bl n = 64 * ((limbs n).length - 1) + bl (nth (limbs n) ((limbs n).length - 1)) := by
 induction n using Nat.strongRecOn with
 | _ n ih =>
   rw [limbs_pos n h,List.length_cons,Nat.add_sub_cancel]
   by_cases h1:n/18446744073709551616=0
   ·rw [h1, limbs_zero];have:n%18446744073709551616=n:=by omega
    simp [nth,this]
   ·have hl : 0 < (limbs (n / 18446744073709551616)).length := by rw [limbs_pos _ h1]; simp
    have IH:=ih _ (Nat.div_lt_self (by omega) (by decide)) h1;obtain ⟨l,hl⟩:∃ l,(limbs (n/18446744073709551616)).length=l+1:=⟨_,(Nat.succ_pred_eq_of_pos hl).symm⟩;rw [hl,Nat.add_sub_cancel] at IH;rw [hl,nth_cons_succ];have key:bl n=bl (n/18446744073709551616)+64:=by
     obtain ⟨q,hq⟩:∃ q,bl (n/18446744073709551616)=q+1:=⟨bl (n/18446744073709551616)-1,by have:=bl_pos _ h1;omega⟩;have a:=two_bl_le _ h1;have b:=lt_two_bl (n/18446744073709551616);rw [hq] at a b ⊢;rw [Nat.add_sub_cancel] at a
     have := bl_eq n (q + 64) (by rw [Nat.pow_add]; have : (2:Nat) ^ 64 = 18446744073709551616 := by decide
                                  rw [this]; omega) (by rw [show q + 64 + 1 = (q + 1) + 64 by omega, Nat.pow_add]; have : (2:Nat) ^ 64 = 18446744073709551616 := by decide
                                                        rw [this];omega)
     omega
    omega
def tzF:Nat→Nat→Nat
 | 0,_=>0
 | f+1,n=>if n%2=1 then 0 else tzF f (n/2)+1
def tz (n:Nat):Nat:=tzF (bl n) n
theorem tzF_spec:∀ (f n:Nat),n≠0→n<2^f→2^tzF f n ∣ n∧n/2^tzF f n%2=1
 | 0,n,h,hf=>by simp at hf;omega
 | f + 1, n, h, hf => by
   rw [tzF]
   by_cases e:n%2=1
   ·rw [if_pos e];simp [e]
   ·rw [if_neg e];have hh:n/2≠0:=by omega
    obtain ⟨a,b⟩:=tzF_spec f (n/2) hh (by rw [Nat.pow_succ] at hf;omega);obtain ⟨q,hq⟩:=a;refine ⟨⟨q,by rw [Nat.pow_succ,Nat.mul_right_comm,←hq];omega⟩,?_⟩;rw [Nat.pow_succ,Nat.mul_comm,←Nat.div_div_eq_div_mul];exact b
theorem tz_dvd (n:Nat)(h:n≠0):2^tz n ∣ n:=(tzF_spec _ n h (lt_two_bl n)).1
theorem tz_odd (n:Nat)(h:n≠0):n/2^tz n%2=1:=(tzF_spec _ n h (lt_two_bl n)).2
theorem tz_mul (n:Nat)(h:n≠0):n/2^tz n*2^tz n=n:=Nat.div_mul_cancel (tz_dvd n h)
theorem odd_pow_unique {a b x y:Nat}(hx:x%2=1)(hy:y%2=1)(h:x*2^a=y*2^b):a=b∧x=y:=by
 have key:∀ {a b x y:Nat},x%2=1→x*2^a=y*2^b→b≤a:=by
  intro a b x y hx h
  by_cases hab:b≤a
  ·exact hab
  ·obtain ⟨d, rfl⟩ : ∃ d, b = a + (d + 1) := ⟨b - a - 1, by omega⟩;rw [Nat.pow_add,←Nat.mul_assoc,Nat.mul_right_comm] at h;have:=Nat.eq_of_mul_eq_mul_right (Nat.pow_pos (by decide)) h;rw [Nat.pow_succ,←Nat.mul_assoc] at this;omega
 have e:a=b:=Nat.le_antisymm (key hy h.symm) (key hx h);subst e;exact ⟨rfl,Nat.eq_of_mul_eq_mul_right (Nat.pow_pos (by decide)) h⟩
theorem tz_unique (n k q:Nat)(hq:q%2=1)(h:n=q*2^k):tz n=k:=by
 have hn:n≠0:=by
  rintro rfl;have:0<q*2^k:=Nat.mul_pos (by omega) (Nat.pow_pos (by decide));omega
 exact (odd_pow_unique (tz_odd n hn) hq ((tz_mul n hn).trans h)).1
def tzL:List Nat→Nat
 | []=>0
 | x::xs=>if x=0 then 64+tzL xs else tz x
theorem tzL_limbs (n:Nat)(h:n≠0):tzL (limbs n)=tz n:=by
 induction n using Nat.strongRecOn with
 | _ n ih =>
   rw [limbs_pos n h,tzL];have p:(2:Nat)^64=18446744073709551616:=by decide
   by_cases hx:n%18446744073709551616=0
   ·rw [if_pos hx];have h1:n/18446744073709551616≠0:=by omega
    rw [ih _ (Nat.div_lt_self (by omega) (by decide)) h1];have a:=tz_odd _ h1;have b:=tz_mul _ h1;refine (tz_unique n _ _ a ?_).symm;rw [Nat.add_comm,Nat.pow_add,←Nat.mul_assoc,b,p];omega
   ·rw [if_neg hx];have a:=tz_odd _ hx;have b:=tz_mul _ hx;have c:tz (n%18446744073709551616)<64:=by
     by_cases hc:tz (n%18446744073709551616)<64
     ·exact hc
     ·have d := tz_dvd _ hx;have:=Nat.le_of_dvd (by omega) d;have e:2^64≤2^tz (n%18446744073709551616):=Nat.pow_le_pow_right (by decide) (by omega);omega
    obtain ⟨d,hd⟩:∃ d,64=tz (n%18446744073709551616)+(d+1):=⟨64-tz (n%18446744073709551616)-1,by omega⟩;refine (tz_unique n _ (n%18446744073709551616/2^tz (n%18446744073709551616)+2^(d+1)*(n/18446744073709551616)) ?_ ?_).symm
    ·rw [Nat.pow_succ,Nat.mul_comm (2^d) 2,Nat.mul_assoc];omega
    ·rw [Nat.add_mul, b, Nat.mul_right_comm, ← Nat.pow_add, Nat.add_comm (d + 1), ← hd, p];omega
theorem drop_nth (xs:List Nat)(k:Nat)(h:k<xs.length):xs.drop k=nth xs k::xs.drop (k+1):=by
 rw [List.drop_eq_getElem_cons h,nth,List.getD_eq_getElem?_getD,List.getElem?_eq_getElem h];rfl
theorem tzL_drop (xs:List Nat)(k:Nat)(h:k<xs.length):tzL (xs.drop k)=if nth xs k=0 then 64+tzL (xs.drop (k+1)) else tz (nth xs k):=by
 rw [drop_nth xs k h,tzL]
theorem tz_lt (n k:Nat)(h:n≠0)(hk:n<2^k):tz n<k:=by
 have:=Nat.le_of_dvd (Nat.pos_of_ne_zero h) (tz_dvd n h);exact (Nat.pow_lt_pow_iff_right (by decide)).1 (Nat.lt_of_le_of_lt this hk)
end Go.Proofs.YtabjjdicffcolaaGreatDoor
namespace Go.Proofs.YtabjjdicffcolaaGreatDoor
structure Raw where
 neg:Bool
 m:List Nat
 e:Int
structure Dy where
 neg:Bool
 m:Nat
 e:Int
def Dy.raw (d:Dy):Raw:=⟨d.neg,limbs d.m,d.e⟩
def dz:Dy:=⟨false,0,0⟩
def Raw.dy (r:Raw):Dy:=⟨r.neg,val r.m,r.e⟩
def mayD (r:Raw):Bool :=
 if r.m.length=0 then (!r.neg&&r.e==0) else (mayN r.m&&nth r.m 0%2==1&&decide (-1048576≤r.e)&&decide (r.e≤1048576))
structure Dy.Ok (d:Dy):Prop where
 len:(limbs d.m).length≤64
 zero:d.m=0→d.neg=false∧d.e=0
 odd:d.m≠0→d.m%2=1
 lo:-1048576≤d.e
 hi:d.e≤1048576
theorem mayN_limbs {xs:List Nat}(h:Small xs)(hm:mayN xs=true):limbs (val xs)=xs:=by
 rw [←take_tl xs h];unfold mayN at hm
 by_cases h0:xs.length=0
 ·obtain rfl := List.eq_nil_of_length_eq_zero h0
  rfl
 ·simp [h0] at hm
  have hm2:=hm;obtain ⟨k,hk⟩:∃ k,xs.length=k+1:=⟨xs.length-1,by omega⟩;have:tl xs=xs.length:=by
   unfold tl;rw [hk,trimN,if_neg];have:=hm2.2
   rwa [hk,Nat.add_sub_cancel] at this
  rw [this,List.take_of_length_le (Nat.le_refl _)]
theorem mayN_len {xs:List Nat}(hm:mayN xs=true):xs.length≤64:=by
 unfold mayN at hm
 by_cases h0:xs.length=0
 ·omega
 ·simp [h0] at hm
  exact hm.1
theorem nth_limbs_zero (n:Nat):nth (limbs n) 0=n%18446744073709551616:=by
 by_cases h:n=0
 ·subst h;rw [limbs_zero];rfl
 ·rw [limbs_pos n h];rfl
theorem mayD_clean {r:Raw}(h:Small r.m)(hm:mayD r=true):r.dy.raw=r∧r.dy.Ok:=by
 obtain ⟨neg,m,e⟩:=r;unfold mayD at hm;simp only at hm h
 by_cases h0:m.length=0
 ·obtain rfl := List.eq_nil_of_length_eq_zero h0
  simp at hm
  obtain ⟨rfl,rfl⟩:=hm;refine ⟨by simp [Raw.dy,Dy.raw,val,limbs_zero],?_⟩;refine ⟨by simp [Raw.dy,val,limbs_zero],fun _=>⟨rfl,rfl⟩,fun h=>absurd rfl h,by simp [Raw.dy],by simp [Raw.dy]⟩
 ·rw [if_neg h0] at hm;simp only [Bool.and_eq_true,beq_iff_eq,decide_eq_true_eq] at hm;obtain ⟨⟨⟨h1,h2⟩,h3⟩,h4⟩:=hm;have hl:=mayN_limbs h h1;have hv:val m≠0:=by
   intro hv;rw [hv,limbs_zero] at hl;rw [←hl] at h0;simp at h0
  refine ⟨by simp only [Raw.dy,Dy.raw];rw [hl],?_⟩;refine ⟨by simp only [Raw.dy];rw [hl];exact mayN_len h1,fun h=>absurd h hv,fun _=>?_,h3,h4⟩;simp only [Raw.dy];rw [←hl,nth_limbs_zero] at h2;omega
theorem mayN_of_limbs (n:Nat)(h:(limbs n).length≤64):mayN (limbs n)=true:=by
 by_cases h0:n=0
 ·subst h0;rw [limbs_zero];rfl
 ·unfold mayN;have:=limbs_last n h0
  simp [h]
  right
  exact this
theorem Dy.Ok.may {d:Dy}(h:d.Ok):mayD d.raw=true:=by
 unfold mayD Dy.raw;simp only
 by_cases h0:d.m=0
 ·obtain ⟨a, b⟩ := h.zero h0;rw [h0,limbs_zero,a,b];rfl
 ·rw [if_neg (by have := length_limbs_pos d.m h0; omega), mayN_of_limbs d.m h.len, nth_limbs_zero];have h1:=h.odd h0;have h2:=h.lo;have h3:=h.hi;have h4:d.m%18446744073709551616%2=1:=by omega
  simp [h4,h2,h3]
theorem Dy.raw_dy (d:Dy):d.raw.dy=d:=by
 simp [Dy.raw,Raw.dy,val_limbs]
theorem Dy.small (d:Dy):Small d.raw.m:=small_limbs _
theorem dz_ok:dz.Ok:=⟨by simp [dz,limbs_zero],fun _=>⟨rfl,rfl⟩,fun h=>absurd rfl h,by decide,by decide⟩
structure Outc (α:Type) where
 v:α
 k:Int
def good {α:Type} (a:α):Outc α:=⟨a,0⟩
def bad (k:Int):Outc Dy:=⟨dz,k⟩
def fitD (neg:Bool) (n:Nat) (e:Int):Outc Dy :=
 if n=0 then good dz
 else if 64<(limbs (n/2^tz n)).length then bad 2
 else if 1048576<e∨e < -1048576-tz n then bad 3
 else if 1048576<e+tz n then bad 3
 else good ⟨neg,n/2^tz n,e+tz n⟩
theorem fitD_ok (neg:Bool)(n:Nat)(e:Int):(fitD neg n e).v.Ok∧((fitD neg n e).k≠0→(fitD neg n e).v=dz):=by
 unfold fitD
 by_cases h0:n=0
 ·rw [if_pos h0];exact ⟨dz_ok,fun _=>rfl⟩
 ·rw [if_neg h0]
  by_cases h1:64<(limbs (n/2^tz n)).length
  ·rw [if_pos h1];exact ⟨dz_ok,fun _=>rfl⟩
  ·rw [if_neg h1]
   by_cases h2:1048576<e∨e < -1048576-tz n
   ·rw [if_pos h2];exact ⟨dz_ok,fun _=>rfl⟩
   ·rw [if_neg h2]
    by_cases h3:1048576<e+tz n
    ·rw [if_pos h3];exact ⟨dz_ok,fun _=>rfl⟩
    ·rw [if_neg h3];have ho:=tz_odd n h0;refine ⟨⟨by simp only [good];omega,fun hz=>?_,fun _=>ho,by simp only [good];omega,by simp only [good];omega⟩,fun h=>absurd rfl h⟩;simp only [good] at hz;rw [hz] at ho;omega
end Go.Proofs.YtabjjdicffcolaaGreatDoor
namespace Go.Proofs.YtabjjdicffcolaaGreatDoor
def pw (e:Int):Rat:=(2:Rat)^e
theorem pw_pos (e:Int):0<pw e:=Rat.zpow_pos (by decide)
theorem pw_add (a b:Int):pw (a+b)=pw a*pw b:=Rat.zpow_add (by decide) a b
theorem pw_zero:pw 0=1:=Rat.zpow_zero _
theorem pw_one:pw 1=2:=Rat.zpow_one _
theorem pw_nat (n:Nat):pw (n:Int)=((2^n:Nat):Rat):=by
 unfold pw;rw [Rat.zpow_natCast,Rat.natCast_pow];rfl
theorem pw_neg (e:Int):pw e*pw (-e)=1:=by rw [←pw_add,Int.add_right_neg,pw_zero]
theorem pw_cancel (y:Rat)(i:Int):y*pw (-i)*pw i=y:=by rw [Rat.mul_assoc,Rat.mul_comm (pw (-i)),pw_neg,Rat.mul_one]
theorem pw_nonneg (e:Int):0≤pw e:=Rat.le_of_lt (pw_pos e)
theorem pw_ne (e:Int):pw e≠0:=by have:=pw_pos e;grind
theorem pw_split {a b:Int}(h:a≤b):pw b=((2^(b-a).toNat:Nat):Rat)*pw a:=by
 rw [←pw_nat,←pw_add];congr 1;omega
theorem pw_mono {a b:Int}(h:a≤b):pw a≤pw b:=by
 rw [pw_split h];have h1:(1:Rat)≤((2^(b-a).toNat:Nat):Rat):=by
  have:=Rat.natCast_le_natCast.2 (Nat.one_le_two_pow (n:=(b-a).toNat));exact this
 have h2:=Rat.mul_le_mul_of_nonneg_right h1 (pw_nonneg a)
 grind
def sq (s:Bool) (m:Nat):Rat:=if s then -(m:Rat) else m
theorem sq_neg (s:Bool)(m:Nat):sq (!s) m=-sq s m:=by cases s<;>simp [sq]
theorem sq_zero (s:Bool):sq s 0=0:=by cases s<;>simp [sq]
theorem sq_mul (s t:Bool)(m n:Nat):sq (s != t) (m*n)=sq s m*sq t n:=by
 cases s<;>cases t<;>simp [sq,Rat.natCast_mul]<;>grind
def Dy.q (d:Dy):Rat:=sq d.neg d.m*pw d.e
theorem dz_q:dz.q=0:=by simp [Dy.q,dz,sq]
theorem nat_cast_lt {a b:Nat}:(a:Rat)<(b:Rat)↔a<b:=Rat.natCast_lt_natCast
theorem nat_cast_le {a b:Nat}:(a:Rat)≤(b:Rat)↔a≤b:=Rat.natCast_le_natCast
theorem nat_pos {m:Nat}(h:m≠0):0<(m:Rat):=by
 have:=nat_cast_lt.2 (Nat.pos_of_ne_zero h)
 simpa using this
theorem q_pos {m:Nat}(h:m≠0)(e:Int):0<(m:Rat)*pw e:=Rat.mul_pos (nat_pos h) (pw_pos e)
theorem mag_nat (m:Nat){e l:Int}(h:l≤e):(m:Rat)*pw e=((m*2^(e-l).toNat:Nat):Rat)*pw l:=by
 rw [pw_split h,Rat.natCast_mul,Rat.mul_assoc]
theorem mul_pw_lt {a b:Rat}(e:Int):a*pw e<b*pw e↔a<b:=Rat.mul_lt_mul_right (pw_pos e)
theorem mul_pw_le {a b:Rat}(e:Int):a*pw e≤b*pw e↔a≤b:=by
 constructor
 ·intro h;exact Rat.le_of_mul_le_mul_right h (pw_pos e)
 ·intro h;exact Rat.mul_le_mul_of_nonneg_right h (pw_nonneg e)
theorem mag_le (m n:Nat){e f l:Int}(h:l≤e)(k:l≤f):(m:Rat)*pw e≤(n:Rat)*pw f↔m*2^(e-l).toNat≤n*2^(f-l).toNat:=by
 rw [mag_nat m h,mag_nat n k,mul_pw_le,nat_cast_le]
theorem mag_lt (m n:Nat){e f l:Int}(h:l≤e)(k:l≤f):(m:Rat)*pw e<(n:Rat)*pw f↔m*2^(e-l).toNat<n*2^(f-l).toNat:=by
 rw [mag_nat m h,mag_nat n k,mul_pw_lt,nat_cast_lt]
theorem mag_eq (m n:Nat){e f l:Int}(h:l≤e)(k:l≤f):(m:Rat)*pw e=(n:Rat)*pw f↔m*2^(e-l).toNat=n*2^(f-l).toNat:=by
 constructor
 ·intro he;have h1:=(mag_le m n h k).1 (by rw [he];exact Rat.le_refl);have h2:=(mag_le n m k h).1 (by rw [he];exact Rat.le_refl);omega
 ·intro he;rw [mag_nat m h,mag_nat n k,he]
def cmpQ (x y:Rat):Int:=if x<y then -1 else if x=y then 0 else 1
theorem cmpQ_neg (x y:Rat):cmpQ (-x) (-y)=-cmpQ x y:=by
 unfold cmpQ
 by_cases h:x<y
 ·rw [if_pos h,if_neg (by grind),if_neg (by grind)];rfl
 ·by_cases h1 : x = y
  ·rw [if_neg h,if_pos h1,if_neg (by grind),if_pos (by rw [h1])];rfl
  ·rw [if_neg h,if_neg h1,if_pos (by grind)]
theorem cmpQ_le {x y:Rat}:cmpQ x y≤0↔x≤y:=by
 unfold cmpQ
 by_cases h:x<y
 ·rw [if_pos h];constructor<;>intro<;>first | grind | decide
 ·by_cases h1 : x = y
  ·rw [if_neg h,if_pos h1];constructor<;>intro<;>first | grind | decide
  ·rw [if_neg h, if_neg h1]; constructor <;> intro h2
   ·exact absurd h2 (by decide)
   ·grind
theorem cmpQ_ge {x y:Rat}:0≤cmpQ x y↔y≤x:=by
 unfold cmpQ
 by_cases h:x<y
 ·rw [if_pos h]; constructor <;> intro h2
  ·exact absurd h2 (by decide)
  ·grind
 ·by_cases h1 : x = y
  ·rw [if_neg h,if_pos h1];constructor<;>intro<;>first | grind | decide
  ·rw [if_neg h,if_neg h1];constructor<;>intro<;>first | grind | decide
theorem cmpQ_lt {x y:Rat}:cmpQ x y<0↔x<y:=by
 have:=@cmpQ_ge x y;constructor
 ·intro h
  by_cases hxy:x<y
  ·exact hxy
  ·exfalso
   have:(0:Int)≤cmpQ x y:=this.2 (by grind);omega
 ·intro h
  by_cases hc:cmpQ x y<0
  ·exact hc
  ·exfalso
   have:=this.1 (by omega)
   grind
theorem cmpQ_gt {x y:Rat}:0<cmpQ x y↔y<x:=by
 have:=@cmpQ_le x y;constructor
 ·intro h
  by_cases hxy:y<x
  ·exact hxy
  ·exfalso
   have:cmpQ x y≤0:=this.2 (by grind);omega
 ·intro h
  by_cases hc:0<cmpQ x y
  ·exact hc
  ·exfalso
   have:=this.1 (by omega)
   grind
theorem cmpQ_self (x:Rat):cmpQ x x=0:=by
 unfold cmpQ;rw [if_neg (by grind),if_pos rfl]
theorem cmpQ_mag (m n:Nat){e f l:Int}(h:l≤e)(k:l≤f):cmpQ ((m:Rat)*pw e) ((n:Rat)*pw f)=cmpN (m*2^(e-l).toNat) (n*2^(f-l).toNat):=by
 unfold cmpQ cmpN;simp only [mag_lt m n h k,mag_eq m n h k]
def Fits (p:Nat) (y:Rat):Prop:=∃ s k j,bl k≤p∧y=sq s k*pw j
theorem Fits.neg {p:Nat}{y:Rat}(h:Fits p y):Fits p (-y):=by
 obtain ⟨s,k,j,hk,rfl⟩:=h;exact ⟨!s,k,j,hk,by rw [sq_neg];grind⟩
theorem Fits.mono {p p':Nat}{y:Rat}(h:Fits p y)(hp:p≤p'):Fits p' y:=by
 obtain ⟨s,k,j,hk,rfl⟩:=h;exact ⟨s,k,j,by omega,rfl⟩
theorem Fits.pw {p:Nat}{y:Rat}(h:Fits p y)(i:Int):Fits p (y*pw i):=by
 obtain ⟨s,k,j,hk,rfl⟩:=h;exact ⟨s,k,j+i,hk,by rw [pw_add,Rat.mul_assoc]⟩
theorem Fits.zero (p:Nat):Fits p 0:=⟨false,0,0,by simp [bl],by rw [sq_zero,Rat.zero_mul]⟩
structure IsDown (p:Nat) (x d:Rat):Prop where
 fits:Fits p d
 le:d≤x
 best:∀ y,Fits p y→y≤x→y≤d
structure IsUp (p:Nat) (x d:Rat):Prop where
 fits:Fits p d
 le:x≤d
 best:∀ y,Fits p y→x≤y→d≤y
def IsDir (up:Bool) (p:Nat) (x d:Rat):Prop:=if up then IsUp p x d else IsDown p x d
theorem IsDown.neg {p:Nat}{x d:Rat}(h:IsDown p x d):IsUp p (-x) (-d) :=
 ⟨h.fits.neg,by have:=h.le;grind,fun y hy hx=>by have:=h.best (-y) hy.neg (by grind);grind⟩
theorem IsUp.neg {p:Nat}{x d:Rat}(h:IsUp p x d):IsDown p (-x) (-d) :=
 ⟨h.fits.neg,by have:=h.le;grind,fun y hy hx=>by have:=h.best (-y) hy.neg (by grind);grind⟩
theorem IsDown.mono {p p':Nat}{x x' d d':Rat}(h:IsDown p x d)(h':IsDown p' x' d')(hp:p≤p')(hx:x≤x'):d≤d' :=
 h'.best d (h.fits.mono hp) (by have:=h.le;grind)
theorem IsUp.mono {p p':Nat}{x x' d d':Rat}(h:IsUp p x d)(h':IsUp p' x' d')(hp:p≤p')(hx:x'≤x):d'≤d :=
 h'.best d (h.fits.mono hp) (by have:=h.le;grind)
theorem IsDown.of_fits {p:Nat}{x:Rat}(h:Fits p x):IsDown p x x:=⟨h,Rat.le_refl,fun _ _ h=>h⟩
theorem IsUp.of_fits {p:Nat}{x:Rat}(h:Fits p x):IsUp p x x:=⟨h,Rat.le_refl,fun _ _ h=>h⟩
theorem IsDown.pw {p:Nat}{x d:Rat}(h:IsDown p x d)(i:Int):IsDown p (x*pw i) (d*pw i):=by
 refine ⟨h.fits.pw i,(mul_pw_le i).2 h.le,fun y hy hx=>?_⟩;have h2:=h.best (y*Go.Proofs.YtabjjdicffcolaaGreatDoor.pw (-i)) (hy.pw (-i)) (by rw [←mul_pw_le i,pw_cancel];exact hx);rw [←mul_pw_le i,pw_cancel] at h2;exact h2
theorem IsUp.pw {p:Nat}{x d:Rat}(h:IsUp p x d)(i:Int):IsUp p (x*pw i) (d*pw i):=by
 have:=(h.neg.pw i).neg
 simpa [Rat.neg_mul] using this
theorem fits_le_floor {p m':Nat}{x y:Rat}(hm:2^(p-1)≤m')(hp:1≤p)(hx:x<(m':Rat)+1)(hy:Fits p y)(hyx:y≤x):y≤m':=by
 obtain ⟨s,k,j,hk,rfl⟩:=hy;have hm0:(0:Rat)≤m':=nat_cast_le.2 (Nat.zero_le m');cases s
 case true =>
  have:sq true k*pw j≤0:=by
   have h1:(0:Rat)≤k:=nat_cast_le.2 (Nat.zero_le k);have h2:=Rat.mul_le_mul_of_nonneg_right h1 (pw_nonneg j);simp only [sq,if_true]
   grind
  grind
 case false =>
  simp only [sq,Bool.false_eq_true,if_false] at *
  rcases Int.le_total 0 j with hj | hj
  ·have e : (k : Rat) * pw j = ((k * 2 ^ j.toNat : Nat) : Rat) := by
    have h:=mag_nat k hj;rw [pw_zero] at h
    simpa using h
   rw [e] at hyx ⊢;have h3:((k*2^j.toNat:Nat):Rat)<((m'+1:Nat):Rat):=by
    rw [Rat.natCast_add];have:((1:Nat):Rat)=1:=rfl
    grind
   have:=nat_cast_lt.1 h3;exact nat_cast_le.2 (by omega)
  ·by_cases hj0 : j = 0
   ·subst hj0;rw [pw_zero,Rat.mul_one] at hyx ⊢;have h3:(k:Rat)<((m'+1:Nat):Rat):=by
     rw [Rat.natCast_add];have:((1:Nat):Rat)=1:=rfl
     grind
    have:=nat_cast_lt.1 h3;exact nat_cast_le.2 (by omega)
   ·have h1 : (k : Rat) * pw j ≤ (k : Rat) * pw (-1) := by
     have h1:(0:Rat)≤k:=nat_cast_le.2 (Nat.zero_le k);exact Rat.mul_le_mul_of_nonneg_left (pw_mono (by omega)) h1
    have h2:k≤2*m':=by
     have h4:=lt_two_bl k;have h5:2^bl k≤2^p:=Nat.pow_le_pow_right (by decide) hk;have h6:2^p=2*2^(p-1):=by
      rw [←Nat.pow_succ'];congr 1;omega
     omega
    have h3:(k:Rat)≤2*(m':Rat):=by
     have:=nat_cast_le.2 h2;rw [Rat.natCast_mul] at this;exact this
    have h4:=pw_neg (-1);have h5:pw (-(-1:Int))=2:=pw_one;rw [h5] at h4;have h6:=pw_pos (-1);have h7:=Rat.mul_le_mul_of_nonneg_right h3 (pw_nonneg (-1));have h8:2*(m':Rat)*pw (-1)=m':=by
     rw [Rat.mul_comm 2,Rat.mul_assoc,Rat.mul_comm 2,h4,Rat.mul_one]
    rw [h8] at h7;exact Rat.le_trans h1 h7
theorem fits_ge_ceil {p m':Nat}{x y:Rat}(hm:2^(p-1)≤m')(hp:1≤p)(hx:(m':Rat)<x)(hy:Fits p y)(hyx:x≤y):(m':Rat)+1≤y:=by
 by_cases h:(m':Rat)+1≤y
 ·exact h
 ·exfalso
  have:=fits_le_floor hm hp (x:=y) (by grind) hy Rat.le_refl
  grind
theorem div_pw (m n:Nat):((m/2^n:Nat):Rat)*((2^n:Nat):Rat)≤m∧(m:Rat)<(((m/2^n:Nat):Rat)+1)*((2^n:Nat):Rat):=by
 have h0:0<2^n:=Nat.two_pow_pos n;have h1:=Nat.div_add_mod m (2^n);have h2:=Nat.mod_lt m h0;constructor
 ·rw [← Rat.natCast_mul, nat_cast_le];rw [Nat.mul_comm] at h1;omega
 ·have : (((m / 2 ^ n : Nat) : Rat) + 1) * ((2 ^ n : Nat) : Rat) = (((m / 2 ^ n + 1) * 2 ^ n : Nat) : Rat) := by
   rw [Rat.natCast_mul,Rat.natCast_add];rfl
  rw [this,nat_cast_lt,Nat.add_mul,Nat.one_mul];rw [Nat.mul_comm] at h1;omega
theorem tz_lt_iff (m n:Nat)(h:m≠0):tz m<n↔m%2^n≠0:=by
 constructor
 ·intro hlt hz;have hd:2^n ∣ m:=Nat.dvd_of_mod_eq_zero hz;have h1:=tz_mul m h;have h2:=tz_odd m h;have h3:2^(tz m+1) ∣ m:=Nat.dvd_trans (Nat.pow_dvd_pow 2 hlt) hd;obtain ⟨c,hc⟩:=h3;have h4:m/2^tz m=2*c:=by
   apply Nat.div_eq_of_eq_mul_left (Nat.two_pow_pos _)
   have:2^(tz m+1)*c=2*c*2^tz m:=by rw [Nat.pow_succ,Nat.mul_assoc,Nat.mul_comm]
   omega
  omega
 ·intro hz
  by_cases hc:tz m<n
  ·exact hc
  ·exfalso
   apply hz
   exact Nat.mod_eq_zero_of_dvd (Nat.dvd_trans (Nat.pow_dvd_pow 2 (by omega)) (tz_dvd m h))
def cutN (m:Nat) (rest:Bool) (p:Nat):Bool × Nat × Nat :=
 let n:=bl m-p
 (rest||(decide (0<n)&&decide (tz m<n)),m/2^n,n)
theorem bl_div (m n:Nat):bl (m/2^n)=bl m-n:=by
 by_cases h:m=0
 ·subst h;simp [bl]
 ·by_cases hn : n < bl m
  ·have h1 := two_bl_le m h;have h2:=lt_two_bl m;have e:bl m-n=(bl m-n-1)+1:=by omega
   rw [e];refine bl_eq _ _ ?_ ?_
   ·rw [Nat.le_div_iff_mul_le (Nat.two_pow_pos n), ← Nat.pow_add];have:bl m-n-1+n=bl m-1:=by omega
    rw [this];exact h1
   ·rw [Nat.div_lt_iff_lt_mul (Nat.two_pow_pos n), ← Nat.pow_add];have:bl m-n-1+1+n=bl m:=by omega
    rw [this];exact h2
  ·have h2 := lt_two_bl m;have:m/2^n=0:=Nat.div_eq_of_lt (Nat.lt_of_lt_of_le h2 (Nat.pow_le_pow_right (by decide) (by omega)));rw [this,bl_zero];omega
def Mag (m:Nat) (rest:Bool) (M:Rat):Prop:=if rest then (m:Rat)<M∧M<(m:Rat)+1 else M=m
theorem cutN_mag {m:Nat}{rest:Bool}{p:Nat}{M:Rat}(h:Mag m rest M)(h0:rest=true→p<bl m)(h1p:1≤p) :
 Mag (cutN m rest p).2.1 (cutN m rest p).1 (M*pw (-((bl m-p:Nat):Int)))∧((cutN m rest p).1=true→2^(p-1)≤(cutN m rest p).2.1)∧bl (cutN m rest p).2.1≤p:=by
 obtain ⟨n,hn⟩:∃ n,bl m-p=n:=⟨_,rfl⟩;simp only [cutN,hn];have hbl:bl (m/2^n)≤p:=by rw [bl_div];omega
 have hbig:0<n→2^(p-1)≤m/2^n:=by
  intro hp;have hm:m≠0:=by rintro rfl;simp [bl] at hn;omega
  have h1:=two_bl_le m hm;rw [Nat.le_div_iff_mul_le (Nat.two_pow_pos n),←Nat.pow_add];refine Nat.le_trans (Nat.pow_le_pow_right (by decide) ?_) h1;omega
 by_cases hp:0<n
 ·have hm : m ≠ 0 := by rintro rfl; simp [bl] at hn; omega
  have hd:decide (0<n)=true:=by simp [hp]
  rw [hd,Bool.true_and];obtain ⟨d1,d2⟩:=div_pw m n;have e1:=pw_neg (n:Int);rw [pw_nat] at e1;have e2:=pw_pos (-(n:Int));have e3:0<((2^n:Nat):Rat):=by rw [←pw_nat];exact pw_pos _
  refine ⟨?_,fun _=>hbig hp,hbl⟩
  by_cases hr:(rest||decide (tz m<n))=true
  ·rw [hr];simp only [Mag,if_true];have hstrict:((m/2^n:Nat):Rat)*((2^n:Nat):Rat)<M∧M<(((m/2^n:Nat):Rat)+1)*((2^n:Nat):Rat):=by
    cases rest
    ·simp only [Mag, Bool.false_eq_true, if_false] at h;simp only [Bool.false_or,decide_eq_true_eq] at hr;have hz:=(tz_lt_iff m n hm).1 hr;subst h;refine ⟨?_,d2⟩;rw [←Rat.natCast_mul,nat_cast_lt];have h1:=Nat.div_add_mod m (2^n);rw [Nat.mul_comm] at h1;omega
    ·simp only [Mag, if_true] at h;refine ⟨by grind,?_⟩;have:(((m/2^n:Nat):Rat)+1)*((2^n:Nat):Rat)=(((m/2^n+1)*2^n:Nat):Rat):=by
      rw [Rat.natCast_mul,Rat.natCast_add];rfl
     rw [this] at d2 ⊢;have d3:=nat_cast_lt.1 d2;have d4:((m+1:Nat):Rat)≤(((m/2^n+1)*2^n:Nat):Rat):=nat_cast_le.2 d3;rw [Rat.natCast_add] at d4;have:((1:Nat):Rat)=1:=rfl
     grind
   generalize ((m/2^n:Nat):Rat)=A at *;generalize ((2^n:Nat):Rat)=B at *;generalize pw (-(n:Int))=C at *;obtain ⟨s1,s2⟩:=hstrict;have t1:=(Rat.mul_lt_mul_right e2).2 s1;have t2:=(Rat.mul_lt_mul_right e2).2 s2;rw [Rat.mul_assoc,e1,Rat.mul_one] at t1 t2;exact ⟨t1,t2⟩
  ·have hr' : (rest || decide (tz m < n)) = false := by simpa using hr
   rw [hr'];simp only [Bool.or_eq_false_iff,decide_eq_false_iff_not] at hr';obtain ⟨r1,r2⟩:=hr';subst r1;simp only [Mag,Bool.false_eq_true,if_false] at h ⊢;have hz:m%2^n=0:=by
    by_cases hz:m%2^n=0
    ·exact hz
    ·exact absurd ((tz_lt_iff m n hm).2 hz) r2
   have h1:=Nat.div_add_mod m (2^n);rw [hz,Nat.add_zero,Nat.mul_comm] at h1;have h2:((m/2^n:Nat):Rat)*((2^n:Nat):Rat)=m:=by rw [←Rat.natCast_mul,h1]
   subst h;rw [←h2,Rat.mul_assoc,e1,Rat.mul_one]
 ·have hn0 : n = 0 := by omega
  subst hn0;have hr:rest=false:=by
   cases rest
   ·rfl
   ·have:=h0 rfl;omega
  subst hr;have e:pw (-((0:Nat):Int))=1:=pw_zero;refine ⟨?_,fun h=>?_,hbl⟩
  ·rw [e, Rat.mul_one]
   simpa [Mag] using h
  ·simp at h
def cutM (m:Nat) (rest:Bool) (p:Nat) (away:Bool):Nat:=if (cutN m rest p).1&&away then (cutN m rest p).2.1+1 else (cutN m rest p).2.1
theorem fits_nat {p m:Nat}(h:bl m≤p):Fits p (m:Rat):=⟨false,m,0,h,by simp [sq,pw_zero]⟩
theorem fits_succ {p m:Nat}(h:bl m≤p)(hp:1≤p):Fits p ((m:Rat)+1):=by
 have e:(m:Rat)+1=((m+1:Nat):Rat):=by rw [Rat.natCast_add];rfl
 rw [e]
 by_cases hb:bl (m+1)≤p
 ·exact fits_nat hb
 ·have h1 := lt_two_bl m;have h2:2^bl m≤2^p:=Nat.pow_le_pow_right (by decide) h;have h3:m+1=2^p:=by
   by_cases h4:m+1<2^p
   ·exact absurd (bl_le _ _ h4) hb
   ·omega
  rw [h3];refine ⟨false,1,p,?_,?_⟩
  ·have : bl 1 = 1 := by decide
   omega
  ·rw [pw_nat]; simp only [sq, Bool.false_eq_true, if_false];exact (Rat.one_mul _).symm
theorem cutM_down {m:Nat}{rest:Bool}{p:Nat}{M:Rat}(h:Mag m rest M)(h0:rest=true→p<bl m)(hp:1≤p) :
 IsDown p M ((cutM m rest p false:Rat)*pw ((bl m-p:Nat):Int)):=by
 obtain ⟨hm,hb,hl⟩:=cutN_mag h h0 hp;have e1:=pw_neg (((bl m-p:Nat):Int));have key:IsDown p (M*pw (-((bl m-p:Nat):Int))) (cutM m rest p false:Rat):=by
  unfold cutM;rw [Bool.and_false];simp only [Bool.false_eq_true,if_false];generalize (cutN m rest p).2.1=m' at *;generalize (cutN m rest p).1=r' at *;generalize M*pw (-((bl m-p:Nat):Int))=x at *;cases r'
  ·simp only [Mag, Bool.false_eq_true, if_false] at hm;subst hm;exact .of_fits (fits_nat hl)
  ·simp only [Mag, if_true] at hm;exact ⟨fits_nat hl,by grind,fun y hy hx=>fits_le_floor (hb rfl) hp hm.2 hy hx⟩
 have:=key.pw ((bl m-p:Nat):Int);rw [Rat.mul_assoc,Rat.mul_comm (pw _),e1,Rat.mul_one] at this;exact this
theorem cutM_up {m:Nat}{rest:Bool}{p:Nat}{M:Rat}(h:Mag m rest M)(h0:rest=true→p<bl m)(hp:1≤p) :
 IsUp p M ((cutM m rest p true:Rat)*pw ((bl m-p:Nat):Int)):=by
 obtain ⟨hm,hb,hl⟩:=cutN_mag h h0 hp;have e1:=pw_neg (((bl m-p:Nat):Int));have key:IsUp p (M*pw (-((bl m-p:Nat):Int))) (cutM m rest p true:Rat):=by
  unfold cutM;rw [Bool.and_true];generalize (cutN m rest p).2.1=m' at *;generalize (cutN m rest p).1=r' at *;generalize M*pw (-((bl m-p:Nat):Int))=x at *;cases r'
  ·simp only [Mag, Bool.false_eq_true, if_false] at hm ⊢;subst hm;exact .of_fits (fits_nat hl)
  ·simp only [Mag, if_true] at hm ⊢;have e:((m'+1:Nat):Rat)=(m':Rat)+1:=by rw [Rat.natCast_add];rfl
   rw [e];exact ⟨fits_succ hl hp,by grind,fun y hy hx=>fits_ge_ceil (hb rfl) hp hm.1 hy hx⟩
 have:=key.pw ((bl m-p:Nat):Int);rw [Rat.mul_assoc,Rat.mul_comm (pw _),e1,Rat.mul_one] at this;exact this
def cutD (neg:Bool) (m:Nat) (e:Int) (rest:Bool) (p:Nat) (up:Bool):Outc Dy :=
 fitD neg (cutM m rest p (up != neg)) (e+((bl m-p:Nat):Int))
theorem fitD_q {neg:Bool}{n:Nat}{e:Int}(h:(fitD neg n e).k=0):(fitD neg n e).v.q=sq neg n*pw e:=by
 unfold fitD at *
 by_cases h0:n=0
 ·rw [if_pos h0]; subst h0;rw [sq_zero,Rat.zero_mul];exact dz_q
 ·rw [if_neg h0] at h ⊢
  by_cases h1:64<(limbs (n/2^tz n)).length
  ·rw [if_pos h1] at h;exact absurd h (by decide)
  ·rw [if_neg h1] at h ⊢
   by_cases h2:1048576<e∨e < -1048576-tz n
   ·rw [if_pos h2] at h;exact absurd h (by decide)
   ·rw [if_neg h2] at h ⊢
    by_cases h3:1048576<e+tz n
    ·rw [if_pos h3] at h;exact absurd h (by decide)
    ·rw [if_neg h3];simp only [good,Dy.q];rw [Int.add_comm,pw_add,pw_nat,←Rat.mul_assoc]
     congr 1
     have:=tz_mul n h0;unfold sq;cases neg
     ·simp only [Bool.false_eq_true, if_false];rw [←Rat.natCast_mul,this]
     ·simp only [if_true];rw [Rat.neg_mul,←Rat.natCast_mul,this]
theorem cutD_dir {neg:Bool}{m:Nat}{e:Int}{rest:Bool}{p:Nat}{up:Bool}{M:Rat}(h:Mag m rest M)(h0:rest=true→p<bl m)(hp:1≤p)
 (hk:(cutD neg m e rest p up).k=0):IsDir up p ((if neg then -M else M)*pw e) (cutD neg m e rest p up).v.q:=by
 unfold cutD at *;rw [fitD_q hk,Int.add_comm,pw_add,←Rat.mul_assoc];unfold IsDir;cases neg<;>cases up
 ·exact ((cutM_down h h0 hp).pw e)
 ·exact ((cutM_up h h0 hp).pw e)
 ·have e1 : (false != true) = true := rfl;have:=((cutM_up h h0 hp).neg).pw e
  simpa only [e1,Bool.false_eq_true,if_false,if_true,sq,Rat.neg_mul] using this
 ·have e1 : (true != true) = false := rfl;have:=((cutM_down h h0 hp).neg).pw e
  simpa only [e1,Bool.false_eq_true,if_false,if_true,sq,Rat.neg_mul] using this
end Go.Proofs.YtabjjdicffcolaaGreatDoor
namespace Go.Proofs.YtabjjdicffcolaaGreatDoor.Dg
def val:List Nat→Nat
 | []=>0
 | x::xs=>x+65536*val xs
def Small (xs:List Nat):Prop:=∀ x∈xs,x<65536
def limbs (n:Nat):List Nat:=if _h:n=0 then [] else (n%65536)::limbs (n/65536)
termination_by n
decreasing_by exact Nat.div_lt_self (by omega) (by decide)
theorem limbs_zero:limbs 0=[]:=by rw [limbs];simp
theorem limbs_pos (n:Nat)(h:n≠0):limbs n=(n%65536)::limbs (n/65536):=by rw [limbs];simp [h]
theorem val_limbs (n:Nat):val (limbs n)=n:=by
 induction n using Nat.strongRecOn with
 | _ n ih =>
   by_cases h:n=0
   ·subst h;rw [limbs_zero];rfl
   ·rw [limbs_pos n h, val, ih (n / 65536) (Nat.div_lt_self (by omega) (by decide))];exact Nat.mod_add_div n 65536
theorem small_limbs (n:Nat):Small (limbs n):=by
 induction n using Nat.strongRecOn with
 | _ n ih =>
   by_cases h:n=0
   ·subst h;rw [limbs_zero];intro x hx;cases hx
   ·rw [limbs_pos n h];intro x hx
    rcases List.mem_cons.1 hx with rfl | hx
    ·exact Nat.mod_lt _ (by decide)
    ·exact ih (n/65536) (Nat.div_lt_self (by omega) (by decide)) x hx
def trimN (xs:List Nat):Nat→Nat
 | 0=>0
 | k+1=>if nth xs k=0 then trimN xs k else k+1
def tl (xs:List Nat):Nat:=trimN xs xs.length
theorem trimN_le (xs:List Nat):∀ k,trimN xs k≤k
 | 0=>Nat.le_refl _
 | k + 1 => by
   unfold trimN;split
   ·exact Nat.le_succ_of_le (trimN_le xs k)
   ·exact Nat.le_refl _
theorem tl_le (xs:List Nat):tl xs≤xs.length:=trimN_le xs _
theorem nth_lt {xs:List Nat}(h:Small xs)(i:Nat):nth xs i<65536:=by
 unfold nth
 by_cases hi:i<xs.length
 ·rw [List.getD_eq_getElem?_getD,List.getElem?_eq_getElem hi];exact h _ (List.getElem_mem hi)
 ·rw [List.getD_eq_getElem?_getD,List.getElem?_eq_none (by omega)];decide
theorem trimN_cons (x:Nat)(xs:List Nat):∀ k,trimN (x::xs) (k+1)=if trimN xs k=0 then (if x=0 then 0 else 1) else trimN xs k+1
 | 0=>by simp [trimN,nth]
 | k + 1 => by
   rw [trimN,nth_cons_succ,trimN_cons x xs k,trimN]
   by_cases h:nth xs k=0
   ·simp [h]
   ·simp [h]
theorem take_tl (xs:List Nat)(h:Small xs):xs.take (tl xs)=limbs (val xs):=by
 induction xs with
 | nil=>simp [tl,trimN,val,limbs_zero]
 | cons x xs ih =>
   have hx:x<65536:=h x (List.mem_cons_self);have hs:Small xs:=fun y hy=>h y (List.mem_cons_of_mem _ hy)
   have ih':=ih hs;have ht:tl (x::xs)=if tl xs=0 then (if x=0 then 0 else 1) else tl xs+1:=trimN_cons x xs xs.length
   have hv:tl xs=0↔val xs=0:=by
    constructor
    ·intro h0;rw [h0] at ih';have:=val_limbs (val xs);rw [←ih'] at this
     simpa [val] using this.symm
    ·intro h0;rw [h0,limbs_zero] at ih';have h1:=congrArg List.length ih';have h2:=tl_le xs;rw [List.length_take,List.length_nil] at h1;omega
   by_cases h0:val xs=0
   ·rw [ht, if_pos (hv.2 h0)]
    by_cases hx0:x=0
    ·simp [hx0,val,h0,limbs_zero]
    ·rw [if_neg hx0, val, h0];have e1:(x+65536*0)%65536=x:=by omega
     have e2:(x+65536*0)/65536=0:=by omega
     rw [limbs_pos _ (by omega),e1,e2,limbs_zero]
     simp
   ·rw [ht, if_neg (fun h => h0 (hv.1 h)), List.take_succ_cons, ih', val];rw [limbs_pos (x+65536*val xs) (by omega)];have e1:(x+65536*val xs)%65536=x:=by omega
    have e2:(x+65536*val xs)/65536=val xs:=by omega
    rw [e1,e2]
theorem length_limbs (n : Nat) : (limbs n).length = if n = 0 then 0 else Nat.log2 n / 16 + 1 := by
 induction n using Nat.strongRecOn with
 | _ n ih =>
   by_cases h:n=0
   ·subst h;simp [limbs_zero]
   ·rw [limbs_pos n h, List.length_cons, ih (n / 65536) (Nat.div_lt_self (by omega) (by decide)), if_neg h]
    by_cases h1:n/65536=0
    ·rw [if_pos h1];have:Nat.log2 n<16:=(Nat.log2_lt h).2 (by omega);omega
    ·rw [if_neg h1];have key:Nat.log2 n=Nat.log2 (n/65536)+16:=by
      have a1:=Nat.log2_self_le h1;have a2:=Nat.lt_log2_self (n:=n/65536);have b1:2^(Nat.log2 (n/65536)+16)≤n:=by
       rw [Nat.pow_add]
       calc 2^Nat.log2 (n/65536)*2^16≤(n/65536)*2^16:=Nat.mul_le_mul_right _ a1
        _≤n:=Nat.div_mul_le_self n 65536
      have b2:n<2^(Nat.log2 (n/65536)+16+1):=by
       have:n<(n/65536+1)*65536:=by
        have:=Nat.lt_mul_div_succ n (show 0<65536 by decide);rw [Nat.mul_comm] at this;exact this
       calc n<(n/65536+1)*65536:=this
        _≤2^(Nat.log2 (n/65536)+1)*65536:=Nat.mul_le_mul_right _ a2
        _=2^(Nat.log2 (n/65536)+16+1):=by rw [show Nat.log2 (n/65536)+16+1=(Nat.log2 (n/65536)+1)+16 by omega,Nat.pow_add _ _ 16]
      have c1:=(Nat.le_log2 h).2 b1;have c2:=(Nat.log2_lt h).2 b2;omega
     rw [key];omega
def cmpTop (xs ys:List Nat):Nat→Int
 | 0=>0
 | k+1=>if nth xs k=nth ys k then cmpTop xs ys k else if nth xs k<nth ys k then -1 else 1
theorem val_append (xs ys:List Nat):val (xs++ys)=val xs+65536^xs.length*val ys:=by
 induction xs with
 | nil=>simp [val]
 | cons x xs ih =>
   rw [List.cons_append,val,ih,val,List.length_cons,Nat.pow_succ];generalize 65536^xs.length=p;rw [Nat.mul_add,Nat.add_assoc]
   congr 2
   rw [←Nat.mul_assoc,Nat.mul_comm p]
theorem val_lt (xs:List Nat)(h:Small xs):val xs<65536^xs.length:=by
 induction xs with
 | nil=>simp [val]
 | cons x xs ih =>
   have hx:x<65536:=h x (List.mem_cons_self);have:=ih (fun y hy=>h y (List.mem_cons_of_mem _ hy));rw [val,List.length_cons,Nat.pow_succ];generalize 65536^xs.length=p at *;omega
theorem small_take {xs:List Nat}(h:Small xs)(k:Nat):Small (xs.take k):=fun x hx=>h x (List.mem_of_mem_take hx)
theorem small_drop {xs:List Nat}(h:Small xs)(k:Nat):Small (xs.drop k):=fun x hx=>h x (List.mem_of_mem_drop hx)
theorem val_take_succ (xs:List Nat)(k:Nat)(h:k<xs.length):val (xs.take (k+1))=val (xs.take k)+65536^k*nth xs k:=by
 rw [take_succ_nth xs k h,val_append,List.length_take,Nat.min_eq_left (by omega)]
 simp [val]
theorem cmpTop_val (xs ys:List Nat)(hx:Small xs)(hy:Small ys):∀ k,k≤xs.length→k≤ys.length→cmpTop xs ys k=cmpN (val (xs.take k)) (val (ys.take k))
 | 0,_,_=>by simp [cmpTop,cmpN]
 | k + 1, h1, h2 => by
   have ih:=cmpTop_val xs ys hx hy k (by omega) (by omega);rw [cmpTop,val_take_succ xs k (by omega),val_take_succ ys k (by omega),ih];have a:=val_lt _ (small_take hx k);have b:=val_lt _ (small_take hy k);rw [List.length_take,Nat.min_eq_left (by omega)] at a b;generalize 65536^k=p at *;generalize val (xs.take k)=u at *;generalize val (ys.take k)=v at *;generalize nth xs k=x;generalize nth ys k=y
   by_cases e:x=y
   ·subst e;rw [if_pos rfl];unfold cmpN;simp only [Nat.add_lt_add_iff_right,Nat.add_right_cancel_iff]
   ·rw [if_neg e]
    by_cases l:x<y
    ·rw [if_pos l];have:p*(x+1)≤p*y:=Nat.mul_le_mul_left _ l;rw [Nat.mul_add] at this;unfold cmpN;rw [if_pos (by omega)]
    ·rw [if_neg l];have:p*(y+1)≤p*x:=Nat.mul_le_mul_left _ (by omega);rw [Nat.mul_add] at this;unfold cmpN;rw [if_neg (by omega),if_neg (by omega)]
theorem lt_pow_length (n:Nat):n<65536^(limbs n).length:=by
 have:=val_lt _ (small_limbs n)
 rwa [val_limbs] at this
theorem pow_length_le (n:Nat)(h:n≠0):65536^((limbs n).length-1)≤n:=by
 induction n using Nat.strongRecOn with
 | _ n ih =>
   rw [limbs_pos n h,List.length_cons,Nat.add_sub_cancel]
   by_cases h1:n/65536=0
   ·rw [h1,limbs_zero];simp;omega
   ·have := ih _ (Nat.div_lt_self (by omega) (by decide)) h1;have hl:0<(limbs (n/65536)).length:=by rw [limbs_pos _ h1];simp
    obtain ⟨l,hl⟩:∃ l,(limbs (n/65536)).length=l+1:=⟨_,(Nat.succ_pred_eq_of_pos hl).symm⟩;rw [hl] at this ⊢;rw [Nat.add_sub_cancel] at this;rw [Nat.pow_succ];generalize 65536^l=p at *;omega
theorem cmpN_length (n m:Nat)(h:(limbs n).length<(limbs m).length):n<m:=by
 have a:=lt_pow_length n;have hm:m≠0:=by rintro rfl;rw [limbs_zero] at h;simp at h
 have b:=pow_length_le m hm;have c:65536^(limbs n).length≤65536^((limbs m).length-1):=Nat.pow_le_pow_right (by decide) (by omega);omega
theorem cmpTop_limbs (n m:Nat)(h:(limbs n).length=(limbs m).length):cmpTop (limbs n) (limbs m) (limbs n).length=cmpN n m:=by
 rw [cmpTop_val _ _ (small_limbs n) (small_limbs m) _ (Nat.le_refl _) (by omega),List.take_of_length_le (Nat.le_refl _),List.take_of_length_le (by omega),val_limbs,val_limbs]
theorem limbs_last (n:Nat)(h:n≠0):nth (limbs n) ((limbs n).length-1)≠0:=by
 induction n using Nat.strongRecOn with
 | _ n ih =>
   rw [limbs_pos n h,List.length_cons,Nat.add_sub_cancel]
   by_cases h1:n/65536=0
   ·rw [h1,limbs_zero];simp [nth];omega
   ·have hl : 0 < (limbs (n / 65536)).length := by rw [limbs_pos _ h1]; simp
    have:=ih _ (Nat.div_lt_self (by omega) (by decide)) h1;obtain ⟨l,hl⟩:∃ l,(limbs (n/65536)).length=l+1:=⟨_,(Nat.succ_pred_eq_of_pos hl).symm⟩;rw [hl] at this ⊢;rw [nth_cons_succ];exact this
theorem length_limbs_pos (n:Nat)(h:n≠0):0<(limbs n).length:=by rw [limbs_pos n h];simp
theorem bl_top (n : Nat) (h : n ≠ 0) : bl n = 16 * ((limbs n).length - 1) + bl (nth (limbs n) ((limbs n).length - 1)) := by
 induction n using Nat.strongRecOn with
 | _ n ih =>
   rw [limbs_pos n h,List.length_cons,Nat.add_sub_cancel]
   by_cases h1:n/65536=0
   ·rw [h1, limbs_zero];have:n%65536=n:=by omega
    simp [nth,this]
   ·have hl : 0 < (limbs (n / 65536)).length := by rw [limbs_pos _ h1]; simp
    have IH:=ih _ (Nat.div_lt_self (by omega) (by decide)) h1;obtain ⟨l,hl⟩:∃ l,(limbs (n/65536)).length=l+1:=⟨_,(Nat.succ_pred_eq_of_pos hl).symm⟩;rw [hl,Nat.add_sub_cancel] at IH;rw [hl,nth_cons_succ];have key:bl n=bl (n/65536)+16:=by
     obtain ⟨q,hq⟩:∃ q,bl (n/65536)=q+1:=⟨bl (n/65536)-1,by have:=bl_pos _ h1;omega⟩;have a:=two_bl_le _ h1;have b:=lt_two_bl (n/65536);rw [hq] at a b ⊢;rw [Nat.add_sub_cancel] at a
     have := bl_eq n (q + 16) (by rw [Nat.pow_add]; have : (2:Nat) ^ 16 = 65536 := by decide
                                  rw [this]; omega) (by rw [show q + 16 + 1 = (q + 1) + 16 by omega, Nat.pow_add]; have : (2:Nat) ^ 16 = 65536 := by decide
                                                        rw [this];omega)
     omega
    omega
end Go.Proofs.YtabjjdicffcolaaGreatDoor.Dg
