/- Plain mathematics, no program: the number that a Dyad is; its order; numbers of at most p bits; directed rounding. -/
set_option maxRecDepth 100000
set_option maxHeartbeats 16000000
namespace Go.Proofs.YtabjjdicffcolaaGreatDoor
def nth (xs:List Nat) (i:Nat):Nat:=xs.getD i 0
def val:List Nat→Nat
 | []=>0
 | x::xs=>x+18446744073709551616*val xs
def Small (xs:List Nat):Prop:=∀ x∈xs,x<18446744073709551616
def limbs (n:Nat):List Nat:=if _h:n=0 then [] else (n%18446744073709551616)::limbs (n/18446744073709551616)
termination_by n
decreasing_by exact Nat.div_lt_self (by omega) (by decide)
theorem limbs_zero:limbs 0=[]:=by rw [limbs];simp
theorem limbs_pos (n:Nat)(h:n≠0):limbs n=(n%18446744073709551616)::limbs (n/18446744073709551616):=by rw [limbs];simp [h]
theorem val_limbs (n:Nat):val (limbs n)=n:=by
 induction n using Nat.strongRecOn with
 | _ n ih =>
   by_cases h:n=0
   ·subst h;rw [limbs_zero];rfl
   ·rw [limbs_pos n h, val, ih (n / 18446744073709551616) (Nat.div_lt_self (by omega) (by decide))]
    exact Nat.mod_add_div n 18446744073709551616
theorem small_limbs (n:Nat):Small (limbs n):=by
 induction n using Nat.strongRecOn with
 | _ n ih =>
   by_cases h:n=0
   ·subst h;rw [limbs_zero];intro x hx;cases hx
   ·rw [limbs_pos n h]
    intro x hx
    rcases List.mem_cons.1 hx with rfl | hx
    ·exact Nat.mod_lt _ (by decide)
    ·exact ih (n/18446744073709551616) (Nat.div_lt_self (by omega) (by decide)) x hx
def trimN (xs:List Nat):Nat→Nat
 | 0=>0
 | k+1=>if nth xs k=0 then trimN xs k else k+1
def tl (xs:List Nat):Nat:=trimN xs xs.length
theorem trimN_le (xs:List Nat):∀ k,trimN xs k≤k
 | 0=>Nat.le_refl _
 | k + 1 => by
   unfold trimN;split
   ·exact Nat.le_succ_of_le (trimN_le xs k)
   ·exact Nat.le_refl _
theorem tl_le (xs:List Nat):tl xs≤xs.length:=trimN_le xs _
theorem nth_cons_succ (x:Nat)(xs:List Nat)(i:Nat):nth (x::xs) (i+1)=nth xs i:=rfl
theorem nth_lt {xs:List Nat}(h:Small xs)(i:Nat):nth xs i<18446744073709551616:=by
 unfold nth
 by_cases hi:i<xs.length
 ·rw [List.getD_eq_getElem?_getD,List.getElem?_eq_getElem hi];exact h _ (List.getElem_mem hi)
 ·rw [List.getD_eq_getElem?_getD,List.getElem?_eq_none (by omega)];decide
theorem trimN_cons (x:Nat)(xs:List Nat):∀ k,trimN (x::xs) (k+1)=if trimN xs k=0 then (if x=0 then 0 else 1) else trimN xs k+1
 | 0=>by simp [trimN,nth]
 | k + 1 => by
   rw [trimN,nth_cons_succ,trimN_cons x xs k,trimN]
   by_cases h:nth xs k=0
   ·simp [h]
   ·simp [h]
theorem take_tl (xs:List Nat)(h:Small xs):xs.take (tl xs)=limbs (val xs):=by
 induction xs with
 | nil=>simp [tl,trimN,val,limbs_zero]
 | cons x xs ih =>
   have hx:x<18446744073709551616:=h x (List.mem_cons_self)
   have hs:Small xs:=fun y hy=>h y (List.mem_cons_of_mem _ hy)
   have ih':=ih hs
   have ht:tl (x::xs)=if tl xs=0 then (if x=0 then 0 else 1) else tl xs+1:=trimN_cons x xs xs.length
   have hv:tl xs=0↔val xs=0:=by
    constructor
    ·intro h0
     rw [h0] at ih'
     have:=val_limbs (val xs)
     rw [←ih'] at this
     simpa [val] using this.symm
    ·intro h0
     rw [h0,limbs_zero] at ih'
     have h1:=congrArg List.length ih'
     have h2:=tl_le xs
     rw [List.length_take,List.length_nil] at h1
     omega
   by_cases h0:val xs=0
   ·rw [ht, if_pos (hv.2 h0)]
    by_cases hx0:x=0
    ·simp [hx0,val,h0,limbs_zero]
    ·rw [if_neg hx0, val, h0]
     have e1:(x+18446744073709551616*0)%18446744073709551616=x:=by omega
     have e2:(x+18446744073709551616*0)/18446744073709551616=0:=by omega
     rw [limbs_pos _ (by omega),e1,e2,limbs_zero]
     simp
   ·rw [ht, if_neg (fun h => h0 (hv.1 h)), List.take_succ_cons, ih', val]
    rw [limbs_pos (x+18446744073709551616*val xs) (by omega)]
    have e1:(x+18446744073709551616*val xs)%18446744073709551616=x:=by omega
    have e2:(x+18446744073709551616*val xs)/18446744073709551616=val xs:=by omega
    rw [e1,e2]
def mayN (xs:List Nat):Bool:=xs.length==0||(decide (xs.length≤64)&&nth xs (xs.length-1) != 0)
def cmpN (n m:Nat):Int:=if n<m then -1 else if n=m then 0 else 1
def cmpTop (xs ys:List Nat):Nat→Int
 | 0=>0
 | k+1=>if nth xs k=nth ys k then cmpTop xs ys k else if nth xs k<nth ys k then -1 else 1
theorem val_append (xs ys:List Nat):val (xs++ys)=val xs+18446744073709551616^xs.length*val ys:=by
 induction xs with
 | nil=>simp [val]
 | cons x xs ih =>
   rw [List.cons_append,val,ih,val,List.length_cons,Nat.pow_succ]
   generalize 18446744073709551616^xs.length=p
   rw [Nat.mul_add,Nat.add_assoc]
   congr 2
   rw [←Nat.mul_assoc,Nat.mul_comm p]
theorem val_lt (xs:List Nat)(h:Small xs):val xs<18446744073709551616^xs.length:=by
 induction xs with
 | nil=>simp [val]
 | cons x xs ih =>
   have hx:x<18446744073709551616:=h x (List.mem_cons_self)
   have:=ih (fun y hy=>h y (List.mem_cons_of_mem _ hy))
   rw [val,List.length_cons,Nat.pow_succ]
   generalize 18446744073709551616^xs.length=p at *
   omega
theorem small_take {xs:List Nat}(h:Small xs)(k:Nat):Small (xs.take k):=fun x hx=>h x (List.mem_of_mem_take hx)
theorem small_drop {xs:List Nat}(h:Small xs)(k:Nat):Small (xs.drop k):=fun x hx=>h x (List.mem_of_mem_drop hx)
theorem take_succ_nth (xs:List Nat)(k:Nat)(h:k<xs.length):xs.take (k+1)=xs.take k++[nth xs k]:=by
 rw [List.take_succ_eq_append_getElem h,nth,List.getD_eq_getElem?_getD,List.getElem?_eq_getElem h];rfl
theorem val_take_succ (xs:List Nat)(k:Nat)(h:k<xs.length):val (xs.take (k+1))=val (xs.take k)+18446744073709551616^k*nth xs k:=by
 rw [take_succ_nth xs k h,val_append,List.length_take,Nat.min_eq_left (by omega)]
 simp [val]
theorem cmpTop_val (xs ys:List Nat)(hx:Small xs)(hy:Small ys):∀ k,k≤xs.length→k≤ys.length→cmpTop xs ys k=cmpN (val (xs.take k)) (val (ys.take k))
 | 0,_,_=>by simp [cmpTop,cmpN]
 | k + 1, h1, h2 => by
   have ih:=cmpTop_val xs ys hx hy k (by omega) (by omega)
   rw [cmpTop,val_take_succ xs k (by omega),val_take_succ ys k (by omega),ih]
   have a:=val_lt _ (small_take hx k)
   have b:=val_lt _ (small_take hy k)
   rw [List.length_take,Nat.min_eq_left (by omega)] at a b
   generalize 18446744073709551616^k=p at *
   generalize val (xs.take k)=u at *
   generalize val (ys.take k)=v at *
   generalize nth xs k=x
   generalize nth ys k=y
   by_cases e:x=y
   ·subst e
    rw [if_pos rfl]
    unfold cmpN
    simp only [Nat.add_lt_add_iff_right,Nat.add_right_cancel_iff]
   ·rw [if_neg e]
    by_cases l:x<y
    ·rw [if_pos l]
     have:p*(x+1)≤p*y:=Nat.mul_le_mul_left _ l
     rw [Nat.mul_add] at this
     unfold cmpN
     rw [if_pos (by omega)]
    ·rw [if_neg l]
     have:p*(y+1)≤p*x:=Nat.mul_le_mul_left _ (by omega)
     rw [Nat.mul_add] at this
     unfold cmpN
     rw [if_neg (by omega),if_neg (by omega)]
theorem lt_pow_length (n:Nat):n<18446744073709551616^(limbs n).length:=by
 have:=val_lt _ (small_limbs n)
 rwa [val_limbs] at this
theorem pow_length_le (n:Nat)(h:n≠0):18446744073709551616^((limbs n).length-1)≤n:=by
 induction n using Nat.strongRecOn with
 | _ n ih =>
   rw [limbs_pos n h,List.length_cons,Nat.add_sub_cancel]
   by_cases h1:n/18446744073709551616=0
   ·rw [h1,limbs_zero];simp;omega
   ·have := ih _ (Nat.div_lt_self (by omega) (by decide)) h1
    have hl:0<(limbs (n/18446744073709551616)).length:=by rw [limbs_pos _ h1];simp
    obtain ⟨l,hl⟩:∃ l,(limbs (n/18446744073709551616)).length=l+1:=⟨_,(Nat.succ_pred_eq_of_pos hl).symm⟩
    rw [hl] at this ⊢
    rw [Nat.add_sub_cancel] at this
    rw [Nat.pow_succ]
    generalize 18446744073709551616^l=p at *
    omega
theorem cmpN_length (n m:Nat)(h:(limbs n).length<(limbs m).length):n<m:=by
 have a:=lt_pow_length n
 have hm:m≠0:=by rintro rfl;rw [limbs_zero] at h;simp at h
 have b:=pow_length_le m hm
 have c:18446744073709551616^(limbs n).length≤18446744073709551616^((limbs m).length-1):=Nat.pow_le_pow_right (by decide) (by omega)
 omega
theorem cmpTop_limbs (n m:Nat)(h:(limbs n).length=(limbs m).length):cmpTop (limbs n) (limbs m) (limbs n).length=cmpN n m:=by
 rw [cmpTop_val _ _ (small_limbs n) (small_limbs m) _ (Nat.le_refl _) (by omega),List.take_of_length_le (Nat.le_refl _),List.take_of_length_le (by omega),val_limbs,val_limbs]
theorem limbs_last (n:Nat)(h:n≠0):nth (limbs n) ((limbs n).length-1)≠0:=by
 induction n using Nat.strongRecOn with
 | _ n ih =>
   rw [limbs_pos n h,List.length_cons,Nat.add_sub_cancel]
   by_cases h1:n/18446744073709551616=0
   ·rw [h1,limbs_zero];simp [nth];omega
   ·have hl : 0 < (limbs (n / 18446744073709551616)).length := by rw [limbs_pos _ h1]; simp
    have:=ih _ (Nat.div_lt_self (by omega) (by decide)) h1
    obtain ⟨l,hl⟩:∃ l,(limbs (n/18446744073709551616)).length=l+1:=⟨_,(Nat.succ_pred_eq_of_pos hl).symm⟩
    rw [hl] at this ⊢
    rw [nth_cons_succ];exact this
theorem length_limbs_pos (n:Nat)(h:n≠0):0<(limbs n).length:=by rw [limbs_pos n h];simp
def bl (n:Nat):Nat:=if n=0 then 0 else Nat.log2 n+1
theorem bl_zero:bl 0=0:=rfl
theorem lt_two_bl (n:Nat):n<2^bl n:=by
 unfold bl;split
 ·omega
 ·exact Nat.lt_log2_self
theorem two_bl_le (n:Nat)(h:n≠0):2^(bl n-1)≤n:=by
 unfold bl;rw [if_neg h,Nat.add_sub_cancel];exact Nat.log2_self_le h
theorem bl_pos (n:Nat)(h:n≠0):0<bl n:=by unfold bl;rw [if_neg h];omega
theorem bl_le (n k:Nat)(h:n<2^k):bl n≤k:=by
 by_cases h0:n=0
 ·subst h0;exact Nat.zero_le _
 ·have := two_bl_le n h0
  have p:=bl_pos n h0
  by_cases hk:bl n≤k
  ·exact hk
  ·have : 2 ^ k ≤ 2 ^ (bl n - 1) := Nat.pow_le_pow_right (by decide) (by omega)
   omega
theorem lt_bl (n k:Nat)(h:2^k≤n):k<bl n:=by
 by_cases hk:k<bl n
 ·exact hk
 ·have : 2 ^ bl n ≤ 2 ^ k := Nat.pow_le_pow_right (by decide) (by omega)
  have:=lt_two_bl n
  omega
theorem bl_eq (n k:Nat)(h1:2^k≤n)(h2:n<2^(k+1)):bl n=k+1:=by
 have:=bl_le n _ h2
 have:=lt_bl n _ h1
 omega
theorem bl_le64 (n:Nat)(h:n<18446744073709551616):bl n≤64:=bl_le n 64 h
theorem bl_mono {n m:Nat}(h:n≤m):bl n≤bl m:=bl_le n _ (Nat.lt_of_le_of_lt h (lt_two_bl m))
theorem bl_mul_pow (n k:Nat)(h:n≠0):bl (n*2^k)=bl n+k:=by
 obtain ⟨l,hl⟩:∃ l,bl n=l+1:=⟨bl n-1,by have:=bl_pos n h;omega⟩
 have a:=two_bl_le n h
 have b:=lt_two_bl n
 rw [hl] at a b ⊢
 rw [Nat.add_sub_cancel] at a
 have:=bl_eq (n*2^k) (l+k) (by rw [Nat.pow_add];exact Nat.mul_le_mul_right _ a) (by rw [show l+k+1=(l+1)+k by omega,Nat.pow_add];exact Nat.mul_lt_mul_of_pos_right b (Nat.pow_pos (by decide)))
 omega
theorem bl_top (n : Nat) (h : n ≠ 0) : bl n = 64 * ((limbs n).length - 1) + bl (nth (limbs n) ((limbs n).length - 1)) := by
 induction n using Nat.strongRecOn with
 | _ n ih =>
   rw [limbs_pos n h,List.length_cons,Nat.add_sub_cancel]
   by_cases h1:n/18446744073709551616=0
   ·rw [h1, limbs_zero]
    have:n%18446744073709551616=n:=by omega
    simp [nth,this]
   ·have hl : 0 < (limbs (n / 18446744073709551616)).length := by rw [limbs_pos _ h1]; simp
    have IH:=ih _ (Nat.div_lt_self (by omega) (by decide)) h1
    obtain ⟨l,hl⟩:∃ l,(limbs (n/18446744073709551616)).length=l+1:=⟨_,(Nat.succ_pred_eq_of_pos hl).symm⟩
    rw [hl,Nat.add_sub_cancel] at IH
    rw [hl,nth_cons_succ]
    have key:bl n=bl (n/18446744073709551616)+64:=by
     obtain ⟨q,hq⟩:∃ q,bl (n/18446744073709551616)=q+1:=⟨bl (n/18446744073709551616)-1,by have:=bl_pos _ h1;omega⟩
     have a:=two_bl_le _ h1
     have b:=lt_two_bl (n/18446744073709551616)
     rw [hq] at a b ⊢
     rw [Nat.add_sub_cancel] at a
     have := bl_eq n (q + 64) (by rw [Nat.pow_add]; have : (2:Nat) ^ 64 = 18446744073709551616 := by decide
                                  rw [this]; omega) (by rw [show q + 64 + 1 = (q + 1) + 64 by omega, Nat.pow_add]; have : (2:Nat) ^ 64 = 18446744073709551616 := by decide
                                                        rw [this];omega)
     omega
    omega
def tzF:Nat→Nat→Nat
 | 0,_=>0
 | f+1,n=>if n%2=1 then 0 else tzF f (n/2)+1
def tz (n:Nat):Nat:=tzF (bl n) n
theorem tzF_spec:∀ (f n:Nat),n≠0→n<2^f→2^tzF f n ∣ n∧n/2^tzF f n%2=1
 | 0,n,h,hf=>by simp at hf;omega
 | f + 1, n, h, hf => by
   rw [tzF]
   by_cases e:n%2=1
   ·rw [if_pos e];simp [e]
   ·rw [if_neg e]
    have hh:n/2≠0:=by omega
    obtain ⟨a,b⟩:=tzF_spec f (n/2) hh (by rw [Nat.pow_succ] at hf;omega)
    obtain ⟨q,hq⟩:=a
    refine ⟨⟨q,by rw [Nat.pow_succ,Nat.mul_right_comm,←hq];omega⟩,?_⟩
    rw [Nat.pow_succ,Nat.mul_comm,←Nat.div_div_eq_div_mul]
    exact b
theorem tz_dvd (n:Nat)(h:n≠0):2^tz n ∣ n:=(tzF_spec _ n h (lt_two_bl n)).1
theorem tz_odd (n:Nat)(h:n≠0):n/2^tz n%2=1:=(tzF_spec _ n h (lt_two_bl n)).2
theorem tz_mul (n:Nat)(h:n≠0):n/2^tz n*2^tz n=n:=Nat.div_mul_cancel (tz_dvd n h)
theorem odd_pow_unique {a b x y:Nat}(hx:x%2=1)(hy:y%2=1)(h:x*2^a=y*2^b):a=b∧x=y:=by
 have key:∀ {a b x y:Nat},x%2=1→x*2^a=y*2^b→b≤a:=by
  intro a b x y hx h
  by_cases hab:b≤a
  ·exact hab
  ·obtain ⟨d, rfl⟩ : ∃ d, b = a + (d + 1) := ⟨b - a - 1, by omega⟩
   rw [Nat.pow_add,←Nat.mul_assoc,Nat.mul_right_comm] at h
   have:=Nat.eq_of_mul_eq_mul_right (Nat.pow_pos (by decide)) h
   rw [Nat.pow_succ,←Nat.mul_assoc] at this
   omega
 have e:a=b:=Nat.le_antisymm (key hy h.symm) (key hx h)
 subst e
 exact ⟨rfl,Nat.eq_of_mul_eq_mul_right (Nat.pow_pos (by decide)) h⟩
theorem tz_unique (n k q:Nat)(hq:q%2=1)(h:n=q*2^k):tz n=k:=by
 have hn:n≠0:=by
  rintro rfl
  have:0<q*2^k:=Nat.mul_pos (by omega) (Nat.pow_pos (by decide))
  omega
 exact (odd_pow_unique (tz_odd n hn) hq ((tz_mul n hn).trans h)).1
def tzL:List Nat→Nat
 | []=>0
 | x::xs=>if x=0 then 64+tzL xs else tz x
theorem tzL_limbs (n:Nat)(h:n≠0):tzL (limbs n)=tz n:=by
 induction n using Nat.strongRecOn with
 | _ n ih =>
   rw [limbs_pos n h,tzL]
   have p:(2:Nat)^64=18446744073709551616:=by decide
   by_cases hx:n%18446744073709551616=0
   ·rw [if_pos hx]
    have h1:n/18446744073709551616≠0:=by omega
    rw [ih _ (Nat.div_lt_self (by omega) (by decide)) h1]
    have a:=tz_odd _ h1
    have b:=tz_mul _ h1
    refine (tz_unique n _ _ a ?_).symm
    rw [Nat.add_comm,Nat.pow_add,←Nat.mul_assoc,b,p]
    omega
   ·rw [if_neg hx]
    have a:=tz_odd _ hx
    have b:=tz_mul _ hx
    have c:tz (n%18446744073709551616)<64:=by
     by_cases hc:tz (n%18446744073709551616)<64
     ·exact hc
     ·have d := tz_dvd _ hx
      have:=Nat.le_of_dvd (by omega) d
      have e:2^64≤2^tz (n%18446744073709551616):=Nat.pow_le_pow_right (by decide) (by omega)
      omega
    obtain ⟨d,hd⟩:∃ d,64=tz (n%18446744073709551616)+(d+1):=⟨64-tz (n%18446744073709551616)-1,by omega⟩
    refine (tz_unique n _ (n%18446744073709551616/2^tz (n%18446744073709551616)+2^(d+1)*(n/18446744073709551616)) ?_ ?_).symm
    ·rw [Nat.pow_succ,Nat.mul_comm (2^d) 2,Nat.mul_assoc];omega
    ·rw [Nat.add_mul, b, Nat.mul_right_comm, ← Nat.pow_add, Nat.add_comm (d + 1), ← hd, p]
     omega
theorem drop_nth (xs:List Nat)(k:Nat)(h:k<xs.length):xs.drop k=nth xs k::xs.drop (k+1):=by
 rw [List.drop_eq_getElem_cons h,nth,List.getD_eq_getElem?_getD,List.getElem?_eq_getElem h];rfl
theorem tzL_drop (xs:List Nat)(k:Nat)(h:k<xs.length):tzL (xs.drop k)=if nth xs k=0 then 64+tzL (xs.drop (k+1)) else tz (nth xs k):=by
 rw [drop_nth xs k h,tzL]
theorem tz_lt (n k:Nat)(h:n≠0)(hk:n<2^k):tz n<k:=by
 have:=Nat.le_of_dvd (Nat.pos_of_ne_zero h) (tz_dvd n h)
 exact (Nat.pow_lt_pow_iff_right (by decide)).1 (Nat.lt_of_le_of_lt this hk)
end Go.Proofs.YtabjjdicffcolaaGreatDoor
namespace Go.Proofs.YtabjjdicffcolaaGreatDoor
theorem nth_set (xs:List Nat)(i j y:Nat)(hi:i<xs.length):nth (xs.set i y) j=if i=j then y else nth xs j:=by
 unfold nth
 rw [List.getD_eq_getElem?_getD,List.getD_eq_getElem?_getD,List.getElem?_set]
 by_cases e:i=j
 ·subst e;simp [hi]
 ·simp [e]
theorem nth_ge (xs:List Nat)(i:Nat)(h:xs.length≤i):nth xs i=0:=by
 unfold nth;rw [List.getD_eq_getElem?_getD,List.getElem?_eq_none h];rfl
theorem val_set (xs:List Nat)(i y:Nat)(hi:i<xs.length):val (xs.set i y)+18446744073709551616^i*nth xs i=val xs+18446744073709551616^i*y:=by
 induction xs generalizing i with
 | nil=>simp at hi
 | cons x xs ih =>
   cases i with
   | zero=>simp [val,nth];omega
   | succ i =>
     have:=ih i (by simpa using hi)
     rw [List.set_cons_succ,val,val,nth_cons_succ,Nat.pow_succ]
     generalize 18446744073709551616^i=p at *
     generalize val (xs.set i y)=a at *
     generalize val xs=b at *
     generalize nth xs i=c at *
     have e1:p*18446744073709551616*c=18446744073709551616*(p*c):=by rw [Nat.mul_right_comm,Nat.mul_comm]
     have e2:p*18446744073709551616*y=18446744073709551616*(p*y):=by rw [Nat.mul_right_comm,Nat.mul_comm]
     rw [e1,e2]
     omega
theorem small_set {xs:List Nat}(h:Small xs)(i y:Nat)(hy:y<18446744073709551616):Small (xs.set i y):=by
 intro x hx
 rcases List.mem_or_eq_of_mem_set hx with h' | rfl
 ·exact h x h'
 ·exact hy
theorem small_replicate (n:Nat):Small (List.replicate n 0):=by
 intro x hx
 rw [(List.mem_replicate.1 hx).2];decide
theorem val_replicate (n:Nat):val (List.replicate n 0)=0:=by
 induction n with
 | zero=>rfl
 | succ n ih=>rw [List.replicate_succ,val,ih]
theorem nth_replicate (n i:Nat):nth (List.replicate n 0) i=0:=by
 unfold nth
 rw [List.getD_eq_getElem?_getD,List.getElem?_replicate]
 split<;>rfl
theorem or_lt {a b:Nat}(ha:a<18446744073709551616)(hb:b<18446744073709551616):a ||| b<18446744073709551616:=Nat.or_lt_two_pow (n:=64) ha hb
def leftStep (out:List Nat) (q r i x:Nat):List Nat :=
 (out.set (q+i) (nth out (q+i) ||| (x*2^r%18446744073709551616))).set (q+i+1) (nth out (q+i+1) ||| (x/2/2^(63-r)))
def leftF (xs:List Nat) (q r n:Nat):Nat→List Nat
 | 0=>List.replicate n 0
 | k+1=>leftStep (leftF xs q r n k) q r k (nth xs k)
theorem leftF_length (xs:List Nat)(q r n:Nat):∀ k,(leftF xs q r n k).length=n
 | 0=>by simp [leftF]
 | k+1=>by simp [leftF,leftStep,leftF_length xs q r n k]
theorem leftF_small (xs:List Nat)(h:Small xs)(q r n:Nat):∀ k,Small (leftF xs q r n k)
 | 0=>small_replicate n
 | k + 1 => by
   have ih:=leftF_small xs h q r n k
   unfold leftF leftStep
   refine small_set (small_set ih _ _ (or_lt (nth_lt ih _) (Nat.mod_lt _ (by decide)))) _ _ (or_lt (nth_lt ih _) ?_)
   refine Nat.lt_of_le_of_lt (Nat.div_le_self _ _) (Nat.lt_of_le_of_lt (Nat.div_le_self _ _) (nth_lt h _))
theorem shift_parts (x r:Nat)(hr:r<64):x/2/2^(63-r)=x*2^r/18446744073709551616:=by
 rw [Nat.div_div_eq_div_mul]
 have e:(18446744073709551616:Nat)=2*2^(63-r)*2^r:=by
  rw [Nat.mul_assoc,←Nat.pow_add,show 63-r+r=63 by omega]
 rw [e,Nat.mul_div_mul_right _ _ (Nat.pow_pos (by decide))]
theorem or_carry (c x r:Nat)(hr:r<64)(hc:c<2^r):c ||| (x*2^r%18446744073709551616)=c+x*2^r%18446744073709551616:=by
 have e:(18446744073709551616:Nat)=2^(64-r)*2^r:=by
  rw [←Nat.pow_add,show 64-r+r=64 by omega]
 rw [e,Nat.mul_mod_mul_right,Nat.mul_comm,Nat.or_comm,←Nat.two_pow_add_eq_or_of_lt hc,Nat.add_comm]
theorem leftF_inv (xs:List Nat)(h:Small xs)(q r n:Nat)(hr:r<64)(hn:n=q+xs.length+1):∀ k,k≤xs.length →
 val (leftF xs q r n k)=val (xs.take k)*2^r*18446744073709551616^q∧nth (leftF xs q r n k) (q+k)<2^r∧∀ j,q+k<j→nth (leftF xs q r n k) j=0
 | 0, _ => by
   refine ⟨by simp [leftF,val_replicate,val],?_,fun j _=>?_⟩
   ·rw [leftF,nth_replicate];exact Nat.pow_pos (by decide)
   ·rw [leftF,nth_replicate]
 | k + 1, hk => by
   obtain ⟨i1,i2,i3⟩:=leftF_inv xs h q r n hr hn k (by omega)
   have hl:=leftF_length xs q r n k
   have hx:=nth_lt h k
   rw [leftF]
   generalize leftF xs q r n k=out at *
   unfold leftStep
   have h0:=i3 (q+k+1) (by omega)
   rw [h0,Nat.zero_or,shift_parts _ r hr,or_carry _ _ r hr i2]
   have hx2:nth xs k*2^r/18446744073709551616<2^r:=by
    rw [Nat.div_lt_iff_lt_mul (by decide),Nat.mul_comm (2^r)]
    exact Nat.mul_lt_mul_of_pos_right hx (Nat.pow_pos (by decide))
   generalize hX:nth xs k*2^r=X at *
   have l1:q+k<out.length:=by omega
   have l2:q+k+1<(out.set (q+k) (nth out (q+k)+X%18446744073709551616)).length:=by rw [List.length_set];omega
   refine ⟨?_,?_,fun j hj=>?_⟩
   ·have v1 := val_set out (q + k) (nth out (q + k) + X % 18446744073709551616) l1
    have v2:=val_set _ (q+k+1) (X/18446744073709551616) l2
    rw [nth_set _ _ _ _ l1,if_neg (by omega),h0] at v2
    rw [val_take_succ xs k (by omega),Nat.add_mul,Nat.add_mul,←i1,Nat.mul_assoc (18446744073709551616^k),hX]
    rw [Nat.pow_succ] at v2
    have e3:18446744073709551616^k*X*18446744073709551616^q=18446744073709551616^(q+k)*X:=by rw [Nat.mul_right_comm,←Nat.pow_add,Nat.add_comm k q]
    rw [e3]
    have e4:18446744073709551616^(q+k)*X=18446744073709551616^(q+k)*18446744073709551616*(X/18446744073709551616)+18446744073709551616^(q+k)*(X%18446744073709551616):=by
     rw [Nat.mul_assoc,←Nat.mul_add,Nat.div_add_mod]
    rw [e4]
    rw [Nat.mul_add] at v1
    generalize 18446744073709551616^(q+k)*18446744073709551616*(X/18446744073709551616)=a at *
    generalize 18446744073709551616^(q+k)*(X%18446744073709551616)=b at *
    generalize 18446744073709551616^(q+k)*nth out (q+k)=c at *
    omega
   ·rw [←Nat.add_assoc,nth_set _ _ _ _ l2,if_pos rfl];exact hx2
   ·rw [nth_set _ _ _ _ l2, if_neg (by omega), nth_set _ _ _ _ l1, if_neg (by omega)]
    exact i3 j (by omega)
theorem two_pow_split (n:Nat):2^n=2^(n%64)*18446744073709551616^(n/64):=by
 have e:(18446744073709551616:Nat)=2^64:=by decide
 rw [e,←Nat.pow_mul,←Nat.pow_add,Nat.mod_add_div]
theorem leftF_val (xs:List Nat)(h:Small xs)(n:Nat):val (leftF xs (n/64) (n%64) (n/64+xs.length+1) xs.length)=val xs*2^n:=by
 have:=(leftF_inv xs h (n/64) (n%64) _ (Nat.mod_lt _ (by decide)) rfl xs.length (Nat.le_refl _)).1
 rw [this,List.take_of_length_le (Nat.le_refl _),Nat.mul_assoc,←two_pow_split]
def addS (out ys:List Nat):Nat→List Nat × Nat
 | 0=>(out,0)
 | k + 1 => let s := addS out ys k
   (s.1.set k ((nth s.1 k+nth ys k+s.2)%18446744073709551616),(nth s.1 k+nth ys k+s.2)/18446744073709551616)
theorem addS_succ (out ys:List Nat)(k:Nat):addS out ys (k+1)=((addS out ys k).1.set k ((nth (addS out ys k).1 k+nth ys k+(addS out ys k).2)%18446744073709551616),(nth (addS out ys k).1 k+nth ys k+(addS out ys k).2)/18446744073709551616):=rfl
theorem addS_length (out ys:List Nat):∀ k,(addS out ys k).1.length=out.length
 | 0=>rfl
 | k+1=>by rw [addS_succ,List.length_set,addS_length out ys k]
theorem addS_small (out ys:List Nat)(h:Small out):∀ k,Small (addS out ys k).1
 | 0=>h
 | k+1=>by rw [addS_succ];exact small_set (addS_small out ys h k) _ _ (Nat.mod_lt _ (by decide))
theorem addS_carry (out ys:List Nat)(h:Small out)(h':Small ys):∀ k,(addS out ys k).2≤1
 | 0=>by simp [addS]
 | k + 1 => by
   have a:=addS_carry out ys h h' k
   have b:=nth_lt (addS_small out ys h k) k
   have c:=nth_lt h' k
   rw [addS_succ]
   show (nth (addS out ys k).1 k+nth ys k+(addS out ys k).2)/18446744073709551616≤1
   omega
theorem val_take_succ' (xs:List Nat)(k:Nat):val (xs.take (k+1))=val (xs.take k)+18446744073709551616^k*nth xs k:=by
 by_cases h:k<xs.length
 ·exact val_take_succ xs k h
 ·rw [List.take_of_length_le (by omega),List.take_of_length_le (by omega),nth_ge xs k (by omega)];rfl
theorem addS_val (out ys:List Nat):∀ k,k≤out.length→val (addS out ys k).1+18446744073709551616^k*(addS out ys k).2=val out+val (ys.take k)
 | 0,_=>by simp [addS,val]
 | k + 1, hk => by
   have ih:=addS_val out ys k (by omega)
   have hl:=addS_length out ys k
   rw [addS_succ,val_take_succ']
   generalize addS out ys k=s at *
   obtain ⟨o,c⟩:=s
   simp only at *
   generalize hT:nth o k+nth ys k+c=T
   have v:=val_set o k (T%18446744073709551616) (by omega)
   have e:18446744073709551616^(k+1)*(T/18446744073709551616)+18446744073709551616^k*(T%18446744073709551616)=18446744073709551616^k*T:=by
    rw [Nat.pow_succ,Nat.mul_assoc,←Nat.mul_add,Nat.div_add_mod]
   have e2:18446744073709551616^k*T=18446744073709551616^k*nth o k+18446744073709551616^k*nth ys k+18446744073709551616^k*c:=by
    rw [←hT,Nat.mul_add,Nat.mul_add]
   omega
theorem addS_stop (out ys:List Nat)(h:Small out)(k:Nat)(hy:ys.length≤k)(hc:(addS out ys k).2=0):∀ d,k+d≤out.length→addS out ys (k+d)=((addS out ys k).1,0)
 | 0,_=>by rw [Nat.add_zero,←hc]
 | d + 1, hd => by
   have ih:=addS_stop out ys h k hy hc d (by omega)
   have hlt:=nth_lt (addS_small out ys h k) (k+d)
   have hl:=addS_length out ys k
   rw [←Nat.add_assoc,addS_succ,ih,nth_ge ys (k+d) (by omega)]
   simp only [Nat.add_zero]
   rw [Nat.mod_eq_of_lt hlt,Nat.div_eq_of_lt hlt]
   congr 1
   apply List.ext_getElem
   ·simp
   ·intro i h1 h2
    rw [List.getElem_set]
    split
    ·rename_i e;subst e;rw [nth,List.getD_eq_getElem?_getD,List.getElem?_eq_getElem h2];rfl
    ·rfl
theorem addS_all (xs ys:List Nat)(h:Small xs)(h':Small ys)(hle:ys.length≤xs.length):val (addS (xs++[0]) ys (xs.length+1)).1=val xs+val ys:=by
 have hs:Small (xs++[0]):=by
  intro x hx
  rcases List.mem_append.1 hx with hx | hx
  ·exact h x hx
  ·have : x = 0 := by simpa using hx
   omega
 have a:=addS_val (xs++[0]) ys (xs.length+1) (by simp)
 rw [List.take_of_length_le (by omega),val_append,Nat.pow_succ] at a
 have b:=val_lt _ h
 have c:=val_lt _ h'
 have d:18446744073709551616^ys.length≤18446744073709551616^xs.length:=Nat.pow_le_pow_right (by decide) hle
 have e:val [0]=0:=by simp [val]
 rw [e,Nat.mul_zero,Nat.add_zero] at a
 generalize (addS (xs++[0]) ys (xs.length+1)).2=q at *
 generalize (addS (xs++[0]) ys (xs.length+1)).1=o at *
 generalize 18446744073709551616^xs.length=p at *
 generalize 18446744073709551616^ys.length=p' at *
 have hq:q=0:=by
  by_cases hq:q=0
  ·exact hq
  ·have : p * 18446744073709551616 * 1 ≤ p * 18446744073709551616 * q := Nat.mul_le_mul_left _ (by omega)
   omega
 rw [hq,Nat.mul_zero,Nat.add_zero] at a
 exact a
end Go.Proofs.YtabjjdicffcolaaGreatDoor
namespace Go.Proofs.YtabjjdicffcolaaGreatDoor
def subS (out ys:List Nat):Nat→List Nat × Nat
 | 0=>(out,0)
 | k + 1 => let s := subS out ys k
   (s.1.set k ((nth s.1 k+18446744073709551616-nth ys k-s.2)%18446744073709551616),if nth s.1 k<nth ys k+s.2 then 1 else 0)
theorem subS_succ (out ys:List Nat)(k:Nat):subS out ys (k+1)=((subS out ys k).1.set k ((nth (subS out ys k).1 k+18446744073709551616-nth ys k-(subS out ys k).2)%18446744073709551616),if nth (subS out ys k).1 k<nth ys k+(subS out ys k).2 then 1 else 0):=rfl
theorem subS_length (out ys:List Nat):∀ k,(subS out ys k).1.length=out.length
 | 0=>rfl
 | k+1=>by rw [subS_succ,List.length_set,subS_length out ys k]
theorem subS_small (out ys:List Nat)(h:Small out):∀ k,Small (subS out ys k).1
 | 0=>h
 | k+1=>by rw [subS_succ];exact small_set (subS_small out ys h k) _ _ (Nat.mod_lt _ (by decide))
theorem subS_borrow (out ys:List Nat):∀ k,(subS out ys k).2≤1
 | 0=>by simp [subS]
 | k + 1 => by
   rw [subS_succ]
   show (if _ then 1 else 0)≤1
   split<;>omega
theorem subS_val (out ys:List Nat)(h:Small out)(h':Small ys):∀ k,k≤out.length→val (subS out ys k).1+val (ys.take k)=val out+18446744073709551616^k*(subS out ys k).2
 | 0,_=>by simp [subS,val]
 | k + 1, hk => by
   have ih:=subS_val out ys h h' k (by omega)
   have hl:=subS_length out ys k
   have hx:=nth_lt (subS_small out ys h k) k
   have hy:=nth_lt h' k
   have hb:=subS_borrow out ys k
   rw [subS_succ,val_take_succ',Nat.pow_succ]
   generalize subS out ys k=s at *
   obtain ⟨o,c⟩:=s
   simp only at *
   generalize nth ys k=y at *
   have v:=val_set o k ((nth o k+18446744073709551616-y-c)%18446744073709551616) (by omega)
   generalize nth o k=x at *
   generalize 18446744073709551616^k=p at *
   by_cases hlt:x<y+c
   ·rw [if_pos hlt, Nat.mod_eq_of_lt (by omega)] at *
    have e:p*(x+18446744073709551616-y-c)+p*y+p*c=p*x+p*18446744073709551616:=by
     rw [←Nat.mul_add,←Nat.mul_add,←Nat.mul_add];congr 1;omega
    rw [Nat.mul_one]
    omega
   ·have e0 : (x + 18446744073709551616 - y - c) % 18446744073709551616 = x - y - c := by omega
    rw [if_neg hlt]
    rw [e0] at v ⊢
    have e:p*(x-y-c)+p*y+p*c=p*x:=by
     rw [←Nat.mul_add,←Nat.mul_add];congr 1;omega
    rw [Nat.mul_zero,Nat.add_zero]
    omega
theorem subS_all (xs ys:List Nat)(h:Small xs)(h':Small ys)(hle:ys.length≤xs.length)(hv:val ys≤val xs):val (subS xs ys xs.length).1=val xs-val ys:=by
 have a:=subS_val xs ys h h' xs.length (Nat.le_refl _)
 rw [List.take_of_length_le hle] at a
 have b:=val_lt _ (subS_small xs ys h xs.length)
 rw [subS_length] at b
 have c:=subS_borrow xs ys xs.length
 generalize (subS xs ys xs.length).2=q at *
 have hq:q=0:=by
  by_cases hq:q=0
  ·exact hq
  ·obtain rfl : q = 1 := by omega
   rw [Nat.mul_one] at a
   omega
 rw [hq,Nat.mul_zero,Nat.add_zero] at a
 omega
theorem mul_step (p c z:Nat) :
 (z+(p%18446744073709551616+c)%18446744073709551616)%18446744073709551616=(p+c+z)%18446744073709551616 ∧
 p/18446744073709551616+(p%18446744073709551616+c)/18446744073709551616+(z+(p%18446744073709551616+c)%18446744073709551616)/18446744073709551616=(p+c+z)/18446744073709551616:=by
 omega
theorem mul_bound (x y c z:Nat)(hx:x<18446744073709551616)(hy:y<18446744073709551616)(hc:c<18446744073709551616)(hz:z<18446744073709551616):(x*y+c+z)/18446744073709551616<18446744073709551616:=by
 have:x*y≤18446744073709551615*18446744073709551615:=Nat.mul_le_mul (by omega) (by omega)
 omega
def rowS (out:List Nat) (i x:Nat) (ys:List Nat):Nat→List Nat × Nat
 | 0=>(out,0)
 | j + 1 => let s := rowS out i x ys j
   (s.1.set (i+j) ((x*nth ys j+s.2+nth s.1 (i+j))%18446744073709551616),(x*nth ys j+s.2+nth s.1 (i+j))/18446744073709551616)
theorem rowS_succ (out:List Nat)(i x:Nat)(ys:List Nat)(j:Nat):rowS out i x ys (j+1)=((rowS out i x ys j).1.set (i+j) ((x*nth ys j+(rowS out i x ys j).2+nth (rowS out i x ys j).1 (i+j))%18446744073709551616),(x*nth ys j+(rowS out i x ys j).2+nth (rowS out i x ys j).1 (i+j))/18446744073709551616):=rfl
theorem rowS_length (out:List Nat)(i x:Nat)(ys:List Nat):∀ j,(rowS out i x ys j).1.length=out.length
 | 0=>rfl
 | j+1=>by rw [rowS_succ,List.length_set,rowS_length out i x ys j]
theorem rowS_small (out:List Nat)(i x:Nat)(ys:List Nat)(h:Small out):∀ j,Small (rowS out i x ys j).1
 | 0=>h
 | j+1=>by rw [rowS_succ];exact small_set (rowS_small out i x ys h j) _ _ (Nat.mod_lt _ (by decide))
theorem rowS_carry (out:List Nat)(i x:Nat)(ys:List Nat)(h:Small out)(h':Small ys)(hx:x<18446744073709551616):∀ j,(rowS out i x ys j).2<18446744073709551616
 | 0=>by simp [rowS]
 | j + 1 => by
   rw [rowS_succ]
   exact mul_bound _ _ _ _ hx (nth_lt h' j) (rowS_carry out i x ys h h' hx j) (nth_lt (rowS_small out i x ys h j) _)
theorem rowS_nth (out:List Nat)(i x:Nat)(ys:List Nat):∀ j k,i+j≤k→i+j≤out.length→nth (rowS out i x ys j).1 k=nth out k
 | 0,_,_,_=>rfl
 | j + 1, k, h, hk => by
   rw [rowS_succ]
   show nth ((rowS out i x ys j).1.set (i+j) _) k=_
   rw [nth_set _ _ _ _ (by rw [rowS_length];omega),if_neg (by omega)]
   exact rowS_nth out i x ys j k (by omega) (by omega)
theorem rowS_val (out:List Nat)(i x:Nat)(ys:List Nat):∀ j,i+j≤out.length →
 val (rowS out i x ys j).1+18446744073709551616^(i+j)*(rowS out i x ys j).2=val out+18446744073709551616^i*(x*val (ys.take j))
 | 0,_=>by simp [rowS,val]
 | j + 1, hj => by
   have ih:=rowS_val out i x ys j (by omega)
   have hl:=rowS_length out i x ys j
   rw [rowS_succ,val_take_succ',←Nat.add_assoc,Nat.pow_succ,Nat.mul_add,Nat.mul_add,←Nat.add_assoc,←ih]
   generalize rowS out i x ys j=s at *
   obtain ⟨o,c⟩:=s
   simp only at *
   generalize hT:x*nth ys j+c+nth o (i+j)=T
   have v:=val_set o (i+j) (T%18446744073709551616) (by omega)
   have e1:18446744073709551616^i*(x*(18446744073709551616^j*nth ys j))=18446744073709551616^(i+j)*(x*nth ys j):=by
    rw [Nat.pow_add,←Nat.mul_assoc x,Nat.mul_comm x,Nat.mul_assoc,Nat.mul_assoc]
   rw [e1]
   generalize 18446744073709551616^(i+j)=p at *
   have e:p*18446744073709551616*(T/18446744073709551616)+p*(T%18446744073709551616)=p*T:=by
    rw [Nat.mul_assoc,←Nat.mul_add,Nat.div_add_mod]
   have e2:p*T=p*(x*nth ys j)+p*c+p*nth o (i+j):=by rw [←hT,Nat.mul_add,Nat.mul_add]
   omega
def mulF (xs ys:List Nat) (n:Nat):Nat→List Nat
 | 0=>List.replicate n 0
 | i + 1 => let s := rowS (mulF xs ys n i) i (nth xs i) ys ys.length
   s.1.set (i+ys.length) s.2
theorem mulF_succ (xs ys:List Nat)(n i:Nat):mulF xs ys n (i+1)=(rowS (mulF xs ys n i) i (nth xs i) ys ys.length).1.set (i+ys.length) (rowS (mulF xs ys n i) i (nth xs i) ys ys.length).2:=rfl
theorem mulF_length (xs ys:List Nat)(n:Nat):∀ i,(mulF xs ys n i).length=n
 | 0=>by simp [mulF]
 | i+1=>by rw [mulF_succ,List.length_set,rowS_length,mulF_length xs ys n i]
theorem mulF_small (xs ys:List Nat)(n:Nat)(h:Small xs)(h':Small ys):∀ i,Small (mulF xs ys n i)
 | 0=>small_replicate n
 | i + 1 => by
   have ih:=mulF_small xs ys n h h' i
   rw [mulF_succ]
   exact small_set (rowS_small _ _ _ _ ih _) _ _ (rowS_carry _ _ _ _ ih h' (nth_lt h i) _)
theorem mulF_inv (xs ys:List Nat)(h:Small xs)(h':Small ys):∀ i,i≤xs.length →
 val (mulF xs ys (xs.length+ys.length) i)=val (xs.take i)*val ys∧∀ k,i+ys.length≤k→nth (mulF xs ys (xs.length+ys.length) i) k=0
 | 0, _ => by
   refine ⟨by simp [mulF,val_replicate,val],fun k _=>?_⟩
   rw [mulF,nth_replicate]
 | i + 1, hi => by
   obtain ⟨i1,i2⟩:=mulF_inv xs ys h h' i (by omega)
   have hl:=mulF_length xs ys (xs.length+ys.length) i
   rw [mulF_succ]
   generalize mulF xs ys (xs.length+ys.length) i=out at *
   have v:=rowS_val out i (nth xs i) ys ys.length (by omega)
   have hn:=rowS_nth out i (nth xs i) ys ys.length
   have hrl:=rowS_length out i (nth xs i) ys ys.length
   generalize rowS out i (nth xs i) ys ys.length=s at *
   obtain ⟨o,c⟩:=s
   simp only at *
   have v2:=val_set o (i+ys.length) c (by omega)
   rw [hn _ (Nat.le_refl _) (by omega),i2 _ (Nat.le_refl _),Nat.mul_zero,Nat.add_zero] at v2
   refine ⟨?_,fun k hk=>?_⟩
   ·rw [List.take_of_length_le (Nat.le_refl _)] at v
    rw [val_take_succ xs i (by omega),Nat.add_mul,←i1,Nat.mul_assoc,←v]
    exact v2
   ·rw [nth_set _ _ _ _ (by omega),if_neg (by omega),hn k (by omega) (by omega),i2 k (by omega)]
theorem mulF_val (xs ys:List Nat)(h:Small xs)(h':Small ys):val (mulF xs ys (xs.length+ys.length) xs.length)=val xs*val ys:=by
 rw [(mulF_inv xs ys h h' xs.length (Nat.le_refl _)).1,List.take_of_length_le (Nat.le_refl _)]
def rightL (xs:List Nat) (r i:Nat):Nat:=if i+1<xs.length then (nth xs i/2^r) ||| (nth xs (i+1)*2%18446744073709551616*2^(63-r)%18446744073709551616) else nth xs i/2^r
def rightF (xs:List Nat) (r:Nat):Nat→List Nat
 | 0=>List.replicate xs.length 0
 | k+1=>(rightF xs r k).set k (rightL xs r k)
theorem rightF_length (xs:List Nat)(r:Nat):∀ k,(rightF xs r k).length=xs.length
 | 0=>by simp [rightF]
 | k+1=>by rw [rightF,List.length_set,rightF_length xs r k]
theorem rightL_eq (xs:List Nat)(h:Small xs)(r i:Nat)(hr:r<64):rightL xs r i=nth xs i/2^r+nth xs (i+1)*2^(64-r)%18446744073709551616:=by
 have e64:(18446744073709551616:Nat)=2^(64-r)*2^r:=by
  rw [←Nat.pow_add,show 64-r+r=64 by omega]
 unfold rightL
 by_cases hi:i+1<xs.length
 ·rw [if_pos hi]
  have e1:nth xs (i+1)*2%18446744073709551616*2^(63-r)%18446744073709551616=nth xs (i+1)*2^(64-r)%18446744073709551616:=by
   rw [Nat.mod_mul_mod,Nat.mul_assoc,show (64-r)=(63-r)+1 by omega,Nat.pow_succ,Nat.mul_comm 2]
  have e2:nth xs i/2^r<2^(64-r):=by
   rw [Nat.div_lt_iff_lt_mul (Nat.pow_pos (by decide)),←e64];exact nth_lt h i
  rw [e1]
  have e3:nth xs (i+1)*2^(64-r)%18446744073709551616=2^(64-r)*(nth xs (i+1)%2^r):=by
   rw [e64,Nat.mul_comm (nth xs (i+1)),Nat.mul_mod_mul_left]
  rw [e3,Nat.or_comm,←Nat.two_pow_add_eq_or_of_lt e2,Nat.add_comm]
 ·rw [if_neg hi,nth_ge xs (i+1) (by omega),Nat.zero_mul,Nat.zero_mod,Nat.add_zero]
theorem rightL_lt (xs:List Nat)(h:Small xs)(r i:Nat)(_hr:r<64):rightL xs r i<18446744073709551616:=by
 unfold rightL
 have a:=nth_lt h i
 have b:nth xs i/2^r≤nth xs i:=Nat.div_le_self _ _
 split
 ·exact or_lt (by omega) (Nat.mod_lt _ (by decide))
 ·omega
theorem rightF_small (xs:List Nat)(h:Small xs)(r:Nat)(hr:r<64):∀ k,Small (rightF xs r k)
 | 0=>small_replicate _
 | k+1=>small_set (rightF_small xs h r hr k) _ _ (rightL_lt xs h r k hr)
theorem rightF_nth (xs:List Nat)(r:Nat):∀ k j,k≤xs.length→nth (rightF xs r k) j=if j<k then rightL xs r j else 0
 | 0,j,_=>by rw [rightF,nth_replicate,if_neg (by omega)]
 | k + 1, j, hk => by
   rw [rightF,nth_set _ _ _ _ (by rw [rightF_length];omega),rightF_nth xs r k j (by omega)]
   by_cases e:k=j
   ·subst e;rw [if_pos rfl,if_pos (by omega)]
   ·rw [if_neg e]
    by_cases h2:j<k
    ·rw [if_pos h2,if_pos (by omega)]
    ·rw [if_neg h2,if_neg (by omega)]
theorem right_take (xs:List Nat)(h:Small xs)(r:Nat)(hr:r<64)(o:List Nat)(ho:∀ j,j<xs.length→nth o j=rightL xs r j):∀ k,k≤xs.length→k≤o.length →
 val (o.take k)*2^r+nth xs 0%2^r=val (xs.take k)+18446744073709551616^k*(nth xs k%2^r)
 | 0,_,_=>by simp [val]
 | k + 1, hk, hk' => by
   have ih:=right_take xs h r hr o ho k (by omega) (by omega)
   have e64:(18446744073709551616:Nat)=2^(64-r)*2^r:=by
    rw [←Nat.pow_add,show 64-r+r=64 by omega]
   rw [val_take_succ o k (by omega),val_take_succ xs k (by omega),ho k (by omega),rightL_eq xs h r k hr,Nat.add_mul,Nat.pow_succ]
   have e3:nth xs (k+1)*2^(64-r)%18446744073709551616*2^r=18446744073709551616*(nth xs (k+1)%2^r):=by
    rw [e64,Nat.mul_comm (nth xs (k+1)),Nat.mul_mod_mul_left,Nat.mul_right_comm]
   have e4:nth xs k/2^r*2^r+nth xs k%2^r=nth xs k:=by rw [Nat.mul_comm];exact Nat.div_add_mod _ _
   generalize 18446744073709551616^k=p at *
   have e5:p*(nth xs k/2^r+nth xs (k+1)*2^(64-r)%18446744073709551616)*2^r=p*(nth xs k/2^r*2^r)+p*(18446744073709551616*(nth xs (k+1)%2^r)):=by
    rw [Nat.mul_assoc,Nat.add_mul,e3,Nat.mul_add]
   rw [e5,←Nat.mul_assoc p 18446744073709551616]
   have e6:p*nth xs k=p*(nth xs k/2^r*2^r)+p*(nth xs k%2^r):=by rw [←Nat.mul_add,e4]
   omega
theorem rightF_val (xs:List Nat)(h:Small xs)(r:Nat)(hr:r<64):val (rightF xs r xs.length)=val xs/2^r:=by
 have hl:=rightF_length xs r xs.length
 have:=right_take xs h r hr (rightF xs r xs.length) (fun j hj=>by rw [rightF_nth xs r _ j (Nat.le_refl _),if_pos hj]) xs.length (Nat.le_refl _) (by omega)
 rw [List.take_of_length_le (by omega),List.take_of_length_le (Nat.le_refl _),nth_ge xs xs.length (Nat.le_refl _),Nat.zero_mod,Nat.mul_zero,Nat.add_zero] at this
 have hlt:nth xs 0%2^r<2^r:=Nat.mod_lt _ (Nat.pow_pos (by decide))
 rw [←this,Nat.add_comm,Nat.add_mul_div_right _ _ (Nat.pow_pos (by decide)),Nat.div_eq_of_lt hlt,Nat.zero_add]
theorem val_drop (xs:List Nat)(h:Small xs)(k:Nat):val (xs.drop k)=val xs/18446744073709551616^k:=by
 by_cases hk:k≤xs.length
 ·have e := val_append (xs.take k) (xs.drop k)
  rw [List.take_append_drop,List.length_take,Nat.min_eq_left hk] at e
  have b:=val_lt _ (small_take h k)
  rw [List.length_take,Nat.min_eq_left hk] at b
  rw [e,Nat.add_mul_div_left _ _ (Nat.pow_pos (by decide)),Nat.div_eq_of_lt b,Nat.zero_add]
 ·rw [List.drop_eq_nil_of_le (by omega), Nat.div_eq_of_lt]
  ·rfl
  ·exact Nat.lt_of_lt_of_le (val_lt _ h) (Nat.pow_le_pow_right (by decide) (by omega))
theorem right_all (xs:List Nat)(h:Small xs)(n:Nat):val (rightF (xs.drop (n/64)) (n%64) (xs.drop (n/64)).length)=val xs/2^n:=by
 rw [rightF_val _ (small_drop h _) _ (Nat.mod_lt _ (by decide)),val_drop xs h,Nat.div_div_eq_div_mul,two_pow_split n,Nat.mul_comm]
end Go.Proofs.YtabjjdicffcolaaGreatDoor
namespace Go.Proofs.YtabjjdicffcolaaGreatDoor
structure HalfInv (u d yn1 yn0 q r:Nat):Prop where
 sum:u=q*yn1+r
 ge:(u*4294967296+d)/(yn1*4294967296+yn0)≤q
theorem half_start (u d yn1 yn0:Nat)(hd:d<4294967296)(h1:0<yn1):HalfInv u d yn1 yn0 (u/yn1) (u%yn1):=by
 refine ⟨by rw [Nat.mul_comm];exact (Nat.div_add_mod u yn1).symm,?_⟩
 have e:(u*4294967296+d)/(yn1*4294967296)=u/yn1:=by
  rw [Nat.mul_comm yn1,←Nat.div_div_eq_div_mul]
  congr 1
  omega
 rw [←e]
 exact Nat.div_le_div_left (by omega) (by omega)
theorem half_done {u d yn1 yn0 q r:Nat}(h:HalfInv u d yn1 yn0 q r)(h1:0<yn1)(hc:q*yn0≤4294967296*r+d):q=(u*4294967296+d)/(yn1*4294967296+yn0):=by
 refine Nat.le_antisymm ?_ h.ge
 rw [Nat.le_div_iff_mul_le (by omega),h.sum,Nat.mul_add,Nat.add_mul,Nat.mul_assoc q yn1,←Nat.mul_assoc]
 have:r*4294967296=4294967296*r:=Nat.mul_comm _ _
 omega
theorem half_less {u d yn1 yn0 q r:Nat}(h:HalfInv u d yn1 yn0 q r)(hu:u<yn1*4294967296+yn0)(hd:d<4294967296)(_h1:0<yn1)(hc:4294967296≤q∨4294967296*r+d<q*yn0) :
 1≤q∧HalfInv u d yn1 yn0 (q-1) (r+yn1):=by
 have key:(u*4294967296+d)/(yn1*4294967296+yn0)<q:=by
  rw [Nat.div_lt_iff_lt_mul (by omega)]
  rcases hc with hc | hc
  ·have : 4294967296 * (yn1 * 4294967296 + yn0) ≤ q * (yn1 * 4294967296 + yn0) := Nat.mul_le_mul_right _ hc
   omega
  ·rw [h.sum, Nat.mul_add, Nat.add_mul, ← Nat.mul_assoc]
   have:r*4294967296=4294967296*r:=Nat.mul_comm _ _
   omega
 have h1:1≤q:=Nat.lt_of_le_of_lt (Nat.zero_le _) key
 refine ⟨h1,?_,Nat.le_sub_one_of_lt key⟩
 have hs:=h.sum
 clear key hc h
 obtain ⟨k,rfl⟩:∃ k,q=k+1:=⟨q-1,by omega⟩
 rw [Nat.add_sub_cancel,hs,Nat.add_mul]
 omega
theorem half_break {u d yn1 yn0 q r:Nat}(h:HalfInv u d yn1 yn0 q r)(hu:u<yn1*4294967296+yn0)(h0:yn0<4294967296)(h1:0<yn1)(hr:4294967296≤r):q=(u*4294967296+d)/(yn1*4294967296+yn0):=by
 have hq:q<4294967296:=by
  have a:q*yn1<yn1*4294967296:=by have:=h.sum;omega
  rw [Nat.mul_comm] at a
  exact Nat.lt_of_mul_lt_mul_left a
 refine half_done h h1 ?_
 have:q*yn0≤4294967296*4294967296:=Nat.mul_le_mul (by omega) (by omega)
 omega
theorem half_rest (u d Y q:Nat)(hY:Y<18446744073709551616)(h0:0<Y)(hq:q=(u*4294967296+d)/Y) :
 (((u*4294967296:Int)+d)-q*Y)%18446744073709551616=(((u*4294967296+d)%Y:Nat):Int):=by
 have a:=Nat.div_add_mod (u*4294967296+d) Y
 rw [←hq] at a
 have b:=Nat.mod_lt (u*4294967296+d) h0
 have c:(q:Int)*Y=((Y*q:Nat):Int):=by rw [Int.natCast_mul,Int.mul_comm]
 rw [c]
 generalize Y*q=p at *
 generalize (u*4294967296+d)%Y=t at *
 omega
theorem two_halves (N Y lo hi:Nat)(h0:0<Y)(hN:N=hi*4294967296+lo)(_hl:lo<4294967296) :
 N/Y=hi/Y*4294967296+(hi%Y*4294967296+lo)/Y∧N%Y=(hi%Y*4294967296+lo)%Y:=by
 have a:=Nat.div_add_mod hi Y
 have e:N=Y*(hi/Y*4294967296)+(hi%Y*4294967296+lo):=by
  rw [hN,←Nat.mul_assoc,←Nat.add_assoc,←Nat.add_mul,a]
 rw [e]
 exact ⟨by rw [Nat.mul_add_div h0],by rw [Nat.mul_add_mod]⟩
theorem shift_two (hi lo y s:Nat)(hs:s<64)(hlo:lo<18446744073709551616)(hlt:hi<y) :
 (hi*18446744073709551616+lo)*2^s=(hi*2^s+lo/2^(64-s))*18446744073709551616+lo*2^s%18446744073709551616∧hi*2^s+lo/2^(64-s)<y*2^s∧lo/2^(64-s)<2^s∧lo/2^(64-s)=lo*2^s/18446744073709551616:=by
 have e64:(18446744073709551616:Nat)=2^(64-s)*2^s:=by
  rw [←Nat.pow_add,show 64-s+s=64 by omega]
 have e1:lo/2^(64-s)=lo*2^s/18446744073709551616:=by
  rw [e64,Nat.mul_div_mul_right _ _ (Nat.pow_pos (by decide))]
 have h2:lo/2^(64-s)<2^s:=by
  rw [Nat.div_lt_iff_lt_mul (Nat.pow_pos (by decide)),Nat.mul_comm (2^s),←e64];exact hlo
 refine ⟨?_,?_,h2,e1⟩
 ·have := Nat.div_add_mod (lo * 2 ^ s) 18446744073709551616
  rw [←e1] at this
  rw [Nat.add_mul,Nat.add_mul,Nat.mul_right_comm]
  omega
 ·have : (hi + 1) * 2 ^ s ≤ y * 2 ^ s := Nat.mul_le_mul_right _ hlt
  rw [Nat.add_mul] at this
  omega
theorem half_bound (u d Y:Nat)(hu:u<Y)(hd:d<4294967296):(u*4294967296+d)/Y<4294967296:=by
 rw [Nat.div_lt_iff_lt_mul (by omega)]
 omega
end Go.Proofs.YtabjjdicffcolaaGreatDoor
namespace Go.Proofs.YtabjjdicffcolaaGreatDoor
structure Raw where
 neg:Bool
 m:List Nat
 e:Int
structure Dy where
 neg:Bool
 m:Nat
 e:Int
def Dy.raw (d:Dy):Raw:=⟨d.neg,limbs d.m,d.e⟩
def dz:Dy:=⟨false,0,0⟩
def Raw.dy (r:Raw):Dy:=⟨r.neg,val r.m,r.e⟩
def mayD (r:Raw):Bool :=
 if r.m.length=0 then (!r.neg&&r.e==0) else (mayN r.m&&nth r.m 0%2==1&&decide (-1048576≤r.e)&&decide (r.e≤1048576))
structure Dy.Ok (d:Dy):Prop where
 len:(limbs d.m).length≤64
 zero:d.m=0→d.neg=false∧d.e=0
 odd:d.m≠0→d.m%2=1
 lo:-1048576≤d.e
 hi:d.e≤1048576
theorem mayN_limbs {xs:List Nat}(h:Small xs)(hm:mayN xs=true):limbs (val xs)=xs:=by
 rw [←take_tl xs h]
 unfold mayN at hm
 by_cases h0:xs.length=0
 ·obtain rfl := List.eq_nil_of_length_eq_zero h0
  rfl
 ·simp [h0] at hm
  have hm2:=hm
  obtain ⟨k,hk⟩:∃ k,xs.length=k+1:=⟨xs.length-1,by omega⟩
  have:tl xs=xs.length:=by
   unfold tl
   rw [hk,trimN,if_neg]
   have:=hm2.2
   rwa [hk,Nat.add_sub_cancel] at this
  rw [this,List.take_of_length_le (Nat.le_refl _)]
theorem mayN_len {xs:List Nat}(hm:mayN xs=true):xs.length≤64:=by
 unfold mayN at hm
 by_cases h0:xs.length=0
 ·omega
 ·simp [h0] at hm
  exact hm.1
theorem nth_limbs_zero (n:Nat):nth (limbs n) 0=n%18446744073709551616:=by
 by_cases h:n=0
 ·subst h;rw [limbs_zero];rfl
 ·rw [limbs_pos n h];rfl
theorem mayD_clean {r:Raw}(h:Small r.m)(hm:mayD r=true):r.dy.raw=r∧r.dy.Ok:=by
 obtain ⟨neg,m,e⟩:=r
 unfold mayD at hm
 simp only at hm h
 by_cases h0:m.length=0
 ·obtain rfl := List.eq_nil_of_length_eq_zero h0
  simp at hm
  obtain ⟨rfl,rfl⟩:=hm
  refine ⟨by simp [Raw.dy,Dy.raw,val,limbs_zero],?_⟩
  refine ⟨by simp [Raw.dy,val,limbs_zero],fun _=>⟨rfl,rfl⟩,fun h=>absurd rfl h,by simp [Raw.dy],by simp [Raw.dy]⟩
 ·rw [if_neg h0] at hm
  simp only [Bool.and_eq_true,beq_iff_eq,decide_eq_true_eq] at hm
  obtain ⟨⟨⟨h1,h2⟩,h3⟩,h4⟩:=hm
  have hl:=mayN_limbs h h1
  have hv:val m≠0:=by
   intro hv
   rw [hv,limbs_zero] at hl
   rw [←hl] at h0;simp at h0
  refine ⟨by simp only [Raw.dy,Dy.raw];rw [hl],?_⟩
  refine ⟨by simp only [Raw.dy];rw [hl];exact mayN_len h1,fun h=>absurd h hv,fun _=>?_,h3,h4⟩
  simp only [Raw.dy]
  rw [←hl,nth_limbs_zero] at h2
  omega
theorem mayN_of_limbs (n:Nat)(h:(limbs n).length≤64):mayN (limbs n)=true:=by
 by_cases h0:n=0
 ·subst h0;rw [limbs_zero];rfl
 ·unfold mayN
  have:=limbs_last n h0
  simp [h]
  right
  exact this
theorem Dy.Ok.may {d:Dy}(h:d.Ok):mayD d.raw=true:=by
 unfold mayD Dy.raw
 simp only
 by_cases h0:d.m=0
 ·obtain ⟨a, b⟩ := h.zero h0
  rw [h0,limbs_zero,a,b];rfl
 ·rw [if_neg (by have := length_limbs_pos d.m h0; omega), mayN_of_limbs d.m h.len, nth_limbs_zero]
  have h1:=h.odd h0
  have h2:=h.lo
  have h3:=h.hi
  have h4:d.m%18446744073709551616%2=1:=by omega
  simp [h4,h2,h3]
theorem Dy.raw_dy (d:Dy):d.raw.dy=d:=by
 simp [Dy.raw,Raw.dy,val_limbs]
theorem Dy.small (d:Dy):Small d.raw.m:=small_limbs _
theorem dz_ok:dz.Ok:=⟨by simp [dz,limbs_zero],fun _=>⟨rfl,rfl⟩,fun h=>absurd rfl h,by decide,by decide⟩
structure Outc (α:Type) where
 v:α
 k:Int
def good {α:Type} (a:α):Outc α:=⟨a,0⟩
def bad (k:Int):Outc Dy:=⟨dz,k⟩
def fitD (neg:Bool) (n:Nat) (e:Int):Outc Dy :=
 if n=0 then good dz
 else if 64<(limbs (n/2^tz n)).length then bad 2
 else if 1048576<e∨e < -1048576-tz n then bad 3
 else if 1048576<e+tz n then bad 3
 else good ⟨neg,n/2^tz n,e+tz n⟩
theorem fitD_ok (neg:Bool)(n:Nat)(e:Int):(fitD neg n e).v.Ok∧((fitD neg n e).k≠0→(fitD neg n e).v=dz):=by
 unfold fitD
 by_cases h0:n=0
 ·rw [if_pos h0];exact ⟨dz_ok,fun _=>rfl⟩
 ·rw [if_neg h0]
  by_cases h1:64<(limbs (n/2^tz n)).length
  ·rw [if_pos h1];exact ⟨dz_ok,fun _=>rfl⟩
  ·rw [if_neg h1]
   by_cases h2:1048576<e∨e < -1048576-tz n
   ·rw [if_pos h2];exact ⟨dz_ok,fun _=>rfl⟩
   ·rw [if_neg h2]
    by_cases h3:1048576<e+tz n
    ·rw [if_pos h3];exact ⟨dz_ok,fun _=>rfl⟩
    ·rw [if_neg h3]
     have ho:=tz_odd n h0
     refine ⟨⟨by simp only [good];omega,fun hz=>?_,fun _=>ho,by simp only [good];omega,by simp only [good];omega⟩,fun h=>absurd rfl h⟩
     simp only [good] at hz
     rw [hz] at ho;omega
end Go.Proofs.YtabjjdicffcolaaGreatDoor
namespace Go.Proofs.YtabjjdicffcolaaGreatDoor
def pw (e:Int):Rat:=(2:Rat)^e
theorem pw_pos (e:Int):0<pw e:=Rat.zpow_pos (by decide)
theorem pw_add (a b:Int):pw (a+b)=pw a*pw b:=Rat.zpow_add (by decide) a b
theorem pw_zero:pw 0=1:=Rat.zpow_zero _
theorem pw_one:pw 1=2:=Rat.zpow_one _
theorem pw_nat (n:Nat):pw (n:Int)=((2^n:Nat):Rat):=by
 unfold pw;rw [Rat.zpow_natCast,Rat.natCast_pow];rfl
theorem pw_neg (e:Int):pw e*pw (-e)=1:=by rw [←pw_add,Int.add_right_neg,pw_zero]
theorem pw_cancel (y:Rat)(i:Int):y*pw (-i)*pw i=y:=by rw [Rat.mul_assoc,Rat.mul_comm (pw (-i)),pw_neg,Rat.mul_one]
theorem pw_nonneg (e:Int):0≤pw e:=Rat.le_of_lt (pw_pos e)
theorem pw_ne (e:Int):pw e≠0:=by have:=pw_pos e;grind
theorem pw_split {a b:Int}(h:a≤b):pw b=((2^(b-a).toNat:Nat):Rat)*pw a:=by
 rw [←pw_nat,←pw_add];congr 1;omega
theorem pw_mono {a b:Int}(h:a≤b):pw a≤pw b:=by
 rw [pw_split h]
 have h1:(1:Rat)≤((2^(b-a).toNat:Nat):Rat):=by
  have:=Rat.natCast_le_natCast.2 (Nat.one_le_two_pow (n:=(b-a).toNat))
  exact this
 have h2:=Rat.mul_le_mul_of_nonneg_right h1 (pw_nonneg a)
 grind
def sq (s:Bool) (m:Nat):Rat:=if s then -(m:Rat) else m
theorem sq_neg (s:Bool)(m:Nat):sq (!s) m=-sq s m:=by cases s<;>simp [sq]
theorem sq_zero (s:Bool):sq s 0=0:=by cases s<;>simp [sq]
theorem sq_mul (s t:Bool)(m n:Nat):sq (s != t) (m*n)=sq s m*sq t n:=by
 cases s<;>cases t<;>simp [sq,Rat.natCast_mul]<;>grind
def Dy.q (d:Dy):Rat:=sq d.neg d.m*pw d.e
theorem dz_q:dz.q=0:=by simp [Dy.q,dz,sq]
theorem nat_cast_lt {a b:Nat}:(a:Rat)<(b:Rat)↔a<b:=Rat.natCast_lt_natCast
theorem nat_cast_le {a b:Nat}:(a:Rat)≤(b:Rat)↔a≤b:=Rat.natCast_le_natCast
theorem nat_pos {m:Nat}(h:m≠0):0<(m:Rat):=by
 have:=nat_cast_lt.2 (Nat.pos_of_ne_zero h)
 simpa using this
theorem q_pos {m:Nat}(h:m≠0)(e:Int):0<(m:Rat)*pw e:=Rat.mul_pos (nat_pos h) (pw_pos e)
theorem mag_nat (m:Nat){e l:Int}(h:l≤e):(m:Rat)*pw e=((m*2^(e-l).toNat:Nat):Rat)*pw l:=by
 rw [pw_split h,Rat.natCast_mul,Rat.mul_assoc]
theorem mul_pw_lt {a b:Rat}(e:Int):a*pw e<b*pw e↔a<b:=Rat.mul_lt_mul_right (pw_pos e)
theorem mul_pw_le {a b:Rat}(e:Int):a*pw e≤b*pw e↔a≤b:=by
 constructor
 ·intro h;exact Rat.le_of_mul_le_mul_right h (pw_pos e)
 ·intro h;exact Rat.mul_le_mul_of_nonneg_right h (pw_nonneg e)
theorem mag_le (m n:Nat){e f l:Int}(h:l≤e)(k:l≤f):(m:Rat)*pw e≤(n:Rat)*pw f↔m*2^(e-l).toNat≤n*2^(f-l).toNat:=by
 rw [mag_nat m h,mag_nat n k,mul_pw_le,nat_cast_le]
theorem mag_lt (m n:Nat){e f l:Int}(h:l≤e)(k:l≤f):(m:Rat)*pw e<(n:Rat)*pw f↔m*2^(e-l).toNat<n*2^(f-l).toNat:=by
 rw [mag_nat m h,mag_nat n k,mul_pw_lt,nat_cast_lt]
theorem mag_eq (m n:Nat){e f l:Int}(h:l≤e)(k:l≤f):(m:Rat)*pw e=(n:Rat)*pw f↔m*2^(e-l).toNat=n*2^(f-l).toNat:=by
 constructor
 ·intro he
  have h1:=(mag_le m n h k).1 (by rw [he];exact Rat.le_refl)
  have h2:=(mag_le n m k h).1 (by rw [he];exact Rat.le_refl)
  omega
 ·intro he
  rw [mag_nat m h,mag_nat n k,he]
def cmpQ (x y:Rat):Int:=if x<y then -1 else if x=y then 0 else 1
theorem cmpQ_neg (x y:Rat):cmpQ (-x) (-y)=-cmpQ x y:=by
 unfold cmpQ
 by_cases h:x<y
 ·rw [if_pos h,if_neg (by grind),if_neg (by grind)];rfl
 ·by_cases h1 : x = y
  ·rw [if_neg h,if_pos h1,if_neg (by grind),if_pos (by rw [h1])];rfl
  ·rw [if_neg h,if_neg h1,if_pos (by grind)]
theorem cmpQ_le {x y:Rat}:cmpQ x y≤0↔x≤y:=by
 unfold cmpQ
 by_cases h:x<y
 ·rw [if_pos h];constructor<;>intro<;>first | grind | decide
 ·by_cases h1 : x = y
  ·rw [if_neg h,if_pos h1];constructor<;>intro<;>first | grind | decide
  ·rw [if_neg h, if_neg h1]; constructor <;> intro h2
   ·exact absurd h2 (by decide)
   ·grind
theorem cmpQ_ge {x y:Rat}:0≤cmpQ x y↔y≤x:=by
 unfold cmpQ
 by_cases h:x<y
 ·rw [if_pos h]; constructor <;> intro h2
  ·exact absurd h2 (by decide)
  ·grind
 ·by_cases h1 : x = y
  ·rw [if_neg h,if_pos h1];constructor<;>intro<;>first | grind | decide
  ·rw [if_neg h,if_neg h1];constructor<;>intro<;>first | grind | decide
theorem cmpQ_lt {x y:Rat}:cmpQ x y<0↔x<y:=by
 have:=@cmpQ_ge x y
 constructor
 ·intro h
  by_cases hxy:x<y
  ·exact hxy
  ·exfalso
   have:(0:Int)≤cmpQ x y:=this.2 (by grind)
   omega
 ·intro h
  by_cases hc:cmpQ x y<0
  ·exact hc
  ·exfalso
   have:=this.1 (by omega)
   grind
theorem cmpQ_gt {x y:Rat}:0<cmpQ x y↔y<x:=by
 have:=@cmpQ_le x y
 constructor
 ·intro h
  by_cases hxy:y<x
  ·exact hxy
  ·exfalso
   have:cmpQ x y≤0:=this.2 (by grind)
   omega
 ·intro h
  by_cases hc:0<cmpQ x y
  ·exact hc
  ·exfalso
   have:=this.1 (by omega)
   grind
theorem cmpQ_self (x:Rat):cmpQ x x=0:=by
 unfold cmpQ;rw [if_neg (by grind),if_pos rfl]
theorem cmpQ_mag (m n:Nat){e f l:Int}(h:l≤e)(k:l≤f):cmpQ ((m:Rat)*pw e) ((n:Rat)*pw f)=cmpN (m*2^(e-l).toNat) (n*2^(f-l).toNat):=by
 unfold cmpQ cmpN
 simp only [mag_lt m n h k,mag_eq m n h k]
def Fits (p:Nat) (y:Rat):Prop:=∃ s k j,bl k≤p∧y=sq s k*pw j
theorem Fits.neg {p:Nat}{y:Rat}(h:Fits p y):Fits p (-y):=by
 obtain ⟨s,k,j,hk,rfl⟩:=h
 exact ⟨!s,k,j,hk,by rw [sq_neg];grind⟩
theorem Fits.mono {p p':Nat}{y:Rat}(h:Fits p y)(hp:p≤p'):Fits p' y:=by
 obtain ⟨s,k,j,hk,rfl⟩:=h
 exact ⟨s,k,j,by omega,rfl⟩
theorem Fits.pw {p:Nat}{y:Rat}(h:Fits p y)(i:Int):Fits p (y*pw i):=by
 obtain ⟨s,k,j,hk,rfl⟩:=h
 exact ⟨s,k,j+i,hk,by rw [pw_add,Rat.mul_assoc]⟩
theorem Fits.zero (p:Nat):Fits p 0:=⟨false,0,0,by simp [bl],by rw [sq_zero,Rat.zero_mul]⟩
structure IsDown (p:Nat) (x d:Rat):Prop where
 fits:Fits p d
 le:d≤x
 best:∀ y,Fits p y→y≤x→y≤d
structure IsUp (p:Nat) (x d:Rat):Prop where
 fits:Fits p d
 le:x≤d
 best:∀ y,Fits p y→x≤y→d≤y
def IsDir (up:Bool) (p:Nat) (x d:Rat):Prop:=if up then IsUp p x d else IsDown p x d
theorem IsDown.neg {p:Nat}{x d:Rat}(h:IsDown p x d):IsUp p (-x) (-d) :=
 ⟨h.fits.neg,by have:=h.le;grind,fun y hy hx=>by have:=h.best (-y) hy.neg (by grind);grind⟩
theorem IsUp.neg {p:Nat}{x d:Rat}(h:IsUp p x d):IsDown p (-x) (-d) :=
 ⟨h.fits.neg,by have:=h.le;grind,fun y hy hx=>by have:=h.best (-y) hy.neg (by grind);grind⟩
theorem IsDown.mono {p p':Nat}{x x' d d':Rat}(h:IsDown p x d)(h':IsDown p' x' d')(hp:p≤p')(hx:x≤x'):d≤d' :=
 h'.best d (h.fits.mono hp) (by have:=h.le;grind)
theorem IsUp.mono {p p':Nat}{x x' d d':Rat}(h:IsUp p x d)(h':IsUp p' x' d')(hp:p≤p')(hx:x'≤x):d'≤d :=
 h'.best d (h.fits.mono hp) (by have:=h.le;grind)
theorem IsDown.of_fits {p:Nat}{x:Rat}(h:Fits p x):IsDown p x x:=⟨h,Rat.le_refl,fun _ _ h=>h⟩
theorem IsUp.of_fits {p:Nat}{x:Rat}(h:Fits p x):IsUp p x x:=⟨h,Rat.le_refl,fun _ _ h=>h⟩
theorem IsDown.pw {p:Nat}{x d:Rat}(h:IsDown p x d)(i:Int):IsDown p (x*pw i) (d*pw i):=by
 refine ⟨h.fits.pw i,(mul_pw_le i).2 h.le,fun y hy hx=>?_⟩
 have h2:=h.best (y*Go.Proofs.YtabjjdicffcolaaGreatDoor.pw (-i)) (hy.pw (-i)) (by rw [←mul_pw_le i,pw_cancel];exact hx)
 rw [←mul_pw_le i,pw_cancel] at h2
 exact h2
theorem IsUp.pw {p:Nat}{x d:Rat}(h:IsUp p x d)(i:Int):IsUp p (x*pw i) (d*pw i):=by
 have:=(h.neg.pw i).neg
 simpa [Rat.neg_mul] using this
theorem fits_le_floor {p m':Nat}{x y:Rat}(hm:2^(p-1)≤m')(hp:1≤p)(hx:x<(m':Rat)+1)(hy:Fits p y)(hyx:y≤x):y≤m':=by
 obtain ⟨s,k,j,hk,rfl⟩:=hy
 have hm0:(0:Rat)≤m':=nat_cast_le.2 (Nat.zero_le m')
 cases s
 case true =>
  have:sq true k*pw j≤0:=by
   have h1:(0:Rat)≤k:=nat_cast_le.2 (Nat.zero_le k)
   have h2:=Rat.mul_le_mul_of_nonneg_right h1 (pw_nonneg j)
   simp only [sq,if_true]
   grind
  grind
 case false =>
  simp only [sq,Bool.false_eq_true,if_false] at *
  rcases Int.le_total 0 j with hj | hj
  ·have e : (k : Rat) * pw j = ((k * 2 ^ j.toNat : Nat) : Rat) := by
    have h:=mag_nat k hj
    rw [pw_zero] at h
    simpa using h
   rw [e] at hyx ⊢
   have h3:((k*2^j.toNat:Nat):Rat)<((m'+1:Nat):Rat):=by
    rw [Rat.natCast_add]
    have:((1:Nat):Rat)=1:=rfl
    grind
   have:=nat_cast_lt.1 h3
   exact nat_cast_le.2 (by omega)
  ·by_cases hj0 : j = 0
   ·subst hj0
    rw [pw_zero,Rat.mul_one] at hyx ⊢
    have h3:(k:Rat)<((m'+1:Nat):Rat):=by
     rw [Rat.natCast_add]
     have:((1:Nat):Rat)=1:=rfl
     grind
    have:=nat_cast_lt.1 h3
    exact nat_cast_le.2 (by omega)
   ·have h1 : (k : Rat) * pw j ≤ (k : Rat) * pw (-1) := by
     have h1:(0:Rat)≤k:=nat_cast_le.2 (Nat.zero_le k)
     exact Rat.mul_le_mul_of_nonneg_left (pw_mono (by omega)) h1
    have h2:k≤2*m':=by
     have h4:=lt_two_bl k
     have h5:2^bl k≤2^p:=Nat.pow_le_pow_right (by decide) hk
     have h6:2^p=2*2^(p-1):=by
      rw [←Nat.pow_succ'];congr 1;omega
     omega
    have h3:(k:Rat)≤2*(m':Rat):=by
     have:=nat_cast_le.2 h2
     rw [Rat.natCast_mul] at this
     exact this
    have h4:=pw_neg (-1)
    have h5:pw (-(-1:Int))=2:=pw_one
    rw [h5] at h4
    have h6:=pw_pos (-1)
    have h7:=Rat.mul_le_mul_of_nonneg_right h3 (pw_nonneg (-1))
    have h8:2*(m':Rat)*pw (-1)=m':=by
     rw [Rat.mul_comm 2,Rat.mul_assoc,Rat.mul_comm 2,h4,Rat.mul_one]
    rw [h8] at h7
    exact Rat.le_trans h1 h7
theorem fits_ge_ceil {p m':Nat}{x y:Rat}(hm:2^(p-1)≤m')(hp:1≤p)(hx:(m':Rat)<x)(hy:Fits p y)(hyx:x≤y):(m':Rat)+1≤y:=by
 by_cases h:(m':Rat)+1≤y
 ·exact h
 ·exfalso
  have:=fits_le_floor hm hp (x:=y) (by grind) hy Rat.le_refl
  grind
theorem div_pw (m n:Nat):((m/2^n:Nat):Rat)*((2^n:Nat):Rat)≤m∧(m:Rat)<(((m/2^n:Nat):Rat)+1)*((2^n:Nat):Rat):=by
 have h0:0<2^n:=Nat.two_pow_pos n
 have h1:=Nat.div_add_mod m (2^n)
 have h2:=Nat.mod_lt m h0
 constructor
 ·rw [← Rat.natCast_mul, nat_cast_le]
  rw [Nat.mul_comm] at h1
  omega
 ·have : (((m / 2 ^ n : Nat) : Rat) + 1) * ((2 ^ n : Nat) : Rat) = (((m / 2 ^ n + 1) * 2 ^ n : Nat) : Rat) := by
   rw [Rat.natCast_mul,Rat.natCast_add];rfl
  rw [this,nat_cast_lt,Nat.add_mul,Nat.one_mul]
  rw [Nat.mul_comm] at h1
  omega
theorem tz_lt_iff (m n:Nat)(h:m≠0):tz m<n↔m%2^n≠0:=by
 constructor
 ·intro hlt hz
  have hd:2^n ∣ m:=Nat.dvd_of_mod_eq_zero hz
  have h1:=tz_mul m h
  have h2:=tz_odd m h
  have h3:2^(tz m+1) ∣ m:=Nat.dvd_trans (Nat.pow_dvd_pow 2 hlt) hd
  obtain ⟨c,hc⟩:=h3
  have h4:m/2^tz m=2*c:=by
   apply Nat.div_eq_of_eq_mul_left (Nat.two_pow_pos _)
   have:2^(tz m+1)*c=2*c*2^tz m:=by rw [Nat.pow_succ,Nat.mul_assoc,Nat.mul_comm]
   omega
  omega
 ·intro hz
  by_cases hc:tz m<n
  ·exact hc
  ·exfalso
   apply hz
   exact Nat.mod_eq_zero_of_dvd (Nat.dvd_trans (Nat.pow_dvd_pow 2 (by omega)) (tz_dvd m h))
def cutN (m:Nat) (rest:Bool) (p:Nat):Bool × Nat × Nat :=
 let n:=bl m-p
 (rest||(decide (0<n)&&decide (tz m<n)),m/2^n,n)
theorem bl_div (m n:Nat):bl (m/2^n)=bl m-n:=by
 by_cases h:m=0
 ·subst h;simp [bl]
 ·by_cases hn : n < bl m
  ·have h1 := two_bl_le m h
   have h2:=lt_two_bl m
   have e:bl m-n=(bl m-n-1)+1:=by omega
   rw [e]
   refine bl_eq _ _ ?_ ?_
   ·rw [Nat.le_div_iff_mul_le (Nat.two_pow_pos n), ← Nat.pow_add]
    have:bl m-n-1+n=bl m-1:=by omega
    rw [this];exact h1
   ·rw [Nat.div_lt_iff_lt_mul (Nat.two_pow_pos n), ← Nat.pow_add]
    have:bl m-n-1+1+n=bl m:=by omega
    rw [this];exact h2
  ·have h2 := lt_two_bl m
   have:m/2^n=0:=Nat.div_eq_of_lt (Nat.lt_of_lt_of_le h2 (Nat.pow_le_pow_right (by decide) (by omega)))
   rw [this,bl_zero];omega
def Mag (m:Nat) (rest:Bool) (M:Rat):Prop:=if rest then (m:Rat)<M∧M<(m:Rat)+1 else M=m
theorem cutN_mag {m:Nat}{rest:Bool}{p:Nat}{M:Rat}(h:Mag m rest M)(h0:rest=true→p<bl m)(h1p:1≤p) :
 Mag (cutN m rest p).2.1 (cutN m rest p).1 (M*pw (-((bl m-p:Nat):Int)))∧((cutN m rest p).1=true→2^(p-1)≤(cutN m rest p).2.1)∧bl (cutN m rest p).2.1≤p:=by
 obtain ⟨n,hn⟩:∃ n,bl m-p=n:=⟨_,rfl⟩
 simp only [cutN,hn]
 have hbl:bl (m/2^n)≤p:=by rw [bl_div];omega
 have hbig:0<n→2^(p-1)≤m/2^n:=by
  intro hp
  have hm:m≠0:=by rintro rfl;simp [bl] at hn;omega
  have h1:=two_bl_le m hm
  rw [Nat.le_div_iff_mul_le (Nat.two_pow_pos n),←Nat.pow_add]
  refine Nat.le_trans (Nat.pow_le_pow_right (by decide) ?_) h1
  omega
 by_cases hp:0<n
 ·have hm : m ≠ 0 := by rintro rfl; simp [bl] at hn; omega
  have hd:decide (0<n)=true:=by simp [hp]
  rw [hd,Bool.true_and]
  obtain ⟨d1,d2⟩:=div_pw m n
  have e1:=pw_neg (n:Int)
  rw [pw_nat] at e1
  have e2:=pw_pos (-(n:Int))
  have e3:0<((2^n:Nat):Rat):=by rw [←pw_nat];exact pw_pos _
  refine ⟨?_,fun _=>hbig hp,hbl⟩
  by_cases hr:(rest||decide (tz m<n))=true
  ·rw [hr]
   simp only [Mag,if_true]
   have hstrict:((m/2^n:Nat):Rat)*((2^n:Nat):Rat)<M∧M<(((m/2^n:Nat):Rat)+1)*((2^n:Nat):Rat):=by
    cases rest
    ·simp only [Mag, Bool.false_eq_true, if_false] at h
     simp only [Bool.false_or,decide_eq_true_eq] at hr
     have hz:=(tz_lt_iff m n hm).1 hr
     subst h
     refine ⟨?_,d2⟩
     rw [←Rat.natCast_mul,nat_cast_lt]
     have h1:=Nat.div_add_mod m (2^n)
     rw [Nat.mul_comm] at h1
     omega
    ·simp only [Mag, if_true] at h
     refine ⟨by grind,?_⟩
     have:(((m/2^n:Nat):Rat)+1)*((2^n:Nat):Rat)=(((m/2^n+1)*2^n:Nat):Rat):=by
      rw [Rat.natCast_mul,Rat.natCast_add];rfl
     rw [this] at d2 ⊢
     have d3:=nat_cast_lt.1 d2
     have d4:((m+1:Nat):Rat)≤(((m/2^n+1)*2^n:Nat):Rat):=nat_cast_le.2 d3
     rw [Rat.natCast_add] at d4
     have:((1:Nat):Rat)=1:=rfl
     grind
   generalize ((m/2^n:Nat):Rat)=A at *
   generalize ((2^n:Nat):Rat)=B at *
   generalize pw (-(n:Int))=C at *
   obtain ⟨s1,s2⟩:=hstrict
   have t1:=(Rat.mul_lt_mul_right e2).2 s1
   have t2:=(Rat.mul_lt_mul_right e2).2 s2
   rw [Rat.mul_assoc,e1,Rat.mul_one] at t1 t2
   exact ⟨t1,t2⟩
  ·have hr' : (rest || decide (tz m < n)) = false := by simpa using hr
   rw [hr']
   simp only [Bool.or_eq_false_iff,decide_eq_false_iff_not] at hr'
   obtain ⟨r1,r2⟩:=hr'
   subst r1
   simp only [Mag,Bool.false_eq_true,if_false] at h ⊢
   have hz:m%2^n=0:=by
    by_cases hz:m%2^n=0
    ·exact hz
    ·exact absurd ((tz_lt_iff m n hm).2 hz) r2
   have h1:=Nat.div_add_mod m (2^n)
   rw [hz,Nat.add_zero,Nat.mul_comm] at h1
   have h2:((m/2^n:Nat):Rat)*((2^n:Nat):Rat)=m:=by rw [←Rat.natCast_mul,h1]
   subst h
   rw [←h2,Rat.mul_assoc,e1,Rat.mul_one]
 ·have hn0 : n = 0 := by omega
  subst hn0
  have hr:rest=false:=by
   cases rest
   ·rfl
   ·have:=h0 rfl;omega
  subst hr
  have e:pw (-((0:Nat):Int))=1:=pw_zero
  refine ⟨?_,fun h=>?_,hbl⟩
  ·rw [e, Rat.mul_one]
   simpa [Mag] using h
  ·simp at h
def cutM (m:Nat) (rest:Bool) (p:Nat) (away:Bool):Nat:=if (cutN m rest p).1&&away then (cutN m rest p).2.1+1 else (cutN m rest p).2.1
theorem fits_nat {p m:Nat}(h:bl m≤p):Fits p (m:Rat):=⟨false,m,0,h,by simp [sq,pw_zero]⟩
theorem fits_succ {p m:Nat}(h:bl m≤p)(hp:1≤p):Fits p ((m:Rat)+1):=by
 have e:(m:Rat)+1=((m+1:Nat):Rat):=by rw [Rat.natCast_add];rfl
 rw [e]
 by_cases hb:bl (m+1)≤p
 ·exact fits_nat hb
 ·have h1 := lt_two_bl m
  have h2:2^bl m≤2^p:=Nat.pow_le_pow_right (by decide) h
  have h3:m+1=2^p:=by
   by_cases h4:m+1<2^p
   ·exact absurd (bl_le _ _ h4) hb
   ·omega
  rw [h3]
  refine ⟨false,1,p,?_,?_⟩
  ·have : bl 1 = 1 := by decide
   omega
  ·rw [pw_nat]; simp only [sq, Bool.false_eq_true, if_false]
   exact (Rat.one_mul _).symm
theorem cutM_down {m:Nat}{rest:Bool}{p:Nat}{M:Rat}(h:Mag m rest M)(h0:rest=true→p<bl m)(hp:1≤p) :
 IsDown p M ((cutM m rest p false:Rat)*pw ((bl m-p:Nat):Int)):=by
 obtain ⟨hm,hb,hl⟩:=cutN_mag h h0 hp
 have e1:=pw_neg (((bl m-p:Nat):Int))
 have key:IsDown p (M*pw (-((bl m-p:Nat):Int))) (cutM m rest p false:Rat):=by
  unfold cutM
  rw [Bool.and_false]
  simp only [Bool.false_eq_true,if_false]
  generalize (cutN m rest p).2.1=m' at *
  generalize (cutN m rest p).1=r' at *
  generalize M*pw (-((bl m-p:Nat):Int))=x at *
  cases r'
  ·simp only [Mag, Bool.false_eq_true, if_false] at hm
   subst hm
   exact .of_fits (fits_nat hl)
  ·simp only [Mag, if_true] at hm
   exact ⟨fits_nat hl,by grind,fun y hy hx=>fits_le_floor (hb rfl) hp hm.2 hy hx⟩
 have:=key.pw ((bl m-p:Nat):Int)
 rw [Rat.mul_assoc,Rat.mul_comm (pw _),e1,Rat.mul_one] at this
 exact this
theorem cutM_up {m:Nat}{rest:Bool}{p:Nat}{M:Rat}(h:Mag m rest M)(h0:rest=true→p<bl m)(hp:1≤p) :
 IsUp p M ((cutM m rest p true:Rat)*pw ((bl m-p:Nat):Int)):=by
 obtain ⟨hm,hb,hl⟩:=cutN_mag h h0 hp
 have e1:=pw_neg (((bl m-p:Nat):Int))
 have key:IsUp p (M*pw (-((bl m-p:Nat):Int))) (cutM m rest p true:Rat):=by
  unfold cutM
  rw [Bool.and_true]
  generalize (cutN m rest p).2.1=m' at *
  generalize (cutN m rest p).1=r' at *
  generalize M*pw (-((bl m-p:Nat):Int))=x at *
  cases r'
  ·simp only [Mag, Bool.false_eq_true, if_false] at hm ⊢
   subst hm
   exact .of_fits (fits_nat hl)
  ·simp only [Mag, if_true] at hm ⊢
   have e:((m'+1:Nat):Rat)=(m':Rat)+1:=by rw [Rat.natCast_add];rfl
   rw [e]
   exact ⟨fits_succ hl hp,by grind,fun y hy hx=>fits_ge_ceil (hb rfl) hp hm.1 hy hx⟩
 have:=key.pw ((bl m-p:Nat):Int)
 rw [Rat.mul_assoc,Rat.mul_comm (pw _),e1,Rat.mul_one] at this
 exact this
def cutD (neg:Bool) (m:Nat) (e:Int) (rest:Bool) (p:Nat) (up:Bool):Outc Dy :=
 fitD neg (cutM m rest p (up != neg)) (e+((bl m-p:Nat):Int))
theorem fitD_q {neg:Bool}{n:Nat}{e:Int}(h:(fitD neg n e).k=0):(fitD neg n e).v.q=sq neg n*pw e:=by
 unfold fitD at *
 by_cases h0:n=0
 ·rw [if_pos h0]; subst h0
  rw [sq_zero,Rat.zero_mul];exact dz_q
 ·rw [if_neg h0] at h ⊢
  by_cases h1:64<(limbs (n/2^tz n)).length
  ·rw [if_pos h1] at h;exact absurd h (by decide)
  ·rw [if_neg h1] at h ⊢
   by_cases h2:1048576<e∨e < -1048576-tz n
   ·rw [if_pos h2] at h;exact absurd h (by decide)
   ·rw [if_neg h2] at h ⊢
    by_cases h3:1048576<e+tz n
    ·rw [if_pos h3] at h;exact absurd h (by decide)
    ·rw [if_neg h3]
     simp only [good,Dy.q]
     rw [Int.add_comm,pw_add,pw_nat,←Rat.mul_assoc]
     congr 1
     have:=tz_mul n h0
     unfold sq
     cases neg
     ·simp only [Bool.false_eq_true, if_false]
      rw [←Rat.natCast_mul,this]
     ·simp only [if_true]
      rw [Rat.neg_mul,←Rat.natCast_mul,this]
theorem cutD_dir {neg:Bool}{m:Nat}{e:Int}{rest:Bool}{p:Nat}{up:Bool}{M:Rat}(h:Mag m rest M)(h0:rest=true→p<bl m)(hp:1≤p)
 (hk:(cutD neg m e rest p up).k=0):IsDir up p ((if neg then -M else M)*pw e) (cutD neg m e rest p up).v.q:=by
 unfold cutD at *
 rw [fitD_q hk,Int.add_comm,pw_add,←Rat.mul_assoc]
 unfold IsDir
 cases neg<;>cases up
 ·exact ((cutM_down h h0 hp).pw e)
 ·exact ((cutM_up h h0 hp).pw e)
 ·have e1 : (false != true) = true := rfl
  have:=((cutM_up h h0 hp).neg).pw e
  simpa only [e1,Bool.false_eq_true,if_false,if_true,sq,Rat.neg_mul] using this
 ·have e1 : (true != true) = false := rfl
  have:=((cutM_down h h0 hp).neg).pw e
  simpa only [e1,Bool.false_eq_true,if_false,if_true,sq,Rat.neg_mul] using this
end Go.Proofs.YtabjjdicffcolaaGreatDoor
