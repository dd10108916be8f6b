/- Plain mathematics, no program: naturals as lists of digits of sixteen bits, their values, canonical lists (after the text of limbs). -/
set_option maxRecDepth 100000
set_option maxHeartbeats 16000000
namespace Go.Proofs.YtabjjdicffcolaaGreatDoor
def nth (xs:List Nat) (i:Nat):Nat:=xs.getD i 0
def val:List Nat→Nat
 | []=>0
 | x::xs=>x+18446744073709551616*val xs
def Small (xs:List Nat):Prop:=∀ x∈xs,x<18446744073709551616
def limbs (n:Nat):List Nat:=if _h:n=0 then [] else (n%18446744073709551616)::limbs (n/18446744073709551616)
termination_by n
decreasing_by exact Nat.div_lt_self (by omega) (by decide)
theorem Av:limbs 0=[]:=by rw [limbs];simp
theorem Bs (n:Nat)(h:n≠0):limbs n=(n%18446744073709551616)::limbs (n/18446744073709551616):=by rw [limbs];simp [h]
theorem Bq (n:Nat):val (limbs n)=n:=by
 induction n using Nat.strongRecOn with
 | _ n ih =>
   by_cases h:n=0
   ·subst h;rw [Av];rfl
   ·rw [Bs n h, val, ih (n / 18446744073709551616) (Nat.div_lt_self (by omega) (by decide))];exact Nat.mod_add_div n 18446744073709551616
theorem Dd (n:Nat):Small (limbs n):=by
 induction n using Nat.strongRecOn with
 | _ n ih =>
   by_cases h:n=0
   ·subst h;rw [Av];intro x hx;cases hx
   ·rw [Bs        n h];intro x hx
    rcases List.mem_cons.1 hx with rfl | hx
    ·exact Nat.mod_lt _ (by decide)
    ·exact ih (n/18446744073709551616) (Nat.div_lt_self (by omega) (by decide)) x hx
def Dp (xs:List Nat):Nat→Nat
 | 0=>0
 | k+1=>if nth xs k=0 then Dp xs k else k+1
def tl (xs:List Nat):Nat:=Dp xs xs.length
theorem Lp (xs:List Nat):∀ k,Dp xs k≤k
 | 0=>Nat.le_refl _
 | k + 1 => by
   unfold Dp;split
   ·exact Nat.le_succ_of_le (Lp xs k)
   ·exact Nat.le_refl _
theorem Vv (xs:List Nat):tl xs≤xs.length:=Lp xs _
theorem Ef (x:Nat)(xs:List Nat)(i:Nat):nth (x::xs) (i+1)=nth xs i:=rfl
theorem nth_lt {xs:List Nat}(h:Small xs)(i:Nat):nth xs i<18446744073709551616:=by
 unfold nth
 by_cases hi:i<xs.length
 ·rw [List.getD_eq_getElem?_getD,List.getElem?_eq_getElem hi];exact h _ (List.getElem_mem hi)
 ·rw [List.getD_eq_getElem?_getD,List.getElem?_eq_none (by omega)];decide
theorem Iu (x:Nat)(xs:List Nat):∀ k,Dp (x::xs) (k+1)=if Dp xs k=0 then (if x=0 then 0 else 1) else Dp xs k+1
 | 0=>by simp [Dp,nth]
 | k + 1 => by
   rw [Dp,Ef,Iu x xs k,Dp]
   by_cases h:nth xs k=0
   ·simp [h]
   ·simp [h]
theorem N7 (xs:List Nat)(h:Small xs):xs.take (tl xs)=limbs (val xs):=by
 induction xs with
 | nil=>simp [tl,Dp,val,Av]
 | cons x xs ih =>
   have hx:x<18446744073709551616:=h x (List.mem_cons_self);have hs:Small xs:=fun y hy=>h y (List.mem_cons_of_mem _ hy)
   have ih':=ih hs;have ht:tl (x::xs)=if tl xs=0 then (if x=0 then 0 else 1) else tl xs+1:=Iu x xs xs.length
   have hv:tl xs=0↔val xs=0:=by
    constructor
    ·intro h0;rw [h0] at ih';have:=Bq        (val xs);rw [←ih'] at this
     simpa [val] using this.symm
    ·intro h0;rw [h0,Av] at ih';have h1:=congrArg List.length ih';have h2:=Vv xs;rw [List.length_take,List.length_nil] at h1;omega
   by_cases h0:val xs=0
   ·rw [ht, if_pos (hv.2 h0)]
    by_cases hx0:x=0
    ·simp [hx0,val,h0,Av]
    ·rw [if_neg hx0, val, h0];have e1:(x+18446744073709551616*0)%18446744073709551616=x:=by omega
     have e2:(x+18446744073709551616*0)/18446744073709551616=0:=by omega
     rw [Bs _ (by omega),e1,e2,Av]
     simp
   ·rw [ht, if_neg (fun h => h0 (hv.1 h)), List.take_succ_cons, ih', val];rw [Bs        (x+18446744073709551616*val xs) (by omega)];have e1:(x+18446744073709551616*val xs)%18446744073709551616=x:=by omega
    have e2:(x+18446744073709551616*val xs)/18446744073709551616=val xs:=by omega
    rw [e1,e2]
theorem length_limbs (n : Nat) : (limbs n).length = if n = 0 then 0 else Nat.log2 n / 64 + 1 := by
 induction n using Nat.strongRecOn with
 | _ n ih =>
   by_cases h:n=0
   ·subst h;simp [Av]
   ·rw [Bs        n h, List.length_cons, ih (n / 18446744073709551616) (Nat.div_lt_self (by omega) (by decide)), if_neg h]
    by_cases h1:n/18446744073709551616=0
    ·rw [if_pos h1];have:Nat.log2 n<64:=(Nat.log2_lt h).2 (by omega);omega
    ·rw [if_neg h1];have key:Nat.log2 n=Nat.log2 (n/18446744073709551616)+64:=by
      have a1:=Nat.log2_self_le h1;have a2:=Nat.lt_log2_self (n:=n/18446744073709551616);have b1:2^(Nat.log2 (n/18446744073709551616)+64)≤n:=by
       rw [Nat.pow_add]
       calc 2^Nat.log2 (n/18446744073709551616)*2^64≤(n/18446744073709551616)*2^64:=Nat.mul_le_mul_right _ a1
        _≤n:=Nat.div_mul_le_self n 18446744073709551616
      have b2:n<2^(Nat.log2 (n/18446744073709551616)+64+1):=by
       have:n<(n/18446744073709551616+1)*18446744073709551616:=by
        have:=Nat.lt_mul_div_succ n (show 0<18446744073709551616 by decide);rw [Nat.mul_comm] at this;exact this
       calc n<(n/18446744073709551616+1)*18446744073709551616:=this
        _≤2^(Nat.log2 (n/18446744073709551616)+1)*18446744073709551616:=Nat.mul_le_mul_right _ a2
        _=2^(Nat.log2 (n/18446744073709551616)+64+1):=by rw [show Nat.log2 (n/18446744073709551616)+64+1=(Nat.log2 (n/18446744073709551616)+1)+64 by omega,Nat.pow_add _ _ 64]
      have c1:=(Nat.le_log2 h).2 b1;have c2:=(Nat.log2_lt h).2 b2;omega
     rw [key];omega
def Mk (xs:List Nat):Bool:=xs.length==0||(decide (xs.length≤64)&&nth xs (xs.length-1) != 0)
def Dm (n m:Nat):Int:=if n<m then -1 else if n=m then 0 else 1
def Ey (xs ys:List Nat):Nat→Int
 | 0=>0
 | k+1=>if nth xs k=nth ys k then Ey xs ys k else if nth xs k<nth ys k then -1 else 1
theorem Cp (xs ys:List Nat):val (xs++ys)=val xs+18446744073709551616^xs.length*val ys:=by
 induction xs with
 | nil=>simp [val]
 | cons x xs ih =>
   rw [List.cons_append,val,ih,val,List.length_cons,Nat.pow_succ];generalize 18446744073709551616^xs.length=p;rw [Nat.mul_add,Nat.add_assoc]
   congr 2
   rw [←Nat.mul_assoc,Nat.mul_comm p]
theorem Em (xs:List Nat)(h:Small xs):val xs<18446744073709551616^xs.length:=by
 induction xs with
 | nil=>simp [val]
 | cons x xs ih =>
   have hx:x<18446744073709551616:=h x (List.mem_cons_self);have:=ih (fun y hy=>h y (List.mem_cons_of_mem _ hy));rw [val,List.length_cons,Nat.pow_succ];generalize 18446744073709551616^xs.length=p at *;omega
theorem Dq {xs:List Nat}(h:Small xs)(k:Nat):Small (xs.take k):=fun x hx=>h x (List.mem_of_mem_take hx)
theorem Iz {xs:List Nat}(h:Small xs)(k:Nat):Small (xs.drop k):=fun x hx=>h x (List.mem_of_mem_drop hx)
theorem Jp (xs:List Nat)(k:Nat)(h:k<xs.length):xs.take (k+1)=xs.take k++[nth xs k]:=by
 rw [List.take_succ_eq_append_getElem h,nth,List.getD_eq_getElem?_getD,List.getElem?_eq_getElem h];rfl
theorem Bu (xs:List Nat)(k:Nat)(h:k<xs.length):val (xs.take (k+1))=val (xs.take k)+18446744073709551616^k*nth xs k:=by
 rw [Jp xs k h,Cp,List.length_take,Nat.min_eq_left (by omega)]
 simp [val]
theorem Iy (xs ys:List Nat)(hx:Small xs)(hy:Small ys):∀ k,k≤xs.length→k≤ys.length→Ey xs ys k=Dm (val (xs.take k)) (val (ys.take k))
 | 0,_,_=>by simp [Ey,Dm]
 | k + 1, h1, h2 => by
   have ih:=Iy xs ys hx hy k (by omega) (by omega);rw [Ey,Bu xs k (by omega),Bu ys k (by omega),ih];have a:=Em _ (Dq hx k);have b:=Em _ (Dq hy k);rw [List.length_take,Nat.min_eq_left (by omega)] at a b;generalize 18446744073709551616^k=p at *;generalize val (xs.take k)=u at *;generalize val (ys.take k)=v at *;generalize nth xs k=x;generalize nth ys k=y
   by_cases e:x=y
   ·subst e;rw [if_pos rfl];unfold Dm;simp only [Nat.add_lt_add_iff_right,Nat.add_right_cancel_iff]
   ·rw [if_neg e]
    by_cases l:x<y
    ·rw [if_pos l];have:p*(x+1)≤p*y:=Nat.mul_le_mul_left _ l;rw [Nat.mul_add] at this;unfold Dm;rw [if_pos (by omega)]
    ·rw [if_neg l];have:p*(y+1)≤p*x:=Nat.mul_le_mul_left _ (by omega);rw [Nat.mul_add] at this;unfold Dm;rw [if_neg (by omega),if_neg (by omega)]
theorem Cc (n:Nat):n<18446744073709551616^(limbs n).length:=by
 have:=Em _ (Dd n)
 rwa [Bq] at this
theorem F8 (n:Nat)(h:n≠0):18446744073709551616^((limbs n).length-1)≤n:=by
 induction n using Nat.strongRecOn with
 | _ n ih =>
   rw [Bs n h,List.length_cons,Nat.add_sub_cancel]
   by_cases h1:n/18446744073709551616=0
   ·rw [h1,Av];simp;omega
   ·have := ih _ (Nat.div_lt_self (by omega) (by decide)) h1;have hl:0<(limbs (n/18446744073709551616)).length:=by rw [Bs        _ h1];simp
    obtain ⟨l,hl⟩:∃ l,(limbs (n/18446744073709551616)).length=l+1:=⟨_,(Nat.succ_pred_eq_of_pos hl).symm⟩;rw [hl] at this ⊢;rw [Nat.add_sub_cancel] at this;rw [Nat.pow_succ];generalize 18446744073709551616^l=p at *;omega
theorem Fh (n m:Nat)(h:(limbs n).length<(limbs m).length):n<m:=by
 have a:=Cc n;have hm:m≠0:=by rintro rfl;rw [Av] at h;simp at h
 have b:=F8 m hm;have c:18446744073709551616^(limbs n).length≤18446744073709551616^((limbs m).length-1):=Nat.pow_le_pow_right (by decide) (by omega);omega
theorem Kv (n m:Nat)(h:(limbs n).length=(limbs m).length):Ey (limbs n) (limbs m) (limbs n).length=Dm n m:=by
 rw [Iy _ _ (Dd n) (Dd m) _ (Nat.le_refl _) (by omega),List.take_of_length_le (Nat.le_refl _),List.take_of_length_le (by omega),Bq,Bq]
theorem I9 (n:Nat)(h:n≠0):nth (limbs n) ((limbs n).length-1)≠0:=by
 induction n using Nat.strongRecOn with
 | _ n ih =>
   rw [Bs n h,List.length_cons,Nat.add_sub_cancel]
   by_cases h1:n/18446744073709551616=0
   ·rw [h1,Av];simp [nth];omega
   ·have hl : 0 < (limbs (n / 18446744073709551616)).length := by rw [Bs        _ h1]; simp
    have:=ih _ (Nat.div_lt_self (by omega) (by decide)) h1;obtain ⟨l,hl⟩:∃ l,(limbs (n/18446744073709551616)).length=l+1:=⟨_,(Nat.succ_pred_eq_of_pos hl).symm⟩;rw [hl] at this ⊢;rw [Ef];exact this
theorem Bg (n:Nat)(h:n≠0):0<(limbs n).length:=by rw [Bs n h];simp
def bl (n:Nat):Nat:=if n=0 then 0 else Nat.log2 n+1
theorem Gc:bl 0=0:=rfl
theorem Bl (n:Nat):n<2^bl n:=by
 unfold bl;split
 ·omega
 ·exact Nat.lt_log2_self
theorem Cv (n:Nat)(h:n≠0):2^(bl n-1)≤n:=by
 unfold bl;rw [if_neg h,Nat.add_sub_cancel];exact Nat.log2_self_le h
theorem Ct (n:Nat)(h:n≠0):0<bl n:=by unfold bl;rw [if_neg h];omega
theorem Gu (n k:Nat)(h:n<2^k):bl n≤k:=by
 by_cases h0:n=0
 ·subst h0;exact Nat.zero_le _
 ·have := Cv        n h0;have p:=Ct     n h0
  by_cases hk:bl n≤k
  ·exact hk
  ·have : 2 ^ k ≤ 2 ^ (bl n - 1) := Nat.pow_le_pow_right (by decide) (by omega);omega
theorem Ael (n k:Nat)(h:2^k≤n):k<bl n:=by
 by_cases hk:k<bl n
 ·exact hk
 ·have : 2 ^ bl n ≤ 2 ^ k := Nat.pow_le_pow_right (by decide) (by omega);have:=Bl n;omega
theorem Uq (n k:Nat)(h1:2^k≤n)(h2:n<2^(k+1)):bl n=k+1:=by
 have:=Gu n _ h2;have:=Ael n _ h1;omega
theorem N1 (n:Nat)(h:n<18446744073709551616):bl n≤64:=Gu n 64 h
theorem Jn {n m:Nat}(h:n≤m):bl n≤bl m:=Gu n _ (Nat.lt_of_le_of_lt h (Bl m))
theorem Fm (n k:Nat)(h:n≠0):bl (n*2^k)=bl n+k:=by
 obtain ⟨l,hl⟩:∃ l,bl n=l+1:=⟨bl n-1,by have:=Ct n h;omega⟩;have a:=Cv n h;have b:=Bl n;rw [hl] at a b ⊢;rw [Nat.add_sub_cancel] at a;have:=Uq (n*2^k) (l+k) (by rw [Nat.pow_add];exact Nat.mul_le_mul_right _ a) (by rw [show l+k+1=(l+1)+k by omega,Nat.pow_add];exact Nat.mul_lt_mul_of_pos_right b (Nat.pow_pos (by decide)));omega
theorem P9     (n : Nat) (h : n ≠ 0) : bl n = 64 * ((limbs n).length - 1) + bl (nth (limbs n) ((limbs n).length - 1)) := by
 induction n using Nat.strongRecOn with
 | _ n ih =>
   rw [Bs n h,List.length_cons,Nat.add_sub_cancel]
   by_cases h1:n/18446744073709551616=0
   ·rw [h1, Av        ];have:n%18446744073709551616=n:=by omega
    simp [nth,this]
   ·have hl : 0 < (limbs (n / 18446744073709551616)).length := by rw [Bs        _ h1]; simp
    have IH:=ih _ (Nat.div_lt_self (by omega) (by decide)) h1;obtain ⟨l,hl⟩:∃ l,(limbs (n/18446744073709551616)).length=l+1:=⟨_,(Nat.succ_pred_eq_of_pos hl).symm⟩;rw [hl,Nat.add_sub_cancel] at IH;rw [hl,Ef];have key:bl n=bl (n/18446744073709551616)+64:=by
     obtain ⟨q,hq⟩:∃ q,bl (n/18446744073709551616)=q+1:=⟨bl (n/18446744073709551616)-1,by have:=Ct _ h1;omega⟩;have a:=Cv _ h1;have b:=Bl (n/18446744073709551616);rw [hq] at a b ⊢;rw [Nat.add_sub_cancel] at a
     have := Uq    n (q + 64) (by rw [Nat.pow_add]; have : (2:Nat) ^ 64 = 18446744073709551616 := by decide
                                  rw [this]; omega) (by rw [show q + 64 + 1 = (q + 1) + 64 by omega, Nat.pow_add]; have : (2:Nat) ^ 64 = 18446744073709551616 := by decide
                                                        rw [this];omega)
     omega
    omega
def tzF:Nat→Nat→Nat
 | 0,_=>0
 | f+1,n=>if n%2=1 then 0 else tzF f (n/2)+1
def tz (n:Nat):Nat:=tzF (bl n) n
theorem Q5:∀ (f n:Nat),n≠0→n<2^f→2^tzF f n ∣ n∧n/2^tzF f n%2=1
 | 0,n,h,hf=>by simp at hf;omega
 | f + 1, n, h, hf => by
   rw [tzF]
   by_cases e:n%2=1
   ·rw [if_pos e];simp [e]
   ·rw [if_neg e];have hh:n/2≠0:=by omega
    obtain ⟨a,b⟩:=Q5 f (n/2) hh (by rw [Nat.pow_succ] at hf;omega);obtain ⟨q,hq⟩:=a;refine ⟨⟨q,by rw [Nat.pow_succ,Nat.mul_right_comm,←hq];omega⟩,?_⟩;rw [Nat.pow_succ,Nat.mul_comm,←Nat.div_div_eq_div_mul];exact b
theorem Ua (n:Nat)(h:n≠0):2^tz n ∣ n:=(Q5 _ n h (Bl n)).1
theorem Rh (n:Nat)(h:n≠0):n/2^tz n%2=1:=(Q5 _ n h (Bl n)).2
theorem Q4 (n:Nat)(h:n≠0):n/2^tz n*2^tz n=n:=Nat.div_mul_cancel (Ua n h)
theorem Rm {a b x y:Nat}(hx:x%2=1)(hy:y%2=1)(h:x*2^a=y*2^b):a=b∧x=y:=by
 have key:∀ {a b x y:Nat},x%2=1→x*2^a=y*2^b→b≤a:=by
  intro a b x y hx h
  by_cases hab:b≤a
  ·exact hab
  ·obtain ⟨d, rfl⟩ : ∃ d, b = a + (d + 1) := ⟨b - a - 1, by omega⟩;rw [Nat.pow_add,←Nat.mul_assoc,Nat.mul_right_comm] at h;have:=Nat.eq_of_mul_eq_mul_right (Nat.pow_pos (by decide)) h;rw [Nat.pow_succ,←Nat.mul_assoc] at this;omega
 have e:a=b:=Nat.le_antisymm (key hy h.symm) (key hx h);subst e;exact ⟨rfl,Nat.eq_of_mul_eq_mul_right (Nat.pow_pos (by decide)) h⟩
theorem Ip (n k q:Nat)(hq:q%2=1)(h:n=q*2^k):tz n=k:=by
 have hn:n≠0:=by
  rintro rfl;have:0<q*2^k:=Nat.mul_pos (by omega) (Nat.pow_pos (by decide));omega
 exact (Rm (Rh n hn) hq ((Q4 n hn).trans h)).1
def tzL:List Nat→Nat
 | []=>0
 | x::xs=>if x=0 then 64+tzL xs else tz x
theorem Aa0 (n:Nat)(h:n≠0):tzL (limbs n)=tz n:=by
 induction n using Nat.strongRecOn with
 | _ n ih =>
   rw [Bs n h,tzL];have p:(2:Nat)^64=18446744073709551616:=by decide
   by_cases hx:n%18446744073709551616=0
   ·rw [if_pos hx];have h1:n/18446744073709551616≠0:=by omega
    rw [ih _ (Nat.div_lt_self (by omega) (by decide)) h1];have a:=Rh _ h1;have b:=Q4 _ h1;refine (Ip n _ _ a ?_).symm;rw [Nat.add_comm,Nat.pow_add,←Nat.mul_assoc,b,p];omega
   ·rw [if_neg hx];have a:=Rh     _ hx;have b:=Q4     _ hx;have c:tz (n%18446744073709551616)<64:=by
     by_cases hc:tz (n%18446744073709551616)<64
     ·exact hc
     ·have d := Ua _ hx;have:=Nat.le_of_dvd (by omega) d;have e:2^64≤2^tz (n%18446744073709551616):=Nat.pow_le_pow_right (by decide) (by omega);omega
    obtain ⟨d,hd⟩:∃ d,64=tz (n%18446744073709551616)+(d+1):=⟨64-tz (n%18446744073709551616)-1,by omega⟩;refine (Ip n _ (n%18446744073709551616/2^tz (n%18446744073709551616)+2^(d+1)*(n/18446744073709551616)) ?_ ?_).symm
    ·rw [Nat.pow_succ,Nat.mul_comm (2^d) 2,Nat.mul_assoc];omega
    ·rw [Nat.add_mul, b, Nat.mul_right_comm, ← Nat.pow_add, Nat.add_comm (d + 1), ← hd, p];omega
theorem Vq (xs:List Nat)(k:Nat)(h:k<xs.length):xs.drop k=nth xs k::xs.drop (k+1):=by
 rw [List.drop_eq_getElem_cons h,nth,List.getD_eq_getElem?_getD,List.getElem?_eq_getElem h];rfl
theorem Ad3 (xs:List Nat)(k:Nat)(h:k<xs.length):tzL (xs.drop k)=if nth xs k=0 then 64+tzL (xs.drop (k+1)) else tz (nth xs k):=by
 rw [Vq xs k h,tzL]
theorem Ng (n k:Nat)(h:n≠0)(hk:n<2^k):tz n<k:=by
 have:=Nat.le_of_dvd (Nat.pos_of_ne_zero h) (Ua n h);exact (Nat.pow_lt_pow_iff_right (by decide)).1 (Nat.lt_of_le_of_lt this hk)
end Go.Proofs.YtabjjdicffcolaaGreatDoor
namespace Go.Proofs.YtabjjdicffcolaaGreatDoor
theorem Ij (xs:List Nat)(i j y:Nat)(hi:i<xs.length):nth (xs.set i y) j=if i=j then y else nth xs j:=by
 unfold nth;rw [List.getD_eq_getElem?_getD,List.getD_eq_getElem?_getD,List.getElem?_set]
 by_cases e:i=j
 ·subst e;simp [hi]
 ·simp [e]
theorem Oj (xs:List Nat)(i:Nat)(h:xs.length≤i):nth xs i=0:=by
 unfold nth;rw [List.getD_eq_getElem?_getD,List.getElem?_eq_none h];rfl
theorem Gi (xs:List Nat)(i y:Nat)(hi:i<xs.length):val (xs.set i y)+18446744073709551616^i*nth xs i=val xs+18446744073709551616^i*y:=by
 induction xs generalizing i with
 | nil=>simp at hi
 | cons x xs ih =>
   cases i with
   | zero=>simp [val,nth];omega
   | succ i =>
     have:=ih i (by simpa using hi);rw [List.set_cons_succ,val,val,Ef,Nat.pow_succ];generalize 18446744073709551616^i=p at *;generalize val (xs.set i y)=a at *;generalize val xs=b at *;generalize nth xs i=c at *;have e1:p*18446744073709551616*c=18446744073709551616*(p*c):=by rw [Nat.mul_right_comm,Nat.mul_comm]
     have e2:p*18446744073709551616*y=18446744073709551616*(p*y):=by rw [Nat.mul_right_comm,Nat.mul_comm]
     rw [e1,e2];omega
theorem Dn {xs:List Nat}(h:Small xs)(i y:Nat)(hy:y<18446744073709551616):Small (xs.set i y):=by
 intro x hx
 rcases List.mem_or_eq_of_mem_set hx with h' | rfl
 ·exact h x h'
 ·exact hy
theorem D7 (n:Nat):Small (List.replicate n 0):=by
 intro x hx;rw [(List.mem_replicate.1 hx).2];decide
theorem Ga (n:Nat):val (List.replicate n 0)=0:=by
 induction n with
 | zero=>rfl
 | succ n ih=>rw [List.replicate_succ,val,ih]
theorem Fa (n i:Nat):nth (List.replicate n 0) i=0:=by
 unfold nth;rw [List.getD_eq_getElem?_getD,List.getElem?_replicate]
 split<;>rfl
theorem Ad9 {a b:Nat}(ha:a<18446744073709551616)(hb:b<18446744073709551616):a ||| b<18446744073709551616:=Nat.or_lt_two_pow (n:=64) ha hb
def J8 (out:List Nat) (q r i x:Nat):List Nat :=
 (out.set (q+i) (nth out (q+i) ||| (x*2^r%18446744073709551616))).set (q+i+1) (nth out (q+i+1) ||| (x/2/2^(63-r)))
def Fq (xs:List Nat) (q r n:Nat):Nat→List Nat
 | 0=>List.replicate n 0
 | k+1=>J8 (Fq xs q r n k) q r k (nth xs k)
theorem Ku (xs:List Nat)(q r n:Nat):∀ k,(Fq xs q r n k).length=n
 | 0=>by simp [Fq]
 | k+1=>by simp [Fq,J8,Ku xs q r n k]
theorem O8 (xs:List Nat)(h:Small xs)(q r n:Nat):∀ k,Small (Fq xs q r n k)
 | 0=>D7 n
 | k + 1 => by
   have ih:=O8 xs h q r n k;unfold Fq J8;refine Dn (Dn ih _ _ (Ad9 (nth_lt ih _) (Nat.mod_lt _ (by decide)))) _ _ (Ad9 (nth_lt ih _) ?_);refine Nat.lt_of_le_of_lt (Nat.div_le_self _ _) (Nat.lt_of_le_of_lt (Nat.div_le_self _ _) (nth_lt h _))
theorem Vm (x r:Nat)(hr:r<64):x/2/2^(63-r)=x*2^r/18446744073709551616:=by
 rw [Nat.div_div_eq_div_mul];have e:(18446744073709551616:Nat)=2*2^(63-r)*2^r:=by
  rw [Nat.mul_assoc,←Nat.pow_add,show 63-r+r=63 by omega]
 rw [e,Nat.mul_div_mul_right _ _ (Nat.pow_pos (by decide))]
theorem Aes (c x r:Nat)(hr:r<64)(hc:c<2^r):c ||| (x*2^r%18446744073709551616)=c+x*2^r%18446744073709551616:=by
 have e:(18446744073709551616:Nat)=2^(64-r)*2^r:=by
  rw [←Nat.pow_add,show 64-r+r=64 by omega]
 rw [e,Nat.mul_mod_mul_right,Nat.mul_comm,Nat.or_comm,←Nat.two_pow_add_eq_or_of_lt hc,Nat.add_comm]
theorem S5 (xs:List Nat)(h:Small xs)(q r n:Nat)(hr:r<64)(hn:n=q+xs.length+1):∀ k,k≤xs.length →
 val (Fq xs q r n k)=val (xs.take k)*2^r*18446744073709551616^q∧nth (Fq xs q r n k) (q+k)<2^r∧∀ j,q+k<j→nth (Fq xs q r n k) j=0
 | 0, _ => by
   refine ⟨by simp [Fq,Ga,val],?_,fun j _=>?_⟩
   ·rw [Fq,Fa];exact Nat.pow_pos (by decide)
   ·rw [Fq,Fa]
 | k + 1, hk => by
   obtain ⟨i1,i2,i3⟩:=S5 xs h q r n hr hn k (by omega);have hl:=Ku xs q r n k;have hx:=nth_lt h k;rw [Fq];generalize Fq xs q r n k=out at *;unfold J8;have h0:=i3 (q+k+1) (by omega);rw [h0,Nat.zero_or,Vm _ r hr,Aes _ _ r hr i2];have hx2:nth xs k*2^r/18446744073709551616<2^r:=by
    rw [Nat.div_lt_iff_lt_mul (by decide),Nat.mul_comm (2^r)];exact Nat.mul_lt_mul_of_pos_right hx (Nat.pow_pos (by decide))
   generalize hX:nth xs k*2^r=X at *;have l1:q+k<out.length:=by omega
   have l2:q+k+1<(out.set (q+k) (nth out (q+k)+X%18446744073709551616)).length:=by rw [List.length_set];omega
   refine ⟨?_,?_,fun j hj=>?_⟩
   ·have v1 := Gi      out (q + k) (nth out (q + k) + X % 18446744073709551616) l1;have v2:=Gi      _ (q+k+1) (X/18446744073709551616) l2;rw [Ij      _ _ _ _ l1,if_neg (by omega),h0] at v2;rw [Bu            xs k (by omega),Nat.add_mul,Nat.add_mul,←i1,Nat.mul_assoc (18446744073709551616^k),hX];rw [Nat.pow_succ] at v2;have e3:18446744073709551616^k*X*18446744073709551616^q=18446744073709551616^(q+k)*X:=by rw [Nat.mul_right_comm,←Nat.pow_add,Nat.add_comm k q]
    rw [e3];have e4:18446744073709551616^(q+k)*X=18446744073709551616^(q+k)*18446744073709551616*(X/18446744073709551616)+18446744073709551616^(q+k)*(X%18446744073709551616):=by
     rw [Nat.mul_assoc,←Nat.mul_add,Nat.div_add_mod]
    rw [e4];rw [Nat.mul_add] at v1;generalize 18446744073709551616^(q+k)*18446744073709551616*(X/18446744073709551616)=a at *;generalize 18446744073709551616^(q+k)*(X%18446744073709551616)=b at *;generalize 18446744073709551616^(q+k)*nth out (q+k)=c at *;omega
   ·rw [←Nat.add_assoc,Ij _ _ _ _ l2,if_pos rfl];exact hx2
   ·rw [Ij _ _ _ _ l2, if_neg (by omega), Ij _ _ _ _ l1, if_neg (by omega)];exact i3 j (by omega)
theorem Jr (n:Nat):2^n=2^(n%64)*18446744073709551616^(n/64):=by
 have e:(18446744073709551616:Nat)=2^64:=by decide
 rw [e,←Nat.pow_mul,←Nat.pow_add,Nat.mod_add_div]
theorem Aaj (xs:List Nat)(h:Small xs)(n:Nat):val (Fq xs (n/64) (n%64) (n/64+xs.length+1) xs.length)=val xs*2^n:=by
 have:=(S5 xs h (n/64) (n%64) _ (Nat.mod_lt _ (by decide)) rfl xs.length (Nat.le_refl _)).1;rw [this,List.take_of_length_le (Nat.le_refl _),Nat.mul_assoc,←Jr]
def Du (out ys:List Nat):Nat→List Nat × Nat
 | 0=>(out,0)
 | k + 1 => let s := Du   out ys k
   (s.1.set k ((nth s.1 k+nth ys k+s.2)%18446744073709551616),(nth s.1 k+nth ys k+s.2)/18446744073709551616)
theorem G9 (out ys:List Nat)(k:Nat):Du out ys (k+1)=((Du out ys k).1.set k ((nth (Du out ys k).1 k+nth ys k+(Du out ys k).2)%18446744073709551616),(nth (Du out ys k).1 k+nth ys k+(Du out ys k).2)/18446744073709551616):=rfl
theorem Fp (out ys:List Nat):∀ k,(Du out ys k).1.length=out.length
 | 0=>rfl
 | k+1=>by rw [G9,List.length_set,Fp out ys k]
theorem Gk (out ys:List Nat)(h:Small out):∀ k,Small (Du out ys k).1
 | 0=>h
 | k+1=>by rw [G9];exact Dn (Gk out ys h k) _ _ (Nat.mod_lt _ (by decide))
theorem Kj (out ys:List Nat)(h:Small out)(h':Small ys):∀ k,(Du out ys k).2≤1
 | 0=>by simp [Du]
 | k + 1 => by
   have a:=Kj out ys h h' k;have b:=nth_lt (Gk out ys h k) k;have c:=nth_lt h' k;rw [G9]
   show (nth (Du out ys k).1 k+nth ys k+(Du out ys k).2)/18446744073709551616≤1
   omega
theorem Gx (xs:List Nat)(k:Nat):val (xs.take (k+1))=val (xs.take k)+18446744073709551616^k*nth xs k:=by
 by_cases h:k<xs.length
 ·exact Bu xs k h
 ·rw [List.take_of_length_le (by omega),List.take_of_length_le (by omega),Oj xs k (by omega)];rfl
theorem Ru (out ys:List Nat):∀ k,k≤out.length→val (Du out ys k).1+18446744073709551616^k*(Du out ys k).2=val out+val (ys.take k)
 | 0,_=>by simp [Du,val]
 | k + 1, hk => by
   have ih:=Ru out ys k (by omega);have hl:=Fp out ys k;rw [G9,Gx];generalize Du out ys k=s at *;obtain ⟨o,c⟩:=s;simp only at *;generalize hT:nth o k+nth ys k+c=T;have v:=Gi o k (T%18446744073709551616) (by omega);have e:18446744073709551616^(k+1)*(T/18446744073709551616)+18446744073709551616^k*(T%18446744073709551616)=18446744073709551616^k*T:=by
    rw [Nat.pow_succ,Nat.mul_assoc,←Nat.mul_add,Nat.div_add_mod]
   have e2:18446744073709551616^k*T=18446744073709551616^k*nth o k+18446744073709551616^k*nth ys k+18446744073709551616^k*c:=by
    rw [←hT,Nat.mul_add,Nat.mul_add]
   omega
theorem Sr (out ys:List Nat)(h:Small out)(k:Nat)(hy:ys.length≤k)(hc:(Du out ys k).2=0):∀ d,k+d≤out.length→Du out ys (k+d)=((Du out ys k).1,0)
 | 0,_=>by rw [Nat.add_zero,←hc]
 | d + 1, hd => by
   have ih:=Sr out ys h k hy hc d (by omega);have hlt:=nth_lt (Gk out ys h k) (k+d);have hl:=Fp out ys k;rw [←Nat.add_assoc,G9,ih,Oj ys (k+d) (by omega)];simp only [Nat.add_zero];rw [Nat.mod_eq_of_lt hlt,Nat.div_eq_of_lt hlt]
   congr 1
   apply List.ext_getElem
   ·simp
   ·intro i h1 h2;rw [List.getElem_set]
    split
    ·rename_i e;subst e;rw [nth,List.getD_eq_getElem?_getD,List.getElem?_eq_getElem h2];rfl
    ·rfl
theorem Wa (xs ys:List Nat)(h:Small xs)(h':Small ys)(hle:ys.length≤xs.length):val (Du (xs++[0]) ys (xs.length+1)).1=val xs+val ys:=by
 have hs:Small (xs++[0]):=by
  intro x hx
  rcases List.mem_append.1 hx with hx | hx
  ·exact h x hx
  ·have : x = 0 := by simpa using hx
   omega
 have a:=Ru (xs++[0]) ys (xs.length+1) (by simp);rw [List.take_of_length_le (by omega),Cp,Nat.pow_succ] at a;have b:=Em _ h;have c:=Em _ h';have d:18446744073709551616^ys.length≤18446744073709551616^xs.length:=Nat.pow_le_pow_right (by decide) hle;have e:val [0]=0:=by simp [val]
 rw [e,Nat.mul_zero,Nat.add_zero] at a;generalize (Du (xs++[0]) ys (xs.length+1)).2=q at *;generalize (Du (xs++[0]) ys (xs.length+1)).1=o at *;generalize 18446744073709551616^xs.length=p at *;generalize 18446744073709551616^ys.length=p' at *;have hq:q=0:=by
  by_cases hq:q=0
  ·exact hq
  ·have : p * 18446744073709551616 * 1 ≤ p * 18446744073709551616 * q := Nat.mul_le_mul_left _ (by omega);omega
 rw [hq,Nat.mul_zero,Nat.add_zero] at a;exact a
end Go.Proofs.YtabjjdicffcolaaGreatDoor
namespace Go.Proofs.YtabjjdicffcolaaGreatDoor
def Jd (out ys:List Nat):Nat→List Nat × Nat
 | 0=>(out,0)
 | k + 1 => let s := Jd   out ys k
   (s.1.set k ((nth s.1 k+18446744073709551616-nth ys k-s.2)%18446744073709551616),if nth s.1 k<nth ys k+s.2 then 1 else 0)
theorem Ju (out ys:List Nat)(k:Nat):Jd out ys (k+1)=((Jd out ys k).1.set k ((nth (Jd out ys k).1 k+18446744073709551616-nth ys k-(Jd out ys k).2)%18446744073709551616),if nth (Jd out ys k).1 k<nth ys k+(Jd out ys k).2 then 1 else 0):=rfl
theorem Ji (out ys:List Nat):∀ k,(Jd out ys k).1.length=out.length
 | 0=>rfl
 | k+1=>by rw [Ju,List.length_set,Ji out ys k]
theorem Kl (out ys:List Nat)(h:Small out):∀ k,Small (Jd out ys k).1
 | 0=>h
 | k+1=>by rw [Ju];exact Dn (Kl out ys h k) _ _ (Nat.mod_lt _ (by decide))
theorem Lf (out ys:List Nat):∀ k,(Jd out ys k).2≤1
 | 0=>by simp [Jd]
 | k + 1 => by
   rw [Ju]
   show (if _ then 1 else 0)≤1
   split<;>omega
theorem Wg (out ys:List Nat)(h:Small out)(h':Small ys):∀ k,k≤out.length→val (Jd out ys k).1+val (ys.take k)=val out+18446744073709551616^k*(Jd out ys k).2
 | 0,_=>by simp [Jd,val]
 | k + 1, hk => by
   have ih:=Wg out ys h h' k (by omega);have hl:=Ji out ys k;have hx:=nth_lt (Kl out ys h k) k;have hy:=nth_lt h' k;have hb:=Lf out ys k;rw [Ju,Gx,Nat.pow_succ];generalize Jd out ys k=s at *;obtain ⟨o,c⟩:=s;simp only at *;generalize nth ys k=y at *;have v:=Gi o k ((nth o k+18446744073709551616-y-c)%18446744073709551616) (by omega);generalize nth o k=x at *;generalize 18446744073709551616^k=p at *
   by_cases hlt:x<y+c
   ·rw [if_pos hlt, Nat.mod_eq_of_lt (by omega)] at *;have e:p*(x+18446744073709551616-y-c)+p*y+p*c=p*x+p*18446744073709551616:=by
     rw [←Nat.mul_add,←Nat.mul_add,←Nat.mul_add];congr 1;omega
    rw [Nat.mul_one];omega
   ·have e0 : (x + 18446744073709551616 - y - c) % 18446744073709551616 = x - y - c := by omega
    rw [if_neg hlt];rw [e0] at v ⊢;have e:p*(x-y-c)+p*y+p*c=p*x:=by
     rw [←Nat.mul_add,←Nat.mul_add];congr 1;omega
    rw [Nat.mul_zero,Nat.add_zero];omega
theorem Abv (xs ys:List Nat)(h:Small xs)(h':Small ys)(hle:ys.length≤xs.length)(hv:val ys≤val xs):val (Jd xs ys xs.length).1=val xs-val ys:=by
 have a:=Wg xs ys h h' xs.length (Nat.le_refl _);rw [List.take_of_length_le hle] at a;have b:=Em _ (Kl xs ys h xs.length);rw [Ji] at b;have c:=Lf xs ys xs.length;generalize (Jd xs ys xs.length).2=q at *;have hq:q=0:=by
  by_cases hq:q=0
  ·exact hq
  ·obtain rfl : q = 1 := by omega
   rw [Nat.mul_one] at a;omega
 rw [hq,Nat.mul_zero,Nat.add_zero] at a;omega
theorem Acb (p c z:Nat) :
 (z+(p%18446744073709551616+c)%18446744073709551616)%18446744073709551616=(p+c+z)%18446744073709551616 ∧
 p/18446744073709551616+(p%18446744073709551616+c)/18446744073709551616+(z+(p%18446744073709551616+c)%18446744073709551616)/18446744073709551616=(p+c+z)/18446744073709551616:=by
 omega
theorem L7 (x y c z:Nat)(hx:x<18446744073709551616)(hy:y<18446744073709551616)(hc:c<18446744073709551616)(hz:z<18446744073709551616):(x*y+c+z)/18446744073709551616<18446744073709551616:=by
 have:x*y≤18446744073709551615*18446744073709551615:=Nat.mul_le_mul (by omega) (by omega);omega
def Hx (out:List Nat) (i x:Nat) (ys:List Nat):Nat→List Nat × Nat
 | 0=>(out,0)
 | j + 1 => let s := Hx   out i x ys j
   (s.1.set (i+j) ((x*nth ys j+s.2+nth s.1 (i+j))%18446744073709551616),(x*nth ys j+s.2+nth s.1 (i+j))/18446744073709551616)
theorem Iq (out:List Nat)(i x:Nat)(ys:List Nat)(j:Nat):Hx out i x ys (j+1)=((Hx out i x ys j).1.set (i+j) ((x*nth ys j+(Hx out i x ys j).2+nth (Hx out i x ys j).1 (i+j))%18446744073709551616),(x*nth ys j+(Hx out i x ys j).2+nth (Hx out i x ys j).1 (i+j))/18446744073709551616):=rfl
theorem Gn (out:List Nat)(i x:Nat)(ys:List Nat):∀ j,(Hx out i x ys j).1.length=out.length
 | 0=>rfl
 | j+1=>by rw [Iq,List.length_set,Gn out i x ys j]
theorem Ki (out:List Nat)(i x:Nat)(ys:List Nat)(h:Small out):∀ j,Small (Hx out i x ys j).1
 | 0=>h
 | j+1=>by rw [Iq];exact Dn (Ki out i x ys h j) _ _ (Nat.mod_lt _ (by decide))
theorem M7 (out:List Nat)(i x:Nat)(ys:List Nat)(h:Small out)(h':Small ys)(hx:x<18446744073709551616):∀ j,(Hx out i x ys j).2<18446744073709551616
 | 0=>by simp [Hx]
 | j + 1 => by
   rw [Iq];exact L7 _ _ _ _ hx (nth_lt h' j) (M7 out i x ys h h' hx j) (nth_lt (Ki out i x ys h j) _)
theorem Wb (out:List Nat)(i x:Nat)(ys:List Nat):∀ j k,i+j≤k→i+j≤out.length→nth (Hx out i x ys j).1 k=nth out k
 | 0,_,_,_=>rfl
 | j + 1, k, h, hk => by
   rw [Iq]
   show nth ((Hx out i x ys j).1.set (i+j) _) k=_
   rw [Ij _ _ _ _ (by rw [Gn];omega),if_neg (by omega)];exact Wb out i x ys j k (by omega) (by omega)
theorem Uw (out:List Nat)(i x:Nat)(ys:List Nat):∀ j,i+j≤out.length →
 val (Hx out i x ys j).1+18446744073709551616^(i+j)*(Hx out i x ys j).2=val out+18446744073709551616^i*(x*val (ys.take j))
 | 0,_=>by simp [Hx,val]
 | j + 1, hj => by
   have ih:=Uw out i x ys j (by omega);have hl:=Gn out i x ys j;rw [Iq,Gx,←Nat.add_assoc,Nat.pow_succ,Nat.mul_add,Nat.mul_add,←Nat.add_assoc,←ih];generalize Hx out i x ys j=s at *;obtain ⟨o,c⟩:=s;simp only at *;generalize hT:x*nth ys j+c+nth o (i+j)=T;have v:=Gi o (i+j) (T%18446744073709551616) (by omega);have e1:18446744073709551616^i*(x*(18446744073709551616^j*nth ys j))=18446744073709551616^(i+j)*(x*nth ys j):=by
    rw [Nat.pow_add,←Nat.mul_assoc x,Nat.mul_comm x,Nat.mul_assoc,Nat.mul_assoc]
   rw [e1];generalize 18446744073709551616^(i+j)=p at *;have e:p*18446744073709551616*(T/18446744073709551616)+p*(T%18446744073709551616)=p*T:=by
    rw [Nat.mul_assoc,←Nat.mul_add,Nat.div_add_mod]
   have e2:p*T=p*(x*nth ys j)+p*c+p*nth o (i+j):=by rw [←hT,Nat.mul_add,Nat.mul_add]
   omega
def Lc (xs ys:List Nat) (n:Nat):Nat→List Nat
 | 0=>List.replicate n 0
 | i + 1 => let s := Hx   (Lc   xs ys n i) i (nth xs i) ys ys.length
   s.1.set (i+ys.length) s.2
theorem Mc (xs ys:List Nat)(n i:Nat):Lc xs ys n (i+1)=(Hx (Lc xs ys n i) i (nth xs i) ys ys.length).1.set (i+ys.length) (Hx (Lc xs ys n i) i (nth xs i) ys ys.length).2:=rfl
theorem Ls (xs ys:List Nat)(n:Nat):∀ i,(Lc xs ys n i).length=n
 | 0=>by simp [Lc]
 | i+1=>by rw [Mc,List.length_set,Gn,Ls xs ys n i]
theorem Re (xs ys:List Nat)(n:Nat)(h:Small xs)(h':Small ys):∀ i,Small (Lc xs ys n i)
 | 0=>D7 n
 | i + 1 => by
   have ih:=Re xs ys n h h' i;rw [Mc];exact Dn (Ki _ _ _ _ ih _) _ _ (M7 _ _ _ _ ih h' (nth_lt h i) _)
theorem Wr (xs ys:List Nat)(h:Small xs)(h':Small ys):∀ i,i≤xs.length →
 val (Lc xs ys (xs.length+ys.length) i)=val (xs.take i)*val ys∧∀ k,i+ys.length≤k→nth (Lc xs ys (xs.length+ys.length) i) k=0
 | 0, _ => by
   refine ⟨by simp [Lc,Ga,val],fun k _=>?_⟩;rw [Lc,Fa]
 | i + 1, hi => by
   obtain ⟨i1,i2⟩:=Wr xs ys h h' i (by omega);have hl:=Ls xs ys (xs.length+ys.length) i;rw [Mc];generalize Lc xs ys (xs.length+ys.length) i=out at *;have v:=Uw out i (nth xs i) ys ys.length (by omega);have hn:=Wb out i (nth xs i) ys ys.length;have hrl:=Gn out i (nth xs i) ys ys.length;generalize Hx out i (nth xs i) ys ys.length=s at *;obtain ⟨o,c⟩:=s;simp only at *;have v2:=Gi o (i+ys.length) c (by omega);rw [hn _ (Nat.le_refl _) (by omega),i2 _ (Nat.le_refl _),Nat.mul_zero,Nat.add_zero] at v2;refine ⟨?_,fun k hk=>?_⟩
   ·rw [List.take_of_length_le (Nat.le_refl _)] at v;rw [Bu xs i (by omega),Nat.add_mul,←i1,Nat.mul_assoc,←v];exact v2
   ·rw [Ij _ _ _ _ (by omega),if_neg (by omega),hn k (by omega) (by omega),i2 k (by omega)]
theorem Ad5 (xs ys:List Nat)(h:Small xs)(h':Small ys):val (Lc xs ys (xs.length+ys.length) xs.length)=val xs*val ys:=by
 rw [(Wr xs ys h h' xs.length (Nat.le_refl _)).1,List.take_of_length_le (Nat.le_refl _)]
def I7 (xs:List Nat) (r i:Nat):Nat:=if i+1<xs.length then (nth xs i/2^r) ||| (nth xs (i+1)*2%18446744073709551616*2^(63-r)%18446744073709551616) else nth xs i/2^r
def D6 (xs:List Nat) (r:Nat):Nat→List Nat
 | 0=>List.replicate xs.length 0
 | k+1=>(D6 xs r k).set k (I7 xs r k)
theorem Hj (xs:List Nat)(r:Nat):∀ k,(D6 xs r k).length=xs.length
 | 0=>by simp [D6]
 | k+1=>by rw [D6,List.length_set,Hj xs r k]
theorem Aa8 (xs:List Nat)(h:Small xs)(r i:Nat)(hr:r<64):I7 xs r i=nth xs i/2^r+nth xs (i+1)*2^(64-r)%18446744073709551616:=by
 have e64:(18446744073709551616:Nat)=2^(64-r)*2^r:=by
  rw [←Nat.pow_add,show 64-r+r=64 by omega]
 unfold I7
 by_cases hi:i+1<xs.length
 ·rw [if_pos hi];have e1:nth xs (i+1)*2%18446744073709551616*2^(63-r)%18446744073709551616=nth xs (i+1)*2^(64-r)%18446744073709551616:=by
   rw [Nat.mod_mul_mod,Nat.mul_assoc,show (64-r)=(63-r)+1 by omega,Nat.pow_succ,Nat.mul_comm 2]
  have e2:nth xs i/2^r<2^(64-r):=by
   rw [Nat.div_lt_iff_lt_mul (Nat.pow_pos (by decide)),←e64];exact nth_lt h i
  rw [e1];have e3:nth xs (i+1)*2^(64-r)%18446744073709551616=2^(64-r)*(nth xs (i+1)%2^r):=by
   rw [e64,Nat.mul_comm (nth xs (i+1)),Nat.mul_mod_mul_left]
  rw [e3,Nat.or_comm,←Nat.two_pow_add_eq_or_of_lt e2,Nat.add_comm]
 ·rw [if_neg hi,Oj xs (i+1) (by omega),Nat.zero_mul,Nat.zero_mod,Nat.add_zero]
theorem Abh (xs:List Nat)(h:Small xs)(r i:Nat)(_hr:r<64):I7 xs r i<18446744073709551616:=by
 unfold I7;have a:=nth_lt h i;have b:nth xs i/2^r≤nth xs i:=Nat.div_le_self _ _
 split
 ·exact Ad9 (by omega) (Nat.mod_lt _ (by decide))
 ·omega
theorem Nj (xs:List Nat)(h:Small xs)(r:Nat)(hr:r<64):∀ k,Small (D6 xs r k)
 | 0=>D7 _
 | k+1=>Dn (Nj xs h r hr k) _ _ (Abh xs h r k hr)
theorem Qa (xs:List Nat)(r:Nat):∀ k j,k≤xs.length→nth (D6 xs r k) j=if j<k then I7 xs r j else 0
 | 0,j,_=>by rw [D6,Fa,if_neg (by omega)]
 | k + 1, j, hk => by
   rw [D6,Ij _ _ _ _ (by rw [Hj];omega),Qa xs r k j (by omega)]
   by_cases e:k=j
   ·subst e;rw [if_pos rfl,if_pos (by omega)]
   ·rw [if_neg e]
    by_cases h2:j<k
    ·rw [if_pos h2,if_pos (by omega)]
    ·rw [if_neg h2,if_neg (by omega)]
theorem Qh (xs:List Nat)(h:Small xs)(r:Nat)(hr:r<64)(o:List Nat)(ho:∀ j,j<xs.length→nth o j=I7 xs r j):∀ k,k≤xs.length→k≤o.length →
 val (o.take k)*2^r+nth xs 0%2^r=val (xs.take k)+18446744073709551616^k*(nth xs k%2^r)
 | 0,_,_=>by simp [val]
 | k + 1, hk, hk' => by
   have ih:=Qh xs h r hr o ho k (by omega) (by omega);have e64:(18446744073709551616:Nat)=2^(64-r)*2^r:=by
    rw [←Nat.pow_add,show 64-r+r=64 by omega]
   rw [Bu o k (by omega),Bu xs k (by omega),ho k (by omega),Aa8 xs h r k hr,Nat.add_mul,Nat.pow_succ];have e3:nth xs (k+1)*2^(64-r)%18446744073709551616*2^r=18446744073709551616*(nth xs (k+1)%2^r):=by
    rw [e64,Nat.mul_comm (nth xs (k+1)),Nat.mul_mod_mul_left,Nat.mul_right_comm]
   have e4:nth xs k/2^r*2^r+nth xs k%2^r=nth xs k:=by rw [Nat.mul_comm];exact Nat.div_add_mod _ _
   generalize 18446744073709551616^k=p at *;have e5:p*(nth xs k/2^r+nth xs (k+1)*2^(64-r)%18446744073709551616)*2^r=p*(nth xs k/2^r*2^r)+p*(18446744073709551616*(nth xs (k+1)%2^r)):=by
    rw [Nat.mul_assoc,Nat.add_mul,e3,Nat.mul_add]
   rw [e5,←Nat.mul_assoc p 18446744073709551616];have e6:p*nth xs k=p*(nth xs k/2^r*2^r)+p*(nth xs k%2^r):=by rw [←Nat.mul_add,e4]
   omega
theorem Yd (xs:List Nat)(h:Small xs)(r:Nat)(hr:r<64):val (D6 xs r xs.length)=val xs/2^r:=by
 have hl:=Hj xs r xs.length;have:=Qh xs h r hr (D6 xs r xs.length) (fun j hj=>by rw [Qa xs r _ j (Nat.le_refl _),if_pos hj]) xs.length (Nat.le_refl _) (by omega);rw [List.take_of_length_le (by omega),List.take_of_length_le (Nat.le_refl _),Oj xs xs.length (Nat.le_refl _),Nat.zero_mod,Nat.mul_zero,Nat.add_zero] at this;have hlt:nth xs 0%2^r<2^r:=Nat.mod_lt _ (Nat.pow_pos (by decide));rw [←this,Nat.add_comm,Nat.add_mul_div_right _ _ (Nat.pow_pos (by decide)),Nat.div_eq_of_lt hlt,Nat.zero_add]
theorem Qu (xs:List Nat)(h:Small xs)(k:Nat):val (xs.drop k)=val xs/18446744073709551616^k:=by
 by_cases hk:k≤xs.length
 ·have e := Cp (xs.take k) (xs.drop k);rw [List.take_append_drop,List.length_take,Nat.min_eq_left hk] at e;have b:=Em _ (Dq h k);rw [List.length_take,Nat.min_eq_left hk] at b;rw [e,Nat.add_mul_div_left _ _ (Nat.pow_pos (by decide)),Nat.div_eq_of_lt b,Nat.zero_add]
 ·rw [List.drop_eq_nil_of_le (by omega), Nat.div_eq_of_lt]
  ·rfl
  ·exact Nat.lt_of_lt_of_le (Em _ h) (Nat.pow_le_pow_right (by decide) (by omega))
theorem Aav (xs:List Nat)(h:Small xs)(n:Nat):val (D6 (xs.drop (n/64)) (n%64) (xs.drop (n/64)).length)=val xs/2^n:=by
 rw [Yd _ (Iz h _) _ (Nat.mod_lt _ (by decide)),Qu xs h,Nat.div_div_eq_div_mul,Jr n,Nat.mul_comm]
end Go.Proofs.YtabjjdicffcolaaGreatDoor
namespace Go.Proofs.YtabjjdicffcolaaGreatDoor
structure Fy (u d yn1 yn0 q r:Nat):Prop where
 sum:u=q*yn1+r
 ge:(u*4294967296+d)/(yn1*4294967296+yn0)≤q
theorem Kg (u d yn1 yn0:Nat)(hd:d<4294967296)(h1:0<yn1):Fy u d yn1 yn0 (u/yn1) (u%yn1):=by
 refine ⟨by rw [Nat.mul_comm];exact (Nat.div_add_mod u yn1).symm,?_⟩;have e:(u*4294967296+d)/(yn1*4294967296)=u/yn1:=by
  rw [Nat.mul_comm yn1,←Nat.div_div_eq_div_mul]
  congr 1
  omega
 rw [←e];exact Nat.div_le_div_left (by omega) (by omega)
theorem J1 {u d yn1 yn0 q r:Nat}(h:Fy u d yn1 yn0 q r)(h1:0<yn1)(hc:q*yn0≤4294967296*r+d):q=(u*4294967296+d)/(yn1*4294967296+yn0):=by
 refine Nat.le_antisymm ?_ h.ge;rw [Nat.le_div_iff_mul_le (by omega),h.sum,Nat.mul_add,Nat.add_mul,Nat.mul_assoc q yn1,←Nat.mul_assoc];have:r*4294967296=4294967296*r:=Nat.mul_comm _ _;omega
theorem Gq {u d yn1 yn0 q r:Nat}(h:Fy u d yn1 yn0 q r)(hu:u<yn1*4294967296+yn0)(hd:d<4294967296)(_h1:0<yn1)(hc:4294967296≤q∨4294967296*r+d<q*yn0) :
 1≤q∧Fy u d yn1 yn0 (q-1) (r+yn1):=by
 have key:(u*4294967296+d)/(yn1*4294967296+yn0)<q:=by
  rw [Nat.div_lt_iff_lt_mul (by omega)]
  rcases hc with hc | hc
  ·have : 4294967296 * (yn1 * 4294967296 + yn0) ≤ q * (yn1 * 4294967296 + yn0) := Nat.mul_le_mul_right _ hc;omega
  ·rw [h.sum, Nat.mul_add, Nat.add_mul, ← Nat.mul_assoc];have:r*4294967296=4294967296*r:=Nat.mul_comm _ _;omega
 have h1:1≤q:=Nat.lt_of_le_of_lt (Nat.zero_le _) key;refine ⟨h1,?_,Nat.le_sub_one_of_lt key⟩;have hs:=h.sum;clear key hc h;obtain ⟨k,rfl⟩:∃ k,q=k+1:=⟨q-1,by omega⟩;rw [Nat.add_sub_cancel,hs,Nat.add_mul];omega
theorem Fl {u d yn1 yn0 q r:Nat}(h:Fy u d yn1 yn0 q r)(hu:u<yn1*4294967296+yn0)(h0:yn0<4294967296)(h1:0<yn1)(hr:4294967296≤r):q=(u*4294967296+d)/(yn1*4294967296+yn0):=by
 have hq:q<4294967296:=by
  have a:q*yn1<yn1*4294967296:=by have:=h.sum;omega
  rw [Nat.mul_comm] at a;exact Nat.lt_of_mul_lt_mul_left a
 refine J1 h h1 ?_;have:q*yn0≤4294967296*4294967296:=Nat.mul_le_mul (by omega) (by omega);omega
theorem Aat (u d Y q:Nat)(hY:Y<18446744073709551616)(h0:0<Y)(hq:q=(u*4294967296+d)/Y) :
 (((u*4294967296:Int)+d)-q*Y)%18446744073709551616=(((u*4294967296+d)%Y:Nat):Int):=by
 have a:=Nat.div_add_mod (u*4294967296+d) Y;rw [←hq] at a;have b:=Nat.mod_lt (u*4294967296+d) h0;have c:(q:Int)*Y=((Y*q:Nat):Int):=by rw [Int.natCast_mul,Int.mul_comm]
 rw [c];generalize Y*q=p at *;generalize (u*4294967296+d)%Y=t at *;omega
theorem X8 (N Y lo hi:Nat)(h0:0<Y)(hN:N=hi*4294967296+lo)(_hl:lo<4294967296) :
 N/Y=hi/Y*4294967296+(hi%Y*4294967296+lo)/Y∧N%Y=(hi%Y*4294967296+lo)%Y:=by
 have a:=Nat.div_add_mod hi Y;have e:N=Y*(hi/Y*4294967296)+(hi%Y*4294967296+lo):=by
  rw [hN,←Nat.mul_assoc,←Nat.add_assoc,←Nat.add_mul,a]
 rw [e];exact ⟨by rw [Nat.mul_add_div h0],by rw [Nat.mul_add_mod]⟩
theorem Abj (hi lo y s:Nat)(hs:s<64)(hlo:lo<18446744073709551616)(hlt:hi<y) :
 (hi*18446744073709551616+lo)*2^s=(hi*2^s+lo/2^(64-s))*18446744073709551616+lo*2^s%18446744073709551616∧hi*2^s+lo/2^(64-s)<y*2^s∧lo/2^(64-s)<2^s∧lo/2^(64-s)=lo*2^s/18446744073709551616:=by
 have e64:(18446744073709551616:Nat)=2^(64-s)*2^s:=by
  rw [←Nat.pow_add,show 64-s+s=64 by omega]
 have e1:lo/2^(64-s)=lo*2^s/18446744073709551616:=by
  rw [e64,Nat.mul_div_mul_right _ _ (Nat.pow_pos (by decide))]
 have h2:lo/2^(64-s)<2^s:=by
  rw [Nat.div_lt_iff_lt_mul (Nat.pow_pos (by decide)),Nat.mul_comm (2^s),←e64];exact hlo
 refine ⟨?_,?_,h2,e1⟩
 ·have := Nat.div_add_mod (lo * 2 ^ s) 18446744073709551616;rw [←e1] at this;rw [Nat.add_mul,Nat.add_mul,Nat.mul_right_comm];omega
 ·have : (hi + 1) * 2 ^ s ≤ y * 2 ^ s := Nat.mul_le_mul_right _ hlt;rw [Nat.add_mul] at this;omega
theorem Dr (u d Y:Nat)(hu:u<Y)(hd:d<4294967296):(u*4294967296+d)/Y<4294967296:=by
 rw [Nat.div_lt_iff_lt_mul (by omega)];omega
end Go.Proofs.YtabjjdicffcolaaGreatDoor
namespace Go.Proofs.YtabjjdicffcolaaGreatDoor
structure Raw where
 neg:Bool
 m:List Nat
 e:Int
structure Dy where
 neg:Bool
 m:Nat
 e:Int
def Dy.raw (d:Dy):Raw:=⟨d.neg,limbs d.m,d.e⟩
def dz:Dy:=⟨false,0,0⟩
def Raw.dy (r:Raw):Dy:=⟨r.neg,val r.m,r.e⟩
def Fc (r:Raw):Bool :=
 if r.m.length=0 then (!r.neg&&r.e==0) else (Mk r.m&&nth r.m 0%2==1&&decide (-1048576≤r.e)&&decide (r.e≤1048576))
structure Dy.Ok (d:Dy):Prop where
 len:(limbs d.m).length≤64
 zero:d.m=0→d.neg=false∧d.e=0
 odd:d.m≠0→d.m%2=1
 lo:-1048576≤d.e
 hi:d.e≤1048576
theorem Xc {xs:List Nat}(h:Small xs)(hm:Mk xs=true):limbs (val xs)=xs:=by
 rw [←N7 xs h];unfold Mk at hm
 by_cases h0:xs.length=0
 ·obtain rfl := List.eq_nil_of_length_eq_zero h0
  rfl
 ·simp [h0] at hm
  have hm2:=hm;obtain ⟨k,hk⟩:∃ k,xs.length=k+1:=⟨xs.length-1,by omega⟩;have:tl xs=xs.length:=by
   unfold tl;rw [hk,Dp,if_neg];have:=hm2.2
   rwa [hk,Nat.add_sub_cancel] at this
  rw [this,List.take_of_length_le (Nat.le_refl _)]
theorem Adr {xs:List Nat}(hm:Mk xs=true):xs.length≤64:=by
 unfold Mk at hm
 by_cases h0:xs.length=0
 ·omega
 ·simp [h0] at hm
  exact hm.1
theorem Lq (n:Nat):nth (limbs n) 0=n%18446744073709551616:=by
 by_cases h:n=0
 ·subst h;rw [Av];rfl
 ·rw [Bs n h];rfl
theorem Gl {r:Raw}(h:Small r.m)(hm:Fc r=true):r.dy.raw=r∧r.dy.Ok:=by
 obtain ⟨neg,m,e⟩:=r;unfold Fc at hm;simp only at hm h
 by_cases h0:m.length=0
 ·obtain rfl := List.eq_nil_of_length_eq_zero h0
  simp at hm
  obtain ⟨rfl,rfl⟩:=hm;refine ⟨by simp [Raw.dy,Dy.raw,val,Av],?_⟩;refine ⟨by simp [Raw.dy,val,Av],fun _=>⟨rfl,rfl⟩,fun h=>absurd rfl h,by simp [Raw.dy],by simp [Raw.dy]⟩
 ·rw [if_neg h0] at hm;simp only [Bool.and_eq_true,beq_iff_eq,decide_eq_true_eq] at hm;obtain ⟨⟨⟨h1,h2⟩,h3⟩,h4⟩:=hm;have hl:=Xc         h h1;have hv:val m≠0:=by
   intro hv;rw [hv,Av] at hl;rw [←hl] at h0;simp at h0
  refine ⟨by simp only [Raw.dy,Dy.raw];rw [hl],?_⟩;refine ⟨by simp only [Raw.dy];rw [hl];exact Adr h1,fun h=>absurd h hv,fun _=>?_,h3,h4⟩;simp only [Raw.dy];rw [←hl,Lq] at h2;omega
theorem Sd (n:Nat)(h:(limbs n).length≤64):Mk (limbs n)=true:=by
 by_cases h0:n=0
 ·subst h0;rw [Av];rfl
 ·unfold Mk  ;have:=I9         n h0
  simp [h]
  right
  exact this
theorem Dy.Ok.may {d:Dy}(h:d.Ok):Fc d.raw=true:=by
 unfold Fc Dy.raw;simp only
 by_cases h0:d.m=0
 ·obtain ⟨a, b⟩ := h.zero h0;rw [h0,Av,a,b];rfl
 ·rw [if_neg (by have := Bg               d.m h0; omega), Sd            d.m h.len, Lq            ];have h1:=h.odd h0;have h2:=h.lo;have h3:=h.hi;have h4:d.m%18446744073709551616%2=1:=by omega
  simp [h4,h2,h3]
theorem Dy.raw_dy (d:Dy):d.raw.dy=d:=by
 simp [Dy.raw,Raw.dy,Bq]
theorem Dy.small (d:Dy):Small d.raw.m:=Dd _
theorem Ky:dz.Ok:=⟨by simp [dz,Av],fun _=>⟨rfl,rfl⟩,fun h=>absurd rfl h,by decide,by decide⟩
structure Outc (α:Type) where
 v:α
 k:Int
def good {α:Type} (a:α):Outc α:=⟨a,0⟩
def bad (k:Int):Outc Dy:=⟨dz,k⟩
def Ch (neg:Bool) (n:Nat) (e:Int):Outc Dy :=
 if n=0 then good dz
 else if 64<(limbs (n/2^tz n)).length then bad 2
 else if 1048576<e∨e < -1048576-tz n then bad 3
 else if 1048576<e+tz n then bad 3
 else good ⟨neg,n/2^tz n,e+tz n⟩
theorem Ii (neg:Bool)(n:Nat)(e:Int):(Ch neg n e).v.Ok∧((Ch neg n e).k≠0→(Ch neg n e).v=dz):=by
 unfold Ch
 by_cases h0:n=0
 ·rw [if_pos h0];exact ⟨Ky,fun _=>rfl⟩
 ·rw [if_neg h0]
  by_cases h1:64<(limbs (n/2^tz n)).length
  ·rw [if_pos h1];exact ⟨Ky,fun _=>rfl⟩
  ·rw [if_neg h1]
   by_cases h2:1048576<e∨e < -1048576-tz n
   ·rw [if_pos h2];exact ⟨Ky,fun _=>rfl⟩
   ·rw [if_neg h2]
    by_cases h3:1048576<e+tz n
    ·rw [if_pos h3];exact ⟨Ky,fun _=>rfl⟩
    ·rw [if_neg h3];have ho:=Rh n h0;refine ⟨⟨by simp only [good];omega,fun hz=>?_,fun _=>ho,by simp only [good];omega,by simp only [good];omega⟩,fun h=>absurd rfl h⟩;simp only [good] at hz;rw [hz] at ho;omega
end Go.Proofs.YtabjjdicffcolaaGreatDoor
namespace Go.Proofs.YtabjjdicffcolaaGreatDoor.Dg
def val:List Nat→Nat
 | []=>0
 | x::xs=>x+65536*val xs
def Small (xs:List Nat):Prop:=∀ x∈xs,x<65536
def limbs (n:Nat):List Nat:=if _h:n=0 then [] else (n%65536)::limbs (n/65536)
termination_by n
decreasing_by exact Nat.div_lt_self (by omega) (by decide)
theorem Av:limbs 0=[]:=by rw [limbs];simp
theorem Bs (n:Nat)(h:n≠0):limbs n=(n%65536)::limbs (n/65536):=by rw [limbs];simp [h]
theorem Bq (n:Nat):val (limbs n)=n:=by
 induction n using Nat.strongRecOn with
 | _ n ih =>
   by_cases h:n=0
   ·subst h;rw [Av];rfl
   ·rw [Bs n h, val, ih (n / 65536) (Nat.div_lt_self (by omega) (by decide))];exact Nat.mod_add_div n 65536
theorem Dd (n:Nat):Small (limbs n):=by
 induction n using Nat.strongRecOn with
 | _ n ih =>
   by_cases h:n=0
   ·subst h;rw [Av];intro x hx;cases hx
   ·rw [Bs        n h];intro x hx
    rcases List.mem_cons.1 hx with rfl | hx
    ·exact Nat.mod_lt _ (by decide)
    ·exact ih (n/65536) (Nat.div_lt_self (by omega) (by decide)) x hx
def Dp (xs:List Nat):Nat→Nat
 | 0=>0
 | k+1=>if nth xs k=0 then Dp xs k else k+1
def tl (xs:List Nat):Nat:=Dp xs xs.length
theorem Lp (xs:List Nat):∀ k,Dp xs k≤k
 | 0=>Nat.le_refl _
 | k + 1 => by
   unfold Dp;split
   ·exact Nat.le_succ_of_le (Lp xs k)
   ·exact Nat.le_refl _
theorem Vv (xs:List Nat):tl xs≤xs.length:=Lp xs _
theorem nth_lt {xs:List Nat}(h:Small xs)(i:Nat):nth xs i<65536:=by
 unfold nth
 by_cases hi:i<xs.length
 ·rw [List.getD_eq_getElem?_getD,List.getElem?_eq_getElem hi];exact h _ (List.getElem_mem hi)
 ·rw [List.getD_eq_getElem?_getD,List.getElem?_eq_none (by omega)];decide
theorem Iu (x:Nat)(xs:List Nat):∀ k,Dp (x::xs) (k+1)=if Dp xs k=0 then (if x=0 then 0 else 1) else Dp xs k+1
 | 0=>by simp [Dp,nth]
 | k + 1 => by
   rw [Dp,Ef,Iu x xs k,Dp]
   by_cases h:nth xs k=0
   ·simp [h]
   ·simp [h]
theorem N7 (xs:List Nat)(h:Small xs):xs.take (tl xs)=limbs (val xs):=by
 induction xs with
 | nil=>simp [tl,Dp,val,Av]
 | cons x xs ih =>
   have hx:x<65536:=h x (List.mem_cons_self);have hs:Small xs:=fun y hy=>h y (List.mem_cons_of_mem _ hy)
   have ih':=ih hs;have ht:tl (x::xs)=if tl xs=0 then (if x=0 then 0 else 1) else tl xs+1:=Iu x xs xs.length
   have hv:tl xs=0↔val xs=0:=by
    constructor
    ·intro h0;rw [h0] at ih';have:=Bq        (val xs);rw [←ih'] at this
     simpa [val] using this.symm
    ·intro h0;rw [h0,Av] at ih';have h1:=congrArg List.length ih';have h2:=Vv xs;rw [List.length_take,List.length_nil] at h1;omega
   by_cases h0:val xs=0
   ·rw [ht, if_pos (hv.2 h0)]
    by_cases hx0:x=0
    ·simp [hx0,val,h0,Av]
    ·rw [if_neg hx0, val, h0];have e1:(x+65536*0)%65536=x:=by omega
     have e2:(x+65536*0)/65536=0:=by omega
     rw [Bs _ (by omega),e1,e2,Av]
     simp
   ·rw [ht, if_neg (fun h => h0 (hv.1 h)), List.take_succ_cons, ih', val];rw [Bs        (x+65536*val xs) (by omega)];have e1:(x+65536*val xs)%65536=x:=by omega
    have e2:(x+65536*val xs)/65536=val xs:=by omega
    rw [e1,e2]
theorem length_limbs (n : Nat) : (limbs n).length = if n = 0 then 0 else Nat.log2 n / 16 + 1 := by
 induction n using Nat.strongRecOn with
 | _ n ih =>
   by_cases h:n=0
   ·subst h;simp [Av]
   ·rw [Bs        n h, List.length_cons, ih (n / 65536) (Nat.div_lt_self (by omega) (by decide)), if_neg h]
    by_cases h1:n/65536=0
    ·rw [if_pos h1];have:Nat.log2 n<16:=(Nat.log2_lt h).2 (by omega);omega
    ·rw [if_neg h1];have key:Nat.log2 n=Nat.log2 (n/65536)+16:=by
      have a1:=Nat.log2_self_le h1;have a2:=Nat.lt_log2_self (n:=n/65536);have b1:2^(Nat.log2 (n/65536)+16)≤n:=by
       rw [Nat.pow_add]
       calc 2^Nat.log2 (n/65536)*2^16≤(n/65536)*2^16:=Nat.mul_le_mul_right _ a1
        _≤n:=Nat.div_mul_le_self n 65536
      have b2:n<2^(Nat.log2 (n/65536)+16+1):=by
       have:n<(n/65536+1)*65536:=by
        have:=Nat.lt_mul_div_succ n (show 0<65536 by decide);rw [Nat.mul_comm] at this;exact this
       calc n<(n/65536+1)*65536:=this
        _≤2^(Nat.log2 (n/65536)+1)*65536:=Nat.mul_le_mul_right _ a2
        _=2^(Nat.log2 (n/65536)+16+1):=by rw [show Nat.log2 (n/65536)+16+1=(Nat.log2 (n/65536)+1)+16 by omega,Nat.pow_add _ _ 16]
      have c1:=(Nat.le_log2 h).2 b1;have c2:=(Nat.log2_lt h).2 b2;omega
     rw [key];omega
def Ey (xs ys:List Nat):Nat→Int
 | 0=>0
 | k+1=>if nth xs k=nth ys k then Ey xs ys k else if nth xs k<nth ys k then -1 else 1
theorem Cp (xs ys:List Nat):val (xs++ys)=val xs+65536^xs.length*val ys:=by
 induction xs with
 | nil=>simp [val]
 | cons x xs ih =>
   rw [List.cons_append,val,ih,val,List.length_cons,Nat.pow_succ];generalize 65536^xs.length=p;rw [Nat.mul_add,Nat.add_assoc]
   congr 2
   rw [←Nat.mul_assoc,Nat.mul_comm p]
theorem Em (xs:List Nat)(h:Small xs):val xs<65536^xs.length:=by
 induction xs with
 | nil=>simp [val]
 | cons x xs ih =>
   have hx:x<65536:=h x (List.mem_cons_self);have:=ih (fun y hy=>h y (List.mem_cons_of_mem _ hy));rw [val,List.length_cons,Nat.pow_succ];generalize 65536^xs.length=p at *;omega
theorem Dq {xs:List Nat}(h:Small xs)(k:Nat):Small (xs.take k):=fun x hx=>h x (List.mem_of_mem_take hx)
theorem Iz {xs:List Nat}(h:Small xs)(k:Nat):Small (xs.drop k):=fun x hx=>h x (List.mem_of_mem_drop hx)
theorem Bu (xs:List Nat)(k:Nat)(h:k<xs.length):val (xs.take (k+1))=val (xs.take k)+65536^k*nth xs k:=by
 rw [Jp xs k h,Cp,List.length_take,Nat.min_eq_left (by omega)]
 simp [val]
theorem Iy (xs ys:List Nat)(hx:Small xs)(hy:Small ys):∀ k,k≤xs.length→k≤ys.length→Ey xs ys k=Dm (val (xs.take k)) (val (ys.take k))
 | 0,_,_=>by simp [Ey,Dm]
 | k + 1, h1, h2 => by
   have ih:=Iy xs ys hx hy k (by omega) (by omega);rw [Ey,Bu xs k (by omega),Bu ys k (by omega),ih];have a:=Em _ (Dq hx k);have b:=Em _ (Dq hy k);rw [List.length_take,Nat.min_eq_left (by omega)] at a b;generalize 65536^k=p at *;generalize val (xs.take k)=u at *;generalize val (ys.take k)=v at *;generalize nth xs k=x;generalize nth ys k=y
   by_cases e:x=y
   ·subst e;rw [if_pos rfl];unfold Dm;simp only [Nat.add_lt_add_iff_right,Nat.add_right_cancel_iff]
   ·rw [if_neg e]
    by_cases l:x<y
    ·rw [if_pos l];have:p*(x+1)≤p*y:=Nat.mul_le_mul_left _ l;rw [Nat.mul_add] at this;unfold Dm;rw [if_pos (by omega)]
    ·rw [if_neg l];have:p*(y+1)≤p*x:=Nat.mul_le_mul_left _ (by omega);rw [Nat.mul_add] at this;unfold Dm;rw [if_neg (by omega),if_neg (by omega)]
theorem Cc (n:Nat):n<65536^(limbs n).length:=by
 have:=Em _ (Dd n)
 rwa [Bq] at this
theorem F8 (n:Nat)(h:n≠0):65536^((limbs n).length-1)≤n:=by
 induction n using Nat.strongRecOn with
 | _ n ih =>
   rw [Bs n h,List.length_cons,Nat.add_sub_cancel]
   by_cases h1:n/65536=0
   ·rw [h1,Av];simp;omega
   ·have := ih _ (Nat.div_lt_self (by omega) (by decide)) h1;have hl:0<(limbs (n/65536)).length:=by rw [Bs        _ h1];simp
    obtain ⟨l,hl⟩:∃ l,(limbs (n/65536)).length=l+1:=⟨_,(Nat.succ_pred_eq_of_pos hl).symm⟩;rw [hl] at this ⊢;rw [Nat.add_sub_cancel] at this;rw [Nat.pow_succ];generalize 65536^l=p at *;omega
theorem Fh (n m:Nat)(h:(limbs n).length<(limbs m).length):n<m:=by
 have a:=Cc n;have hm:m≠0:=by rintro rfl;rw [Av] at h;simp at h
 have b:=F8 m hm;have c:65536^(limbs n).length≤65536^((limbs m).length-1):=Nat.pow_le_pow_right (by decide) (by omega);omega
theorem Kv (n m:Nat)(h:(limbs n).length=(limbs m).length):Ey (limbs n) (limbs m) (limbs n).length=Dm n m:=by
 rw [Iy _ _ (Dd n) (Dd m) _ (Nat.le_refl _) (by omega),List.take_of_length_le (Nat.le_refl _),List.take_of_length_le (by omega),Bq,Bq]
theorem I9 (n:Nat)(h:n≠0):nth (limbs n) ((limbs n).length-1)≠0:=by
 induction n using Nat.strongRecOn with
 | _ n ih =>
   rw [Bs n h,List.length_cons,Nat.add_sub_cancel]
   by_cases h1:n/65536=0
   ·rw [h1,Av];simp [nth];omega
   ·have hl : 0 < (limbs (n / 65536)).length := by rw [Bs        _ h1]; simp
    have:=ih _ (Nat.div_lt_self (by omega) (by decide)) h1;obtain ⟨l,hl⟩:∃ l,(limbs (n/65536)).length=l+1:=⟨_,(Nat.succ_pred_eq_of_pos hl).symm⟩;rw [hl] at this ⊢;rw [Ef];exact this
theorem Bg (n:Nat)(h:n≠0):0<(limbs n).length:=by rw [Bs n h];simp
theorem P9     (n : Nat) (h : n ≠ 0) : bl n = 16 * ((limbs n).length - 1) + bl (nth (limbs n) ((limbs n).length - 1)) := by
 induction n using Nat.strongRecOn with
 | _ n ih =>
   rw [Bs n h,List.length_cons,Nat.add_sub_cancel]
   by_cases h1:n/65536=0
   ·rw [h1, Av        ];have:n%65536=n:=by omega
    simp [nth,this]
   ·have hl : 0 < (limbs (n / 65536)).length := by rw [Bs        _ h1]; simp
    have IH:=ih _ (Nat.div_lt_self (by omega) (by decide)) h1;obtain ⟨l,hl⟩:∃ l,(limbs (n/65536)).length=l+1:=⟨_,(Nat.succ_pred_eq_of_pos hl).symm⟩;rw [hl,Nat.add_sub_cancel] at IH;rw [hl,Ef];have key:bl n=bl (n/65536)+16:=by
     obtain ⟨q,hq⟩:∃ q,bl (n/65536)=q+1:=⟨bl (n/65536)-1,by have:=Ct _ h1;omega⟩;have a:=Cv _ h1;have b:=Bl (n/65536);rw [hq] at a b ⊢;rw [Nat.add_sub_cancel] at a
     have := Uq    n (q + 16) (by rw [Nat.pow_add]; have : (2:Nat) ^ 16 = 65536 := by decide
                                  rw [this]; omega) (by rw [show q + 16 + 1 = (q + 1) + 16 by omega, Nat.pow_add]; have : (2:Nat) ^ 16 = 65536 := by decide
                                                        rw [this];omega)
     omega
    omega
end Go.Proofs.YtabjjdicffcolaaGreatDoor.Dg
