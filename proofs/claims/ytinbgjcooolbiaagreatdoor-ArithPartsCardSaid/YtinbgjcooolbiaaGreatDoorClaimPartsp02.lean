/- Words and contracts, part 2. -/
set_option maxRecDepth 100000
set_option maxHeartbeats 0
namespace Go.Proofs.YtinbgjcooolbiaaGreatDoor
def nth (xs:List Nat) (i:Nat):Nat:=xs.getD i 0
def val:List Nat→Nat
 | []=>0
 | x::xs=>x+18446744073709551616*val xs
def Small (xs:List Nat):Prop:=∀ x∈xs,x<18446744073709551616
def limbs (n:Nat):List Nat:=if _h:n=0 then [] else (n%18446744073709551616)::limbs (n/18446744073709551616)
termination_by n
decreasing_by exact Nat.div_lt_self (by omega) (by decide)
theorem limbs_zero:limbs 0=[]:=by rw [limbs];simp
theorem Bc (n:Nat)(h:n≠0):limbs n=(n%18446744073709551616)::limbs (n/18446744073709551616):=by rw [limbs];simp [h]
theorem val_limbs (n:Nat):val (limbs n)=n:=by
 induction n using Nat.strongRecOn with
 | _ n ih =>
   by_cases h:n=0
   ·subst h;rw [limbs_zero];rfl
   ·rw [Bc n h,val,ih (n/18446744073709551616) (Nat.div_lt_self (by omega) (by decide))];exact Nat.mod_add_div n 18446744073709551616
theorem Cf (n:Nat):Small (limbs n):=by
 induction n using Nat.strongRecOn with
 | _ n ih =>
   by_cases h:n=0
   ·subst h;rw [limbs_zero];intro x hx;cases hx
   ·rw [Bc n h];intro x hx;rcases List.mem_cons.1 hx with rfl | hx
    ·exact Nat.mod_lt _ (by decide)
    ·exact ih (n/18446744073709551616) (Nat.div_lt_self (by omega) (by decide)) x hx
def Cn (xs:List Nat):Nat→Nat
 | 0=>0
 | k+1=>if nth xs k=0 then Cn xs k else k+1
def tl (xs:List Nat):Nat:=Cn xs xs.length
theorem It (xs:List Nat):∀ k,Cn xs k≤k
 | 0=>Nat.le_refl _
 | k + 1 => by
   unfold Cn;split
   ·exact Nat.le_succ_of_le (It xs k)
   ·exact Nat.le_refl _
theorem tl_le (xs:List Nat):tl xs≤xs.length:=It xs _
theorem Bs (x:Nat)(xs:List Nat)(i:Nat):nth (x::xs) (i+1)=nth xs i:=rfl
theorem nth_lt {xs:List Nat}(h:Small xs)(i:Nat):nth xs i<18446744073709551616:=by
 unfold nth;by_cases hi:i<xs.length
 ·rw [List.getD_eq_getElem?_getD,List.getElem?_eq_getElem hi];exact h _ (List.getElem_mem hi)
 ·rw [List.getD_eq_getElem?_getD,List.getElem?_eq_none (by omega)];decide
theorem Gj (x:Nat)(xs:List Nat):∀ k,Cn (x::xs) (k+1)=if Cn xs k=0 then (if x=0 then 0 else 1) else Cn xs k+1
 | 0=>by simp [Cn,nth]
 | k + 1 => by
   rw [Cn,Bs,Gj x xs k,Cn];by_cases h:nth xs k=0
   ·simp [h]
   ·simp [h]
theorem take_tl (xs:List Nat)(h:Small xs):xs.take (tl xs)=limbs (val xs):=by
 induction xs with
 | nil=>simp [tl,Cn,val,limbs_zero]
 | cons x xs ih =>
   have hx:x<18446744073709551616:=h x (List.mem_cons_self);have hs:Small xs:=fun y hy=>h y (List.mem_cons_of_mem _ hy)
   have ih':=ih hs;have ht:tl (x::xs)=if tl xs=0 then (if x=0 then 0 else 1) else tl xs+1:=Gj x xs xs.length
   have hv:tl xs=0↔val xs=0:=by
    constructor
    ·intro h0;rw [h0] at ih';have:=val_limbs (val xs);rw [←ih'] at this;simpa [val] using this.symm
    ·intro h0;rw [h0,limbs_zero] at ih';have h1:=congrArg List.length ih';have h2:=tl_le xs;rw [List.length_take,List.length_nil] at h1;omega
   by_cases h0:val xs=0
   ·rw [ht,if_pos (hv.2 h0)];by_cases hx0:x=0
    ·simp [hx0,val,h0,limbs_zero]
    ·rw [if_neg hx0,val,h0];have e1:(x+18446744073709551616*0)%18446744073709551616=x:=by omega
     have e2:(x+18446744073709551616*0)/18446744073709551616=0:=by omega
     rw [Bc _ (by omega),e1,e2,limbs_zero];simp
   ·rw [ht,if_neg (fun h=>h0 (hv.1 h)),List.take_succ_cons,ih',val];rw [Bc (x+18446744073709551616*val xs) (by omega)];have e1:(x+18446744073709551616*val xs)%18446744073709551616=x:=by omega
    have e2:(x+18446744073709551616*val xs)/18446744073709551616=val xs:=by omega
    rw [e1,e2]
theorem length_limbs (n : Nat) : (limbs n).length = if n = 0 then 0 else Nat.log2 n / 64 + 1 := by
 induction n using Nat.strongRecOn with
 | _ n ih =>
   by_cases h:n=0
   ·subst h;simp [limbs_zero]
   ·rw [Bc        n h, List.length_cons, ih (n / 18446744073709551616) (Nat.div_lt_self (by omega) (by decide)), if_neg h];by_cases h1:n/18446744073709551616=0
    ·rw [if_pos h1];have:Nat.log2 n<64:=(Nat.log2_lt h).2 (by omega);omega
    ·rw [if_neg h1];have key:Nat.log2 n=Nat.log2 (n/18446744073709551616)+64:=by
      have a1:=Nat.log2_self_le h1;have a2:=Nat.lt_log2_self (n:=n/18446744073709551616);have b1:2^(Nat.log2 (n/18446744073709551616)+64)≤n:=by
       rw [Nat.pow_add]
       calc 2^Nat.log2 (n/18446744073709551616)*2^64≤(n/18446744073709551616)*2^64:=Nat.mul_le_mul_right _ a1
        _≤n:=Nat.div_mul_le_self n 18446744073709551616
      have b2:n<2^(Nat.log2 (n/18446744073709551616)+64+1):=by
       have:n<(n/18446744073709551616+1)*18446744073709551616:=by
        have:=Nat.lt_mul_div_succ n (show 0<18446744073709551616 by decide);rw [Nat.mul_comm] at this;exact this
       calc n<(n/18446744073709551616+1)*18446744073709551616:=this
        _≤2^(Nat.log2 (n/18446744073709551616)+1)*18446744073709551616:=Nat.mul_le_mul_right _ a2
        _=2^(Nat.log2 (n/18446744073709551616)+64+1):=by rw [show Nat.log2 (n/18446744073709551616)+64+1=(Nat.log2 (n/18446744073709551616)+1)+64 by omega,Nat.pow_add _ _ 64]
      have c1:=(Nat.le_log2 h).2 b1;have c2:=(Nat.log2_lt h).2 b2;omega
     rw [key];omega
def Ja (xs:List Nat):Bool:=xs.length==0||(decide (xs.length≤64)&&nth xs (xs.length-1) != 0)
def Bp (n m:Nat):Int:=if n<m then -1 else if n=m then 0 else 1
def Dh (xs ys:List Nat):Nat→Int
 | 0=>0
 | k+1=>if nth xs k=nth ys k then Dh xs ys k else if nth xs k<nth ys k then -1 else 1
theorem val_append (xs ys:List Nat):val (xs++ys)=val xs+18446744073709551616^xs.length*val ys:=by
 induction xs with
 | nil=>simp [val]
 | cons x xs ih =>
   rw [List.cons_append,val,ih,val,List.length_cons,Nat.pow_succ];generalize 18446744073709551616^xs.length=p;rw [Nat.mul_add,Nat.add_assoc]
   congr 2
   rw [←Nat.mul_assoc,Nat.mul_comm p]
theorem val_lt (xs:List Nat)(h:Small xs):val xs<18446744073709551616^xs.length:=by
 induction xs with
 | nil=>simp [val]
 | cons x xs ih =>
   have hx:x<18446744073709551616:=h x (List.mem_cons_self);have:=ih (fun y hy=>h y (List.mem_cons_of_mem _ hy));rw [val,List.length_cons,Nat.pow_succ];generalize 18446744073709551616^xs.length=p at *;omega
theorem small_take {xs:List Nat}(h:Small xs)(k:Nat):Small (xs.take k):=fun x hx=>h x (List.mem_of_mem_take hx)
theorem Gi {xs:List Nat}(h:Small xs)(k:Nat):Small (xs.drop k):=fun x hx=>h x (List.mem_of_mem_drop hx)
theorem Fm (xs:List Nat)(k:Nat)(h:k<xs.length):xs.take (k+1)=xs.take k++[nth xs k]:=by
 rw [List.take_succ_eq_append_getElem h,nth,List.getD_eq_getElem?_getD,List.getElem?_eq_getElem h];rfl
theorem Bf (xs:List Nat)(k:Nat)(h:k<xs.length):val (xs.take (k+1))=val (xs.take k)+18446744073709551616^k*nth xs k:=by
 rw [Fm xs k h,val_append,List.length_take,Nat.min_eq_left (by omega)];simp [val]
theorem Gd (xs ys:List Nat)(hx:Small xs)(hy:Small ys):∀ k,k≤xs.length→k≤ys.length→Dh xs ys k=Bp (val (xs.take k)) (val (ys.take k))
 | 0,_,_=>by simp [Dh,Bp]
 | k + 1, h1, h2 => by
   have ih:=Gd xs ys hx hy k (by omega) (by omega);rw [Dh,Bf xs k (by omega),Bf ys k (by omega),ih];have a:=val_lt _ (small_take hx k);have b:=val_lt _ (small_take hy k);rw [List.length_take,Nat.min_eq_left (by omega)] at a b;generalize 18446744073709551616^k=p at *;generalize val (xs.take k)=u at *;generalize val (ys.take k)=v at *;generalize nth xs k=x;generalize nth ys k=y;by_cases e:x=y
   ·subst e;rw [if_pos rfl];unfold Bp;simp only [Nat.add_lt_add_iff_right,Nat.add_right_cancel_iff]
   ·rw [if_neg e];by_cases l:x<y
    ·rw [if_pos l];have:p*(x+1)≤p*y:=Nat.mul_le_mul_left _ l;rw [Nat.mul_add] at this;unfold Bp;rw [if_pos (by omega)]
    ·rw [if_neg l];have:p*(y+1)≤p*x:=Nat.mul_le_mul_left _ (by omega);rw [Nat.mul_add] at this;unfold Bp;rw [if_neg (by omega),if_neg (by omega)]
theorem lt_pow_length (n:Nat):n<18446744073709551616^(limbs n).length:=by
 have:=val_lt _ (Cf n);rwa [val_limbs] at this
theorem Dp (n:Nat)(h:n≠0):18446744073709551616^((limbs n).length-1)≤n:=by
 induction n using Nat.strongRecOn with
 | _ n ih =>
   rw [Bc n h,List.length_cons,Nat.add_sub_cancel];by_cases h1:n/18446744073709551616=0
   ·rw [h1,limbs_zero];simp;omega
   ·have:=ih _ (Nat.div_lt_self (by omega) (by decide)) h1;have hl:0<(limbs (n/18446744073709551616)).length:=by rw [Bc _ h1];simp
    obtain ⟨l,hl⟩:∃ l,(limbs (n/18446744073709551616)).length=l+1:=⟨_,(Nat.succ_pred_eq_of_pos hl).symm⟩;rw [hl] at this ⊢;rw [Nat.add_sub_cancel] at this;rw [Nat.pow_succ];generalize 18446744073709551616^l=p at *;omega
theorem C0 (n m:Nat)(h:(limbs n).length<(limbs m).length):n<m:=by
 have a:=lt_pow_length n;have hm:m≠0:=by rintro rfl;rw [limbs_zero] at h;simp at h
 have b:=Dp m hm;have c:18446744073709551616^(limbs n).length≤18446744073709551616^((limbs m).length-1):=Nat.pow_le_pow_right (by decide) (by omega);omega
theorem Hm (n m:Nat)(h:(limbs n).length=(limbs m).length):Dh (limbs n) (limbs m) (limbs n).length=Bp n m:=by
 rw [Gd _ _ (Cf n) (Cf m) _ (Nat.le_refl _) (by omega),List.take_of_length_le (Nat.le_refl _),List.take_of_length_le (by omega),val_limbs,val_limbs]
theorem Gf (n:Nat)(h:n≠0):nth (limbs n) ((limbs n).length-1)≠0:=by
 induction n using Nat.strongRecOn with
 | _ n ih =>
   rw [Bc n h,List.length_cons,Nat.add_sub_cancel];by_cases h1:n/18446744073709551616=0
   ·rw [h1,limbs_zero];simp [nth];omega
   ·have hl:0<(limbs (n/18446744073709551616)).length:=by rw [Bc _ h1];simp
    have:=ih _ (Nat.div_lt_self (by omega) (by decide)) h1;obtain ⟨l,hl⟩:∃ l,(limbs (n/18446744073709551616)).length=l+1:=⟨_,(Nat.succ_pred_eq_of_pos hl).symm⟩;rw [hl] at this ⊢;rw [Bs];exact this
theorem length_limbs_pos (n:Nat)(h:n≠0):0<(limbs n).length:=by rw [Bc n h];simp
def bl (n:Nat):Nat:=if n=0 then 0 else Nat.log2 n+1
theorem Ey:bl 0=0:=rfl
theorem Bi (n:Nat):n<2^bl n:=by
 unfold bl;split
 ·omega
 ·exact Nat.lt_log2_self
theorem Cz (n:Nat)(h:n≠0):2^(bl n-1)≤n:=by
 unfold bl;rw [if_neg h,Nat.add_sub_cancel];exact Nat.log2_self_le h
theorem Gc (n:Nat)(h:n≠0):0<bl n:=by unfold bl;rw [if_neg h];omega
theorem Gb (n k:Nat)(h:n<2^k):bl n≤k:=by
 by_cases h0:n=0
 ·subst h0;exact Nat.zero_le _
 ·have:=Cz n h0;have p:=Gc n h0;by_cases hk:bl n≤k
  ·exact hk
  ·have:2^k≤2^(bl n-1):=Nat.pow_le_pow_right (by decide) (by omega);omega
theorem Xf (n k:Nat)(h:2^k≤n):k<bl n:=by
 by_cases hk:k<bl n
 ·exact hk
 ·have:2^bl n≤2^k:=Nat.pow_le_pow_right (by decide) (by omega);have:=Bi n;omega
theorem Pv (n k:Nat)(h1:2^k≤n)(h2:n<2^(k+1)):bl n=k+1:=by
 have:=Gb n _ h2;have:=Xf n _ h1;omega
theorem Jz (n:Nat)(h:n<18446744073709551616):bl n≤64:=Gb n 64 h
theorem Iy {n m:Nat}(h:n≤m):bl n≤bl m:=Gb n _ (Nat.lt_of_le_of_lt h (Bi m))
theorem Ci (n k:Nat)(h:n≠0):bl (n*2^k)=bl n+k:=by
 obtain ⟨l,hl⟩:∃ l,bl n=l+1:=⟨bl n-1,by have:=Gc n h;omega⟩;have a:=Cz n h;have b:=Bi n;rw [hl] at a b ⊢;rw [Nat.add_sub_cancel] at a;have:=Pv (n*2^k) (l+k) (by rw [Nat.pow_add];exact Nat.mul_le_mul_right _ a) (by rw [show l+k+1=(l+1)+k by omega,Nat.pow_add];exact Nat.mul_lt_mul_of_pos_right b (Nat.pow_pos (by decide)));omega
theorem L4     (n : Nat) (h : n ≠ 0) : bl n = 64 * ((limbs n).length - 1) + bl (nth (limbs n) ((limbs n).length - 1)) := by
 induction n using Nat.strongRecOn with
 | _ n ih =>
   rw [Bc n h,List.length_cons,Nat.add_sub_cancel];by_cases h1:n/18446744073709551616=0
   ·rw [h1,limbs_zero];have:n%18446744073709551616=n:=by omega
    simp [nth,this]
   ·have hl:0<(limbs (n/18446744073709551616)).length:=by rw [Bc _ h1];simp
    have IH:=ih _ (Nat.div_lt_self (by omega) (by decide)) h1;obtain ⟨l,hl⟩:∃ l,(limbs (n/18446744073709551616)).length=l+1:=⟨_,(Nat.succ_pred_eq_of_pos hl).symm⟩;rw [hl,Nat.add_sub_cancel] at IH;rw [hl,Bs];have key:bl n=bl (n/18446744073709551616)+64:=by
     obtain ⟨q,hq⟩:∃ q,bl (n/18446744073709551616)=q+1:=⟨bl (n/18446744073709551616)-1,by have:=Gc _ h1;omega⟩;have a:=Cz _ h1;have b:=Bi (n/18446744073709551616);rw [hq] at a b ⊢;rw [Nat.add_sub_cancel] at a
     have := Pv    n (q + 64) (by rw [Nat.pow_add]; have : (2:Nat) ^ 64 = 18446744073709551616 := by decide
                                  rw [this]; omega) (by rw [show q + 64 + 1 = (q + 1) + 64 by omega, Nat.pow_add]; have : (2:Nat) ^ 64 = 18446744073709551616 := by decide
                                                        rw [this];omega)
     omega
    omega
def tzF:Nat→Nat→Nat
 | 0,_=>0
 | f+1,n=>if n%2=1 then 0 else tzF f (n/2)+1
def tz (n:Nat):Nat:=tzF (bl n) n
theorem M8:∀ (f n:Nat),n≠0→n<2^f→2^tzF f n ∣ n∧n/2^tzF f n%2=1
 | 0,n,h,hf=>by simp at hf;omega
 | f + 1, n, h, hf => by
   rw [tzF];by_cases e:n%2=1
   ·rw [if_pos e];simp [e]
   ·rw [if_neg e];have hh:n/2≠0:=by omega
    obtain ⟨a,b⟩:=M8 f (n/2) hh (by rw [Nat.pow_succ] at hf;omega);obtain ⟨q,hq⟩:=a;refine ⟨⟨q,by rw [Nat.pow_succ,Nat.mul_right_comm,←hq];omega⟩,?_⟩;rw [Nat.pow_succ,Nat.mul_comm,←Nat.div_div_eq_div_mul];exact b
theorem M9 (n:Nat)(h:n≠0):2^tz n ∣ n:=(M8 _ n h (Bi n)).1
theorem Ju (n:Nat)(h:n≠0):n/2^tz n%2=1:=(M8 _ n h (Bi n)).2
theorem Na (n:Nat)(h:n≠0):n/2^tz n*2^tz n=n:=Nat.div_mul_cancel (M9 n h)
theorem Mj {a b x y:Nat}(hx:x%2=1)(hy:y%2=1)(h:x*2^a=y*2^b):a=b∧x=y:=by
 have key:∀ {a b x y:Nat},x%2=1→x*2^a=y*2^b→b≤a:=by
  intro a b x y hx h;by_cases hab:b≤a
  ·exact hab
  ·obtain ⟨d,rfl⟩:∃ d,b=a+(d+1):=⟨b-a-1,by omega⟩;rw [Nat.pow_add,←Nat.mul_assoc,Nat.mul_right_comm] at h;have:=Nat.eq_of_mul_eq_mul_right (Nat.pow_pos (by decide)) h;rw [Nat.pow_succ,←Nat.mul_assoc] at this;omega
 have e:a=b:=Nat.le_antisymm (key hy h.symm) (key hx h);subst e;exact ⟨rfl,Nat.eq_of_mul_eq_mul_right (Nat.pow_pos (by decide)) h⟩
theorem Hg (n k q:Nat)(hq:q%2=1)(h:n=q*2^k):tz n=k:=by
 have hn:n≠0:=by
  rintro rfl;have:0<q*2^k:=Nat.mul_pos (by omega) (Nat.pow_pos (by decide));omega
 exact (Mj (Ju n hn) hq ((Na n hn).trans h)).1
def tzL:List Nat→Nat
 | []=>0
 | x::xs=>if x=0 then 64+tzL xs else tz x
theorem Vo (n:Nat)(h:n≠0):tzL (limbs n)=tz n:=by
 induction n using Nat.strongRecOn with
 | _ n ih =>
   rw [Bc n h,tzL];have p:(2:Nat)^64=18446744073709551616:=by decide
   by_cases hx:n%18446744073709551616=0
   ·rw [if_pos hx];have h1:n/18446744073709551616≠0:=by omega
    rw [ih _ (Nat.div_lt_self (by omega) (by decide)) h1];have a:=Ju _ h1;have b:=Na _ h1;refine (Hg n _ _ a ?_).symm;rw [Nat.add_comm,Nat.pow_add,←Nat.mul_assoc,b,p];omega
   ·rw [if_neg hx];have a:=Ju _ hx;have b:=Na _ hx;have c:tz (n%18446744073709551616)<64:=by
     by_cases hc:tz (n%18446744073709551616)<64
     ·exact hc
     ·have d:=M9 _ hx;have:=Nat.le_of_dvd (by omega) d;have e:2^64≤2^tz (n%18446744073709551616):=Nat.pow_le_pow_right (by decide) (by omega);omega
    obtain ⟨d,hd⟩:∃ d,64=tz (n%18446744073709551616)+(d+1):=⟨64-tz (n%18446744073709551616)-1,by omega⟩;refine (Hg n _ (n%18446744073709551616/2^tz (n%18446744073709551616)+2^(d+1)*(n/18446744073709551616)) ?_ ?_).symm
    ·rw [Nat.pow_succ,Nat.mul_comm (2^d) 2,Nat.mul_assoc];omega
    ·rw [Nat.add_mul,b,Nat.mul_right_comm,←Nat.pow_add,Nat.add_comm (d+1),←hd,p];omega
theorem Qd (xs:List Nat)(k:Nat)(h:k<xs.length):xs.drop k=nth xs k::xs.drop (k+1):=by
 rw [List.drop_eq_getElem_cons h,nth,List.getD_eq_getElem?_getD,List.getElem?_eq_getElem h];rfl
theorem Za (xs:List Nat)(k:Nat)(h:k<xs.length):tzL (xs.drop k)=if nth xs k=0 then 64+tzL (xs.drop (k+1)) else tz (nth xs k):=by
 rw [Qd xs k h,tzL]
theorem Rp (n k:Nat)(h:n≠0)(hk:n<2^k):tz n<k:=by
 have:=Nat.le_of_dvd (Nat.pos_of_ne_zero h) (M9 n h);exact (Nat.pow_lt_pow_iff_right (by decide)).1 (Nat.lt_of_le_of_lt this hk)
end Go.Proofs.YtinbgjcooolbiaaGreatDoor
namespace Go.Proofs.YtinbgjcooolbiaaGreatDoor
theorem nth_set (xs:List Nat)(i j y:Nat)(hi:i<xs.length):nth (xs.set i y) j=if i=j then y else nth xs j:=by
 unfold nth;rw [List.getD_eq_getElem?_getD,List.getD_eq_getElem?_getD,List.getElem?_set];by_cases e:i=j
 ·subst e;simp [hi]
 ·simp [e]
theorem Kn (xs:List Nat)(i:Nat)(h:xs.length≤i):nth xs i=0:=by
 unfold nth;rw [List.getD_eq_getElem?_getD,List.getElem?_eq_none h];rfl
theorem val_set (xs:List Nat)(i y:Nat)(hi:i<xs.length):val (xs.set i y)+18446744073709551616^i*nth xs i=val xs+18446744073709551616^i*y:=by
 induction xs generalizing i with
 | nil=>simp at hi
 | cons x xs ih =>
   cases i with
   | zero=>simp [val,nth];omega
   | succ i =>
     have:=ih i (by simpa using hi);rw [List.set_cons_succ,val,val,Bs,Nat.pow_succ];generalize 18446744073709551616^i=p at *;generalize val (xs.set i y)=a at *;generalize val xs=b at *;generalize nth xs i=c at *;have e1:p*18446744073709551616*c=18446744073709551616*(p*c):=by rw [Nat.mul_right_comm,Nat.mul_comm]
     have e2:p*18446744073709551616*y=18446744073709551616*(p*y):=by rw [Nat.mul_right_comm,Nat.mul_comm]
     rw [e1,e2];omega
theorem Bt {xs:List Nat}(h:Small xs)(i y:Nat)(hy:y<18446744073709551616):Small (xs.set i y):=by
 intro x hx;rcases List.mem_or_eq_of_mem_set hx with h' | rfl
 ·exact h x h'
 ·exact hy
theorem Cy (n:Nat):Small (List.replicate n 0):=by
 intro x hx;rw [(List.mem_replicate.1 hx).2];decide
theorem Eq (n:Nat):val (List.replicate n 0)=0:=by
 induction n with
 | zero=>rfl
 | succ n ih=>rw [List.replicate_succ,val,ih]
theorem Dn (n i:Nat):nth (List.replicate n 0) i=0:=by
 unfold nth;rw [List.getD_eq_getElem?_getD,List.getElem?_replicate];split<;>rfl
theorem Xz {a b:Nat}(ha:a<18446744073709551616)(hb:b<18446744073709551616):a ||| b<18446744073709551616:=Nat.or_lt_two_pow (n:=64) ha hb
def G8 (out:List Nat) (q r i x:Nat):List Nat :=
 (out.set (q+i) (nth out (q+i) ||| (x*2^r%18446744073709551616))).set (q+i+1) (nth out (q+i+1) ||| (x/2/2^(63-r)))
def Ea (xs:List Nat) (q r n:Nat):Nat→List Nat
 | 0=>List.replicate n 0
 | k+1=>G8 (Ea xs q r n k) q r k (nth xs k)
theorem Ht (xs:List Nat)(q r n:Nat):∀ k,(Ea xs q r n k).length=n
 | 0=>by simp [Ea]
 | k+1=>by simp [Ea,G8,Ht xs q r n k]
theorem La (xs:List Nat)(h:Small xs)(q r n:Nat):∀ k,Small (Ea xs q r n k)
 | 0=>Cy n
 | k + 1 => by
   have ih:=La xs h q r n k;unfold Ea G8;refine Bt (Bt ih _ _ (Xz (nth_lt ih _) (Nat.mod_lt _ (by decide)))) _ _ (Xz (nth_lt ih _) ?_);refine Nat.lt_of_le_of_lt (Nat.div_le_self _ _) (Nat.lt_of_le_of_lt (Nat.div_le_self _ _) (nth_lt h _))
theorem Rf (x r:Nat)(hr:r<64):x/2/2^(63-r)=x*2^r/18446744073709551616:=by
 rw [Nat.div_div_eq_div_mul];have e:(18446744073709551616:Nat)=2*2^(63-r)*2^r:=by
  rw [Nat.mul_assoc,←Nat.pow_add,show 63-r+r=63 by omega]
 rw [e,Nat.mul_div_mul_right _ _ (Nat.pow_pos (by decide))]
theorem Xy (c x r:Nat)(hr:r<64)(hc:c<2^r):c ||| (x*2^r%18446744073709551616)=c+x*2^r%18446744073709551616:=by
 have e:(18446744073709551616:Nat)=2^(64-r)*2^r:=by
  rw [←Nat.pow_add,show 64-r+r=64 by omega]
 rw [e,Nat.mul_mod_mul_right,Nat.mul_comm,Nat.or_comm,←Nat.two_pow_add_eq_or_of_lt hc,Nat.add_comm]
theorem Ny (xs:List Nat)(h:Small xs)(q r n:Nat)(hr:r<64)(hn:n=q+xs.length+1):∀ k,k≤xs.length →
 val (Ea xs q r n k)=val (xs.take k)*2^r*18446744073709551616^q∧nth (Ea xs q r n k) (q+k)<2^r∧∀ j,q+k<j→nth (Ea xs q r n k) j=0
 | 0, _ => by
   refine ⟨by simp [Ea,Eq,val],?_,fun j _=>?_⟩
   ·rw [Ea,Dn];exact Nat.pow_pos (by decide)
   ·rw [Ea,Dn]
 | k + 1, hk => by
   obtain ⟨i1,i2,i3⟩:=Ny xs h q r n hr hn k (by omega);have hl:=Ht xs q r n k;have hx:=nth_lt h k;rw [Ea];generalize Ea xs q r n k=out at *;unfold G8;have h0:=i3 (q+k+1) (by omega);rw [h0,Nat.zero_or,Rf _ r hr,Xy _ _ r hr i2];have hx2:nth xs k*2^r/18446744073709551616<2^r:=by
    rw [Nat.div_lt_iff_lt_mul (by decide),Nat.mul_comm (2^r)];exact Nat.mul_lt_mul_of_pos_right hx (Nat.pow_pos (by decide))
   generalize hX:nth xs k*2^r=X at *;have l1:q+k<out.length:=by omega
   have l2:q+k+1<(out.set (q+k) (nth out (q+k)+X%18446744073709551616)).length:=by rw [List.length_set];omega
   refine ⟨?_,?_,fun j hj=>?_⟩
   ·have v1:=val_set out (q+k) (nth out (q+k)+X%18446744073709551616) l1;have v2:=val_set _ (q+k+1) (X/18446744073709551616) l2;rw [nth_set _ _ _ _ l1,if_neg (by omega),h0] at v2;rw [Bf xs k (by omega),Nat.add_mul,Nat.add_mul,←i1,Nat.mul_assoc (18446744073709551616^k),hX];rw [Nat.pow_succ] at v2;have e3:18446744073709551616^k*X*18446744073709551616^q=18446744073709551616^(q+k)*X:=by rw [Nat.mul_right_comm,←Nat.pow_add,Nat.add_comm k q]
    rw [e3];have e4:18446744073709551616^(q+k)*X=18446744073709551616^(q+k)*18446744073709551616*(X/18446744073709551616)+18446744073709551616^(q+k)*(X%18446744073709551616):=by
     rw [Nat.mul_assoc,←Nat.mul_add,Nat.div_add_mod]
    rw [e4];rw [Nat.mul_add] at v1;generalize 18446744073709551616^(q+k)*18446744073709551616*(X/18446744073709551616)=a at *;generalize 18446744073709551616^(q+k)*(X%18446744073709551616)=b at *;generalize 18446744073709551616^(q+k)*nth out (q+k)=c at *;omega
   ·rw [←Nat.add_assoc,nth_set _ _ _ _ l2,if_pos rfl];exact hx2
   ·rw [nth_set _ _ _ _ l2,if_neg (by omega),nth_set _ _ _ _ l1,if_neg (by omega)];exact i3 j (by omega)
theorem Gz (n:Nat):2^n=2^(n%64)*18446744073709551616^(n/64):=by
 have e:(18446744073709551616:Nat)=2^64:=by decide
 rw [e,←Nat.pow_mul,←Nat.pow_add,Nat.mod_add_div]
theorem Us (xs:List Nat)(h:Small xs)(n:Nat):val (Ea xs (n/64) (n%64) (n/64+xs.length+1) xs.length)=val xs*2^n:=by
 have:=(Ny xs h (n/64) (n%64) _ (Nat.mod_lt _ (by decide)) rfl xs.length (Nat.le_refl _)).1;rw [this,List.take_of_length_le (Nat.le_refl _),Nat.mul_assoc,←Gz]
def Cp (out ys:List Nat):Nat→List Nat × Nat
 | 0=>(out,0)
 | k + 1 => let s := Cp   out ys k
   (s.1.set k ((nth s.1 k+nth ys k+s.2)%18446744073709551616),(nth s.1 k+nth ys k+s.2)/18446744073709551616)
theorem Fb (out ys:List Nat)(k:Nat):Cp out ys (k+1)=((Cp out ys k).1.set k ((nth (Cp out ys k).1 k+nth ys k+(Cp out ys k).2)%18446744073709551616),(nth (Cp out ys k).1 k+nth ys k+(Cp out ys k).2)/18446744073709551616):=rfl
theorem Dt (out ys:List Nat):∀ k,(Cp out ys k).1.length=out.length
 | 0=>rfl
 | k+1=>by rw [Fb,List.length_set,Dt out ys k]
theorem Et (out ys:List Nat)(h:Small out):∀ k,Small (Cp out ys k).1
 | 0=>h
 | k+1=>by rw [Fb];exact Bt (Et out ys h k) _ _ (Nat.mod_lt _ (by decide))
theorem Hk (out ys:List Nat)(h:Small out)(h':Small ys):∀ k,(Cp out ys k).2≤1
 | 0=>by simp [Cp]
 | k + 1 => by
   have a:=Hk out ys h h' k;have b:=nth_lt (Et out ys h k) k;have c:=nth_lt h' k;rw [Fb]
   show (nth (Cp out ys k).1 k+nth ys k+(Cp out ys k).2)/18446744073709551616≤1
   omega
theorem E9 (xs:List Nat)(k:Nat):val (xs.take (k+1))=val (xs.take k)+18446744073709551616^k*nth xs k:=by
 by_cases h:k<xs.length
 ·exact Bf xs k h
 ·rw [List.take_of_length_le (by omega),List.take_of_length_le (by omega),Kn xs k (by omega)];rfl
theorem L0 (out ys:List Nat):∀ k,k≤out.length→val (Cp out ys k).1+18446744073709551616^k*(Cp out ys k).2=val out+val (ys.take k)
 | 0,_=>by simp [Cp,val]
 | k + 1, hk => by
   have ih:=L0 out ys k (by omega);have hl:=Dt out ys k;rw [Fb,E9];generalize Cp out ys k=s at *;obtain ⟨o,c⟩:=s;simp only at *;generalize hT:nth o k+nth ys k+c=T;have v:=val_set o k (T%18446744073709551616) (by omega);have e:18446744073709551616^(k+1)*(T/18446744073709551616)+18446744073709551616^k*(T%18446744073709551616)=18446744073709551616^k*T:=by
    rw [Nat.pow_succ,Nat.mul_assoc,←Nat.mul_add,Nat.div_add_mod]
   have e2:18446744073709551616^k*T=18446744073709551616^k*nth o k+18446744073709551616^k*nth ys k+18446744073709551616^k*c:=by
    rw [←hT,Nat.mul_add,Nat.mul_add]
   omega
theorem No (out ys:List Nat)(h:Small out)(k:Nat)(hy:ys.length≤k)(hc:(Cp out ys k).2=0):∀ d,k+d≤out.length→Cp out ys (k+d)=((Cp out ys k).1,0)
 | 0,_=>by rw [Nat.add_zero,←hc]
 | d + 1, hd => by
   have ih:=No out ys h k hy hc d (by omega);have hlt:=nth_lt (Et out ys h k) (k+d);have hl:=Dt out ys k;rw [←Nat.add_assoc,Fb,ih,Kn ys (k+d) (by omega)];simp only [Nat.add_zero];rw [Nat.mod_eq_of_lt hlt,Nat.div_eq_of_lt hlt]
   congr 1
   apply List.ext_getElem
   ·simp
   ·intro i h1 h2;rw [List.getElem_set];split
    ·rename_i e;subst e;rw [nth,List.getD_eq_getElem?_getD,List.getElem?_eq_getElem h2];rfl
    ·rfl
theorem Pq (xs ys:List Nat)(h:Small xs)(h':Small ys)(hle:ys.length≤xs.length):val (Cp (xs++[0]) ys (xs.length+1)).1=val xs+val ys:=by
 have hs:Small (xs++[0]):=by
  intro x hx;rcases List.mem_append.1 hx with hx | hx
  ·exact h x hx
  ·have:x=0:=by simpa using hx
   omega
 have a:=L0 (xs++[0]) ys (xs.length+1) (by simp);rw [List.take_of_length_le (by omega),val_append,Nat.pow_succ] at a;have b:=val_lt _ h;have c:=val_lt _ h';have d:18446744073709551616^ys.length≤18446744073709551616^xs.length:=Nat.pow_le_pow_right (by decide) hle;have e:val [0]=0:=by simp [val]
 rw [e,Nat.mul_zero,Nat.add_zero] at a;generalize (Cp (xs++[0]) ys (xs.length+1)).2=q at *;generalize (Cp (xs++[0]) ys (xs.length+1)).1=o at *;generalize 18446744073709551616^xs.length=p at *;generalize 18446744073709551616^ys.length=p' at *;have hq:q=0:=by
  by_cases hq:q=0
  ·exact hq
  ·have:p*18446744073709551616*1≤p*18446744073709551616*q:=Nat.mul_le_mul_left _ (by omega);omega
 rw [hq,Nat.mul_zero,Nat.add_zero] at a;exact a
end Go.Proofs.YtinbgjcooolbiaaGreatDoor
namespace Go.Proofs.YtinbgjcooolbiaaGreatDoor
def Gl (out ys:List Nat):Nat→List Nat × Nat
 | 0=>(out,0)
 | k + 1 => let s := Gl   out ys k
   (s.1.set k ((nth s.1 k+18446744073709551616-nth ys k-s.2)%18446744073709551616),if nth s.1 k<nth ys k+s.2 then 1 else 0)
theorem He (out ys:List Nat)(k:Nat):Gl out ys (k+1)=((Gl out ys k).1.set k ((nth (Gl out ys k).1 k+18446744073709551616-nth ys k-(Gl out ys k).2)%18446744073709551616),if nth (Gl out ys k).1 k<nth ys k+(Gl out ys k).2 then 1 else 0):=rfl
theorem Gs (out ys:List Nat):∀ k,(Gl out ys k).1.length=out.length
 | 0=>rfl
 | k+1=>by rw [He,List.length_set,Gs out ys k]
theorem H7 (out ys:List Nat)(h:Small out):∀ k,Small (Gl out ys k).1
 | 0=>h
 | k+1=>by rw [He];exact Bt (H7 out ys h k) _ _ (Nat.mod_lt _ (by decide))
theorem Ir (out ys:List Nat):∀ k,(Gl out ys k).2≤1
 | 0=>by simp [Gl]
 | k + 1 => by
   rw [He]
   show (if _ then 1 else 0)≤1
   split<;>omega
theorem Rm (out ys:List Nat)(h:Small out)(h':Small ys):∀ k,k≤out.length→val (Gl out ys k).1+val (ys.take k)=val out+18446744073709551616^k*(Gl out ys k).2
 | 0,_=>by simp [Gl,val]
 | k + 1, hk => by
   have ih:=Rm out ys h h' k (by omega);have hl:=Gs out ys k;have hx:=nth_lt (H7 out ys h k) k;have hy:=nth_lt h' k;have hb:=Ir out ys k;rw [He,E9,Nat.pow_succ];generalize Gl out ys k=s at *;obtain ⟨o,c⟩:=s;simp only at *;generalize nth ys k=y at *;have v:=val_set o k ((nth o k+18446744073709551616-y-c)%18446744073709551616) (by omega);generalize nth o k=x at *;generalize 18446744073709551616^k=p at *;by_cases hlt:x<y+c
   ·rw [if_pos hlt,Nat.mod_eq_of_lt (by omega)] at *;have e:p*(x+18446744073709551616-y-c)+p*y+p*c=p*x+p*18446744073709551616:=by
     rw [←Nat.mul_add,←Nat.mul_add,←Nat.mul_add];congr 1;omega
    rw [Nat.mul_one];omega
   ·have e0:(x+18446744073709551616-y-c)%18446744073709551616=x-y-c:=by omega
    rw [if_neg hlt];rw [e0] at v ⊢;have e:p*(x-y-c)+p*y+p*c=p*x:=by
     rw [←Nat.mul_add,←Nat.mul_add];congr 1;omega
    rw [Nat.mul_zero,Nat.add_zero];omega
theorem Yz (xs ys:List Nat)(h:Small xs)(h':Small ys)(hle:ys.length≤xs.length)(hv:val ys≤val xs):val (Gl xs ys xs.length).1=val xs-val ys:=by
 have a:=Rm xs ys h h' xs.length (Nat.le_refl _);rw [List.take_of_length_le hle] at a;have b:=val_lt _ (H7 xs ys h xs.length);rw [Gs] at b;have c:=Ir xs ys xs.length;generalize (Gl xs ys xs.length).2=q at *;have hq:q=0:=by
  by_cases hq:q=0
  ·exact hq
  ·obtain rfl:q=1:=by omega
   rw [Nat.mul_one] at a;omega
 rw [hq,Nat.mul_zero,Nat.add_zero] at a;omega
theorem Xp (p c z:Nat) :
 (z+(p%18446744073709551616+c)%18446744073709551616)%18446744073709551616=(p+c+z)%18446744073709551616 ∧
 p/18446744073709551616+(p%18446744073709551616+c)/18446744073709551616+(z+(p%18446744073709551616+c)%18446744073709551616)/18446744073709551616=(p+c+z)/18446744073709551616:=by
 omega
theorem I5 (x y c z:Nat)(hx:x<18446744073709551616)(hy:y<18446744073709551616)(hc:c<18446744073709551616)(hz:z<18446744073709551616):(x*y+c+z)/18446744073709551616<18446744073709551616:=by
 have:x*y≤18446744073709551615*18446744073709551615:=Nat.mul_le_mul (by omega) (by omega);omega
def Fy (out:List Nat) (i x:Nat) (ys:List Nat):Nat→List Nat × Nat
 | 0=>(out,0)
 | j + 1 => let s := Fy   out i x ys j
   (s.1.set (i+j) ((x*nth ys j+s.2+nth s.1 (i+j))%18446744073709551616),(x*nth ys j+s.2+nth s.1 (i+j))/18446744073709551616)
theorem Ga (out:List Nat)(i x:Nat)(ys:List Nat)(j:Nat):Fy out i x ys (j+1)=((Fy out i x ys j).1.set (i+j) ((x*nth ys j+(Fy out i x ys j).2+nth (Fy out i x ys j).1 (i+j))%18446744073709551616),(x*nth ys j+(Fy out i x ys j).2+nth (Fy out i x ys j).1 (i+j))/18446744073709551616):=rfl
theorem Ew (out:List Nat)(i x:Nat)(ys:List Nat):∀ j,(Fy out i x ys j).1.length=out.length
 | 0=>rfl
 | j+1=>by rw [Ga,List.length_set,Ew out i x ys j]
theorem H5 (out:List Nat)(i x:Nat)(ys:List Nat)(h:Small out):∀ j,Small (Fy out i x ys j).1
 | 0=>h
 | j+1=>by rw [Ga];exact Bt (H5 out i x ys h j) _ _ (Nat.mod_lt _ (by decide))
theorem Js (out:List Nat)(i x:Nat)(ys:List Nat)(h:Small out)(h':Small ys)(hx:x<18446744073709551616):∀ j,(Fy out i x ys j).2<18446744073709551616
 | 0=>by simp [Fy]
 | j + 1 => by
   rw [Ga];exact I5 _ _ _ _ hx (nth_lt h' j) (Js out i x ys h h' hx j) (nth_lt (H5 out i x ys h j) _)
theorem Rc (out:List Nat)(i x:Nat)(ys:List Nat):∀ j k,i+j≤k→i+j≤out.length→nth (Fy out i x ys j).1 k=nth out k
 | 0,_,_,_=>rfl
 | j + 1, k, h, hk => by
   rw [Ga]
   show nth ((Fy out i x ys j).1.set (i+j) _) k=_
   rw [nth_set _ _ _ _ (by rw [Ew];omega),if_neg (by omega)];exact Rc out i x ys j k (by omega) (by omega)
theorem Rd (out:List Nat)(i x:Nat)(ys:List Nat):∀ j,i+j≤out.length →
 val (Fy out i x ys j).1+18446744073709551616^(i+j)*(Fy out i x ys j).2=val out+18446744073709551616^i*(x*val (ys.take j))
 | 0,_=>by simp [Fy,val]
 | j + 1, hj => by
   have ih:=Rd out i x ys j (by omega);have hl:=Ew out i x ys j;rw [Ga,E9,←Nat.add_assoc,Nat.pow_succ,Nat.mul_add,Nat.mul_add,←Nat.add_assoc,←ih];generalize Fy out i x ys j=s at *;obtain ⟨o,c⟩:=s;simp only at *;generalize hT:x*nth ys j+c+nth o (i+j)=T;have v:=val_set o (i+j) (T%18446744073709551616) (by omega);have e1:18446744073709551616^i*(x*(18446744073709551616^j*nth ys j))=18446744073709551616^(i+j)*(x*nth ys j):=by
    rw [Nat.pow_add,←Nat.mul_assoc x,Nat.mul_comm x,Nat.mul_assoc,Nat.mul_assoc]
   rw [e1];generalize 18446744073709551616^(i+j)=p at *;have e:p*18446744073709551616*(T/18446744073709551616)+p*(T%18446744073709551616)=p*T:=by
    rw [Nat.mul_assoc,←Nat.mul_add,Nat.div_add_mod]
   have e2:p*T=p*(x*nth ys j)+p*c+p*nth o (i+j):=by rw [←hT,Nat.mul_add,Nat.mul_add]
   omega
def Ii (xs ys:List Nat) (n:Nat):Nat→List Nat
 | 0=>List.replicate n 0
 | i + 1 => let s := Fy   (Ii   xs ys n i) i (nth xs i) ys ys.length
   s.1.set (i+ys.length) s.2
theorem I4 (xs ys:List Nat)(n i:Nat):Ii xs ys n (i+1)=(Fy (Ii xs ys n i) i (nth xs i) ys ys.length).1.set (i+ys.length) (Fy (Ii xs ys n i) i (nth xs i) ys ys.length).2:=rfl
theorem Ij (xs ys:List Nat)(n:Nat):∀ i,(Ii xs ys n i).length=n
 | 0=>by simp [Ii]
 | i+1=>by rw [I4,List.length_set,Ew,Ij xs ys n i]
theorem Mf (xs ys:List Nat)(n:Nat)(h:Small xs)(h':Small ys):∀ i,Small (Ii xs ys n i)
 | 0=>Cy n
 | i + 1 => by
   have ih:=Mf xs ys n h h' i;rw [I4];exact Bt (H5 _ _ _ _ ih _) _ _ (Js _ _ _ _ ih h' (nth_lt h i) _)
theorem Qo (xs ys:List Nat)(h:Small xs)(h':Small ys):∀ i,i≤xs.length →
 val (Ii xs ys (xs.length+ys.length) i)=val (xs.take i)*val ys∧∀ k,i+ys.length≤k→nth (Ii xs ys (xs.length+ys.length) i) k=0
 | 0, _ => by
   refine ⟨by simp [Ii,Eq,val],fun k _=>?_⟩;rw [Ii,Dn]
 | i + 1, hi => by
   obtain ⟨i1,i2⟩:=Qo xs ys h h' i (by omega);have hl:=Ij xs ys (xs.length+ys.length) i;rw [I4];generalize Ii xs ys (xs.length+ys.length) i=out at *;have v:=Rd out i (nth xs i) ys ys.length (by omega);have hn:=Rc out i (nth xs i) ys ys.length;have hrl:=Ew out i (nth xs i) ys ys.length;generalize Fy out i (nth xs i) ys ys.length=s at *;obtain ⟨o,c⟩:=s;simp only at *;have v2:=val_set o (i+ys.length) c (by omega);rw [hn _ (Nat.le_refl _) (by omega),i2 _ (Nat.le_refl _),Nat.mul_zero,Nat.add_zero] at v2;refine ⟨?_,fun k hk=>?_⟩
   ·rw [List.take_of_length_le (Nat.le_refl _)] at v;rw [Bf xs i (by omega),Nat.add_mul,←i1,Nat.mul_assoc,←v];exact v2
   ·rw [nth_set _ _ _ _ (by omega),if_neg (by omega),hn k (by omega) (by omega),i2 k (by omega)]
theorem Xn (xs ys:List Nat)(h:Small xs)(h':Small ys):val (Ii xs ys (xs.length+ys.length) xs.length)=val xs*val ys:=by
 rw [(Qo xs ys h h' xs.length (Nat.le_refl _)).1,List.take_of_length_le (Nat.le_refl _)]
def Gh (xs:List Nat) (r i:Nat):Nat:=if i+1<xs.length then (nth xs i/2^r) ||| (nth xs (i+1)*2%18446744073709551616*2^(63-r)%18446744073709551616) else nth xs i/2^r
def Cu (xs:List Nat) (r:Nat):Nat→List Nat
 | 0=>List.replicate xs.length 0
 | k+1=>(Cu xs r k).set k (Gh xs r k)
theorem Fl (xs:List Nat)(r:Nat):∀ k,(Cu xs r k).length=xs.length
 | 0=>by simp [Cu]
 | k+1=>by rw [Cu,List.length_set,Fl xs r k]
theorem U4 (xs:List Nat)(h:Small xs)(r i:Nat)(hr:r<64):Gh xs r i=nth xs i/2^r+nth xs (i+1)*2^(64-r)%18446744073709551616:=by
 have e64:(18446744073709551616:Nat)=2^(64-r)*2^r:=by
  rw [←Nat.pow_add,show 64-r+r=64 by omega]
 unfold Gh;by_cases hi:i+1<xs.length
 ·rw [if_pos hi];have e1:nth xs (i+1)*2%18446744073709551616*2^(63-r)%18446744073709551616=nth xs (i+1)*2^(64-r)%18446744073709551616:=by
   rw [Nat.mod_mul_mod,Nat.mul_assoc,show (64-r)=(63-r)+1 by omega,Nat.pow_succ,Nat.mul_comm 2]
  have e2:nth xs i/2^r<2^(64-r):=by
   rw [Nat.div_lt_iff_lt_mul (Nat.pow_pos (by decide)),←e64];exact nth_lt h i
  rw [e1];have e3:nth xs (i+1)*2^(64-r)%18446744073709551616=2^(64-r)*(nth xs (i+1)%2^r):=by
   rw [e64,Nat.mul_comm (nth xs (i+1)),Nat.mul_mod_mul_left]
  rw [e3,Nat.or_comm,←Nat.two_pow_add_eq_or_of_lt e2,Nat.add_comm]
 ·rw [if_neg hi,Kn xs (i+1) (by omega),Nat.zero_mul,Nat.zero_mod,Nat.add_zero]
theorem U5 (xs:List Nat)(h:Small xs)(r i:Nat)(_hr:r<64):Gh xs r i<18446744073709551616:=by
 unfold Gh;have a:=nth_lt h i;have b:nth xs i/2^r≤nth xs i:=Nat.div_le_self _ _;split
 ·exact Xz (by omega) (Nat.mod_lt _ (by decide))
 ·omega
theorem Kc (xs:List Nat)(h:Small xs)(r:Nat)(hr:r<64):∀ k,Small (Cu xs r k)
 | 0=>Cy _
 | k+1=>Bt (Kc xs h r hr k) _ _ (U5 xs h r k hr)
theorem Mk (xs:List Nat)(r:Nat):∀ k j,k≤xs.length→nth (Cu xs r k) j=if j<k then Gh xs r j else 0
 | 0,j,_=>by rw [Cu,Dn,if_neg (by omega)]
 | k + 1, j, hk => by
   rw [Cu,nth_set _ _ _ _ (by rw [Fl];omega),Mk xs r k j (by omega)];by_cases e:k=j
   ·subst e;rw [if_pos rfl,if_pos (by omega)]
   ·rw [if_neg e];by_cases h2:j<k
    ·rw [if_pos h2,if_pos (by omega)]
    ·rw [if_neg h2,if_neg (by omega)]
theorem Ml (xs:List Nat)(h:Small xs)(r:Nat)(hr:r<64)(o:List Nat)(ho:∀ j,j<xs.length→nth o j=Gh xs r j):∀ k,k≤xs.length→k≤o.length →
 val (o.take k)*2^r+nth xs 0%2^r=val (xs.take k)+18446744073709551616^k*(nth xs k%2^r)
 | 0,_,_=>by simp [val]
 | k + 1, hk, hk' => by
   have ih:=Ml xs h r hr o ho k (by omega) (by omega);have e64:(18446744073709551616:Nat)=2^(64-r)*2^r:=by
    rw [←Nat.pow_add,show 64-r+r=64 by omega]
   rw [Bf o k (by omega),Bf xs k (by omega),ho k (by omega),U4 xs h r k hr,Nat.add_mul,Nat.pow_succ];have e3:nth xs (k+1)*2^(64-r)%18446744073709551616*2^r=18446744073709551616*(nth xs (k+1)%2^r):=by
    rw [e64,Nat.mul_comm (nth xs (k+1)),Nat.mul_mod_mul_left,Nat.mul_right_comm]
   have e4:nth xs k/2^r*2^r+nth xs k%2^r=nth xs k:=by rw [Nat.mul_comm];exact Nat.div_add_mod _ _
   generalize 18446744073709551616^k=p at *;have e5:p*(nth xs k/2^r+nth xs (k+1)*2^(64-r)%18446744073709551616)*2^r=p*(nth xs k/2^r*2^r)+p*(18446744073709551616*(nth xs (k+1)%2^r)):=by
    rw [Nat.mul_assoc,Nat.add_mul,e3,Nat.mul_add]
   rw [e5,←Nat.mul_assoc p 18446744073709551616];have e6:p*nth xs k=p*(nth xs k/2^r*2^r)+p*(nth xs k%2^r):=by rw [←Nat.mul_add,e4]
   omega
theorem Su (xs:List Nat)(h:Small xs)(r:Nat)(hr:r<64):val (Cu xs r xs.length)=val xs/2^r:=by
 have hl:=Fl xs r xs.length;have:=Ml xs h r hr (Cu xs r xs.length) (fun j hj=>by rw [Mk xs r _ j (Nat.le_refl _),if_pos hj]) xs.length (Nat.le_refl _) (by omega);rw [List.take_of_length_le (by omega),List.take_of_length_le (Nat.le_refl _),Kn xs xs.length (Nat.le_refl _),Nat.zero_mod,Nat.mul_zero,Nat.add_zero] at this;have hlt:nth xs 0%2^r<2^r:=Nat.mod_lt _ (Nat.pow_pos (by decide));rw [←this,Nat.add_comm,Nat.add_mul_div_right _ _ (Nat.pow_pos (by decide)),Nat.div_eq_of_lt hlt,Nat.zero_add]
theorem Hh (xs:List Nat)(h:Small xs)(k:Nat):val (xs.drop k)=val xs/18446744073709551616^k:=by
 by_cases hk:k≤xs.length
 ·have e:=val_append (xs.take k) (xs.drop k);rw [List.take_append_drop,List.length_take,Nat.min_eq_left hk] at e;have b:=val_lt _ (small_take h k);rw [List.length_take,Nat.min_eq_left hk] at b;rw [e,Nat.add_mul_div_left _ _ (Nat.pow_pos (by decide)),Nat.div_eq_of_lt b,Nat.zero_add]
 ·rw [List.drop_eq_nil_of_le (by omega),Nat.div_eq_of_lt]
  ·rfl
  ·exact Nat.lt_of_lt_of_le (val_lt _ h) (Nat.pow_le_pow_right (by decide) (by omega))
theorem U6 (xs:List Nat)(h:Small xs)(n:Nat):val (Cu (xs.drop (n/64)) (n%64) (xs.drop (n/64)).length)=val xs/2^n:=by
 rw [Su _ (Gi h _) _ (Nat.mod_lt _ (by decide)),Hh xs h,Nat.div_div_eq_div_mul,Gz n,Nat.mul_comm]
end Go.Proofs.YtinbgjcooolbiaaGreatDoor
namespace Go.Proofs.YtinbgjcooolbiaaGreatDoor
structure Eg (u d yn1 yn0 q r:Nat):Prop where
 sum:u=q*yn1+r
 ge:(u*4294967296+d)/(yn1*4294967296+yn0)≤q
theorem Hq (u d yn1 yn0:Nat)(hd:d<4294967296)(h1:0<yn1):Eg u d yn1 yn0 (u/yn1) (u%yn1):=by
 refine ⟨by rw [Nat.mul_comm];exact (Nat.div_add_mod u yn1).symm,?_⟩;have e:(u*4294967296+d)/(yn1*4294967296)=u/yn1:=by
  rw [Nat.mul_comm yn1,←Nat.div_div_eq_div_mul]
  congr 1
  omega
 rw [←e];exact Nat.div_le_div_left (by omega) (by omega)
theorem G6 {u d yn1 yn0 q r:Nat}(h:Eg u d yn1 yn0 q r)(h1:0<yn1)(hc:q*yn0≤4294967296*r+d):q=(u*4294967296+d)/(yn1*4294967296+yn0):=by
 refine Nat.le_antisymm ?_ h.ge;rw [Nat.le_div_iff_mul_le (by omega),h.sum,Nat.mul_add,Nat.add_mul,Nat.mul_assoc q yn1,←Nat.mul_assoc];have:r*4294967296=4294967296*r:=Nat.mul_comm _ _;omega
theorem Ev {u d yn1 yn0 q r:Nat}(h:Eg u d yn1 yn0 q r)(hu:u<yn1*4294967296+yn0)(hd:d<4294967296)(_h1:0<yn1)(hc:4294967296≤q∨4294967296*r+d<q*yn0) :
 1≤q∧Eg u d yn1 yn0 (q-1) (r+yn1):=by
 have key:(u*4294967296+d)/(yn1*4294967296+yn0)<q:=by
  rw [Nat.div_lt_iff_lt_mul (by omega)];rcases hc with hc | hc
  ·have:4294967296*(yn1*4294967296+yn0)≤q*(yn1*4294967296+yn0):=Nat.mul_le_mul_right _ hc;omega
  ·rw [h.sum,Nat.mul_add,Nat.add_mul,←Nat.mul_assoc];have:r*4294967296=4294967296*r:=Nat.mul_comm _ _;omega
 have h1:1≤q:=Nat.lt_of_le_of_lt (Nat.zero_le _) key;refine ⟨h1,?_,Nat.le_sub_one_of_lt key⟩;have hs:=h.sum;clear key hc h;obtain ⟨k,rfl⟩:∃ k,q=k+1:=⟨q-1,by omega⟩;rw [Nat.add_sub_cancel,hs,Nat.add_mul];omega
theorem Dx {u d yn1 yn0 q r:Nat}(h:Eg u d yn1 yn0 q r)(hu:u<yn1*4294967296+yn0)(h0:yn0<4294967296)(h1:0<yn1)(hr:4294967296≤r):q=(u*4294967296+d)/(yn1*4294967296+yn0):=by
 have hq:q<4294967296:=by
  have a:q*yn1<yn1*4294967296:=by have:=h.sum;omega
  rw [Nat.mul_comm] at a;exact Nat.lt_of_mul_lt_mul_left a
 refine G6 h h1 ?_;have:q*yn0≤4294967296*4294967296:=Nat.mul_le_mul (by omega) (by omega);omega
theorem Uo (u d Y q:Nat)(hY:Y<18446744073709551616)(h0:0<Y)(hq:q=(u*4294967296+d)/Y) :
 (((u*4294967296:Int)+d)-q*Y)%18446744073709551616=(((u*4294967296+d)%Y:Nat):Int):=by
 have a:=Nat.div_add_mod (u*4294967296+d) Y;rw [←hq] at a;have b:=Nat.mod_lt (u*4294967296+d) h0;have c:(q:Int)*Y=((Y*q:Nat):Int):=by rw [Int.natCast_mul,Int.mul_comm]
 rw [c];generalize Y*q=p at *;generalize (u*4294967296+d)%Y=t at *;omega
theorem S6 (N Y lo hi:Nat)(h0:0<Y)(hN:N=hi*4294967296+lo)(_hl:lo<4294967296) :
 N/Y=hi/Y*4294967296+(hi%Y*4294967296+lo)/Y∧N%Y=(hi%Y*4294967296+lo)%Y:=by
 have a:=Nat.div_add_mod hi Y;have e:N=Y*(hi/Y*4294967296)+(hi%Y*4294967296+lo):=by
  rw [hN,←Nat.mul_assoc,←Nat.add_assoc,←Nat.add_mul,a]
 rw [e];exact ⟨by rw [Nat.mul_add_div h0],by rw [Nat.mul_add_mod]⟩
theorem Vd (hi lo y s:Nat)(hs:s<64)(hlo:lo<18446744073709551616)(hlt:hi<y) :
 (hi*18446744073709551616+lo)*2^s=(hi*2^s+lo/2^(64-s))*18446744073709551616+lo*2^s%18446744073709551616∧hi*2^s+lo/2^(64-s)<y*2^s∧lo/2^(64-s)<2^s∧lo/2^(64-s)=lo*2^s/18446744073709551616:=by
 have e64:(18446744073709551616:Nat)=2^(64-s)*2^s:=by
  rw [←Nat.pow_add,show 64-s+s=64 by omega]
 have e1:lo/2^(64-s)=lo*2^s/18446744073709551616:=by
  rw [e64,Nat.mul_div_mul_right _ _ (Nat.pow_pos (by decide))]
 have h2:lo/2^(64-s)<2^s:=by
  rw [Nat.div_lt_iff_lt_mul (Nat.pow_pos (by decide)),Nat.mul_comm (2^s),←e64];exact hlo
 refine ⟨?_,?_,h2,e1⟩
 ·have:=Nat.div_add_mod (lo*2^s) 18446744073709551616;rw [←e1] at this;rw [Nat.add_mul,Nat.add_mul,Nat.mul_right_comm];omega
 ·have:(hi+1)*2^s≤y*2^s:=Nat.mul_le_mul_right _ hlt;rw [Nat.add_mul] at this;omega
theorem Co (u d Y:Nat)(hu:u<Y)(hd:d<4294967296):(u*4294967296+d)/Y<4294967296:=by
 rw [Nat.div_lt_iff_lt_mul (by omega)];omega
end Go.Proofs.YtinbgjcooolbiaaGreatDoor
namespace Go.Proofs.YtinbgjcooolbiaaGreatDoor
structure Raw where
 neg:Bool
 m:List Nat
 e:Int
structure Dy where
 neg:Bool
 m:Nat
 e:Int
def Dy.raw (d:Dy):Raw:=⟨d.neg,limbs d.m,d.e⟩
def dz:Dy:=⟨false,0,0⟩
def Raw.dy (r:Raw):Dy:=⟨r.neg,val r.m,r.e⟩
def Eu (r:Raw):Bool :=
 if r.m.length=0 then (!r.neg&&r.e==0) else (Ja r.m&&nth r.m 0%2==1&&decide (-1048576≤r.e)&&decide (r.e≤1048576))
structure Dy.Ok (d:Dy):Prop where
 len:(limbs d.m).length≤64
 zero:d.m=0→d.neg=false∧d.e=0
 odd:d.m≠0→d.m%2=1
 lo:-1048576≤d.e
 hi:d.e≤1048576
theorem Sk {xs:List Nat}(h:Small xs)(hm:Ja xs=true):limbs (val xs)=xs:=by
 rw [←take_tl xs h];unfold Ja at hm;by_cases h0:xs.length=0
 ·obtain rfl:=List.eq_nil_of_length_eq_zero h0;rfl
 ·simp [h0] at hm;have hm2:=hm;obtain ⟨k,hk⟩:∃ k,xs.length=k+1:=⟨xs.length-1,by omega⟩;have:tl xs=xs.length:=by
   unfold tl;rw [hk,Cn,if_neg];have:=hm2.2;rwa [hk,Nat.add_sub_cancel] at this
  rw [this,List.take_of_length_le (Nat.le_refl _)]
theorem Xk {xs:List Nat}(hm:Ja xs=true):xs.length≤64:=by
 unfold Ja at hm;by_cases h0:xs.length=0
 ·omega
 ·simp [h0] at hm;exact hm.1
theorem Il (n:Nat):nth (limbs n) 0=n%18446744073709551616:=by
 by_cases h:n=0
 ·subst h;rw [limbs_zero];rfl
 ·rw [Bc n h];rfl
theorem Fd {r:Raw}(h:Small r.m)(hm:Eu r=true):r.dy.raw=r∧r.dy.Ok:=by
 obtain ⟨neg,m,e⟩:=r;unfold Eu at hm;simp only at hm h;by_cases h0:m.length=0
 ·obtain rfl:=List.eq_nil_of_length_eq_zero h0;simp at hm;obtain ⟨rfl,rfl⟩:=hm;refine ⟨by simp [Raw.dy,Dy.raw,val,limbs_zero],?_⟩;refine ⟨by simp [Raw.dy,val,limbs_zero],fun _=>⟨rfl,rfl⟩,fun h=>absurd rfl h,by simp [Raw.dy],by simp [Raw.dy]⟩
 ·rw [if_neg h0] at hm;simp only [Bool.and_eq_true,beq_iff_eq,decide_eq_true_eq] at hm;obtain ⟨⟨⟨h1,h2⟩,h3⟩,h4⟩:=hm;have hl:=Sk h h1;have hv:val m≠0:=by
   intro hv;rw [hv,limbs_zero] at hl;rw [←hl] at h0;simp at h0
  refine ⟨by simp only [Raw.dy,Dy.raw];rw [hl],?_⟩;refine ⟨by simp only [Raw.dy];rw [hl];exact Xk h1,fun h=>absurd h hv,fun _=>?_,h3,h4⟩;simp only [Raw.dy];rw [←hl,Il] at h2;omega
theorem Ne (n:Nat)(h:(limbs n).length≤64):Ja (limbs n)=true:=by
 by_cases h0:n=0
 ·subst h0;rw [limbs_zero];rfl
 ·unfold Ja;have:=Gf n h0;simp [h]
  right
  exact this
theorem Dy.Ok.may {d:Dy}(h:d.Ok):Eu d.raw=true:=by
 unfold Eu Dy.raw;simp only;by_cases h0:d.m=0
 ·obtain ⟨a,b⟩:=h.zero h0;rw [h0,limbs_zero,a,b];rfl
 ·rw [if_neg (by have:=length_limbs_pos d.m h0;omega),Ne d.m h.len,Il];have h1:=h.odd h0;have h2:=h.lo;have h3:=h.hi;have h4:d.m%18446744073709551616%2=1:=by omega
  simp [h4,h2,h3]
theorem Dy.raw_dy (d:Dy):d.raw.dy=d:=by
 simp [Dy.raw,Raw.dy,val_limbs]
theorem Dy.small (d:Dy):Small d.raw.m:=Cf _
theorem dz_ok:dz.Ok:=⟨by simp [dz,limbs_zero],fun _=>⟨rfl,rfl⟩,fun h=>absurd rfl h,by decide,by decide⟩
structure Outc (α:Type) where
 v:α
 k:Int
def good {α:Type} (a:α):Outc α:=⟨a,0⟩
def bad (k:Int):Outc Dy:=⟨dz,k⟩
def Bu (neg:Bool) (n:Nat) (e:Int):Outc Dy :=
 if n=0 then good dz
 else if 64<(limbs (n/2^tz n)).length then bad 2
 else if 1048576<e∨e < -1048576-tz n then bad 3
 else if 1048576<e+tz n then bad 3
 else good ⟨neg,n/2^tz n,e+tz n⟩
theorem Ho (neg:Bool)(n:Nat)(e:Int):(Bu neg n e).v.Ok∧((Bu neg n e).k≠0→(Bu neg n e).v=dz):=by
 unfold Bu;by_cases h0:n=0
 ·rw [if_pos h0];exact ⟨dz_ok,fun _=>rfl⟩
 ·rw [if_neg h0];by_cases h1:64<(limbs (n/2^tz n)).length
  ·rw [if_pos h1];exact ⟨dz_ok,fun _=>rfl⟩
  ·rw [if_neg h1];by_cases h2:1048576<e∨e < -1048576-tz n
   ·rw [if_pos h2];exact ⟨dz_ok,fun _=>rfl⟩
   ·rw [if_neg h2];by_cases h3:1048576<e+tz n
    ·rw [if_pos h3];exact ⟨dz_ok,fun _=>rfl⟩
    ·rw [if_neg h3];have ho:=Ju n h0;refine ⟨⟨by simp only [good];omega,fun hz=>?_,fun _=>ho,by simp only [good];omega,by simp only [good];omega⟩,fun h=>absurd rfl h⟩;simp only [good] at hz;rw [hz] at ho;omega
end Go.Proofs.YtinbgjcooolbiaaGreatDoor
