/- Words and contracts, part 2. -/
set_option maxRecDepth 100000
set_option maxHeartbeats 0
namespace Go.Proofs.YtmgaloopddiekaaGreatDoor
def nth (xs:List Nat) (i:Nat):Nat:=xs.getD i 0
def val:List Nat→Nat
 | []=>0
 | x::xs=>x+18446744073709551616*val xs
def Small (xs:List Nat):Prop:=∀ x∈xs,x<18446744073709551616
def limbs (n:Nat):List Nat:=if _h:n=0 then [] else (n%18446744073709551616)::limbs (n/18446744073709551616)
termination_by n
decreasing_by exact Nat.div_lt_self (by omega) (by decide)
theorem Bd:limbs 0=[]:=by rw [limbs];simp
theorem B9 (n:Nat)(h:n≠0):limbs n=(n%18446744073709551616)::limbs (n/18446744073709551616):=by rw [limbs];simp [h]
theorem Ca (n:Nat):val (limbs n)=n:=by
 induction n using Nat.strongRecOn with
 | _ n ih =>
   by_cases h:n=0
   ·subst h;rw [Bd];rfl
   ·rw [B9 n h,val,ih (n/18446744073709551616) (Nat.div_lt_self (by omega) (by decide))];exact Nat.mod_add_div n 18446744073709551616
theorem Cq (n:Nat):Small (limbs n):=by
 induction n using Nat.strongRecOn with
 | _ n ih =>
   by_cases h:n=0
   ·subst h;rw [Bd];intro x hx;cases hx
   ·rw [B9 n h];intro x hx;rcases List.mem_cons.1 hx with rfl | hx
    ·exact Nat.mod_lt _ (by decide)
    ·exact ih (n/18446744073709551616) (Nat.div_lt_self (by omega) (by decide)) x hx
def Db (xs:List Nat):Nat→Nat
 | 0=>0
 | k+1=>if nth xs k=0 then Db xs k else k+1
def tl (xs:List Nat):Nat:=Db xs xs.length
theorem Kw (xs:List Nat):∀ k,Db xs k≤k
 | 0=>Nat.le_refl _
 | k + 1 => by
   unfold Db;split
   ·exact Nat.le_succ_of_le (Kw xs k)
   ·exact Nat.le_refl _
theorem Vu (xs:List Nat):tl xs≤xs.length:=Kw xs _
theorem D8 (x:Nat)(xs:List Nat)(i:Nat):nth (x::xs) (i+1)=nth xs i:=rfl
theorem nth_lt {xs:List Nat}(h:Small xs)(i:Nat):nth xs i<18446744073709551616:=by
 unfold nth;by_cases hi:i<xs.length
 ·rw [List.getD_eq_getElem?_getD,List.getElem?_eq_getElem hi];exact h _ (List.getElem_mem hi)
 ·rw [List.getD_eq_getElem?_getD,List.getElem?_eq_none (by omega)];decide
theorem Iw (x:Nat)(xs:List Nat):∀ k,Db (x::xs) (k+1)=if Db xs k=0 then (if x=0 then 0 else 1) else Db xs k+1
 | 0=>by simp [Db,nth]
 | k + 1 => by
   rw [Db,D8,Iw x xs k,Db];by_cases h:nth xs k=0
   ·simp [h]
   ·simp [h]
theorem Ng (xs:List Nat)(h:Small xs):xs.take (tl xs)=limbs (val xs):=by
 induction xs with
 | nil=>simp [tl,Db,val,Bd]
 | cons x xs ih =>
   have hx:x<18446744073709551616:=h x (List.mem_cons_self);have hs:Small xs:=fun y hy=>h y (List.mem_cons_of_mem _ hy)
   have ih':=ih hs;have ht:tl (x::xs)=if tl xs=0 then (if x=0 then 0 else 1) else tl xs+1:=Iw x xs xs.length
   have hv:tl xs=0↔val xs=0:=by
    constructor
    ·intro h0;rw [h0] at ih';have:=Ca (val xs);rw [←ih'] at this;simpa [val] using this.symm
    ·intro h0;rw [h0,Bd] at ih';have h1:=congrArg List.length ih';have h2:=Vu xs;rw [List.length_take,List.length_nil] at h1;omega
   by_cases h0:val xs=0
   ·rw [ht,if_pos (hv.2 h0)];by_cases hx0:x=0
    ·simp [hx0,val,h0,Bd]
    ·rw [if_neg hx0,val,h0];have e1:(x+18446744073709551616*0)%18446744073709551616=x:=by omega
     have e2:(x+18446744073709551616*0)/18446744073709551616=0:=by omega
     rw [B9 _ (by omega),e1,e2,Bd];simp
   ·rw [ht,if_neg (fun h=>h0 (hv.1 h)),List.take_succ_cons,ih',val];rw [B9 (x+18446744073709551616*val xs) (by omega)];have e1:(x+18446744073709551616*val xs)%18446744073709551616=x:=by omega
    have e2:(x+18446744073709551616*val xs)/18446744073709551616=val xs:=by omega
    rw [e1,e2]
theorem length_limbs (n : Nat) : (limbs n).length = if n = 0 then 0 else Nat.log2 n / 64 + 1 := by
 induction n using Nat.strongRecOn with
 | _ n ih =>
   by_cases h:n=0
   ·subst h;simp [Bd]
   ·rw [B9        n h, List.length_cons, ih (n / 18446744073709551616) (Nat.div_lt_self (by omega) (by decide)), if_neg h];by_cases h1:n/18446744073709551616=0
    ·rw [if_pos h1];have:Nat.log2 n<64:=(Nat.log2_lt h).2 (by omega);omega
    ·rw [if_neg h1];have key:Nat.log2 n=Nat.log2 (n/18446744073709551616)+64:=by
      have a1:=Nat.log2_self_le h1;have a2:=Nat.lt_log2_self (n:=n/18446744073709551616);have b1:2^(Nat.log2 (n/18446744073709551616)+64)≤n:=by
       rw [Nat.pow_add]
       calc 2^Nat.log2 (n/18446744073709551616)*2^64≤(n/18446744073709551616)*2^64:=Nat.mul_le_mul_right _ a1
        _≤n:=Nat.div_mul_le_self n 18446744073709551616
      have b2:n<2^(Nat.log2 (n/18446744073709551616)+64+1):=by
       have:n<(n/18446744073709551616+1)*18446744073709551616:=by
        have:=Nat.lt_mul_div_succ n (show 0<18446744073709551616 by decide);rw [Nat.mul_comm] at this;exact this
       calc n<(n/18446744073709551616+1)*18446744073709551616:=this
        _≤2^(Nat.log2 (n/18446744073709551616)+1)*18446744073709551616:=Nat.mul_le_mul_right _ a2
        _=2^(Nat.log2 (n/18446744073709551616)+64+1):=by rw [show Nat.log2 (n/18446744073709551616)+64+1=(Nat.log2 (n/18446744073709551616)+1)+64 by omega,Nat.pow_add _ _ 64]
      have c1:=(Nat.le_log2 h).2 b1;have c2:=(Nat.log2_lt h).2 b2;omega
     rw [key];omega
def Ll (xs:List Nat):Bool:=xs.length==0||(decide (xs.length≤64)&&nth xs (xs.length-1) != 0)
def Ea (n m:Nat):Int:=if n<m then -1 else if n=m then 0 else 1
def El (xs ys:List Nat):Nat→Int
 | 0=>0
 | k+1=>if nth xs k=nth ys k then El xs ys k else if nth xs k<nth ys k then -1 else 1
theorem Cp (xs ys:List Nat):val (xs++ys)=val xs+18446744073709551616^xs.length*val ys:=by
 induction xs with
 | nil=>simp [val]
 | cons x xs ih =>
   rw [List.cons_append,val,ih,val,List.length_cons,Nat.pow_succ];generalize 18446744073709551616^xs.length=p;rw [Nat.mul_add,Nat.add_assoc]
   congr 2
   rw [←Nat.mul_assoc,Nat.mul_comm p]
theorem Eg (xs:List Nat)(h:Small xs):val xs<18446744073709551616^xs.length:=by
 induction xs with
 | nil=>simp [val]
 | cons x xs ih =>
   have hx:x<18446744073709551616:=h x (List.mem_cons_self);have:=ih (fun y hy=>h y (List.mem_cons_of_mem _ hy));rw [val,List.length_cons,Nat.pow_succ];generalize 18446744073709551616^xs.length=p at *;omega
theorem Df {xs:List Nat}(h:Small xs)(k:Nat):Small (xs.take k):=fun x hx=>h x (List.mem_of_mem_take hx)
theorem Iu {xs:List Nat}(h:Small xs)(k:Nat):Small (xs.drop k):=fun x hx=>h x (List.mem_of_mem_drop hx)
theorem Jc (xs:List Nat)(k:Nat)(h:k<xs.length):xs.take (k+1)=xs.take k++[nth xs k]:=by
 rw [List.take_succ_eq_append_getElem h,nth,List.getD_eq_getElem?_getD,List.getElem?_eq_getElem h];rfl
theorem B7 (xs:List Nat)(k:Nat)(h:k<xs.length):val (xs.take (k+1))=val (xs.take k)+18446744073709551616^k*nth xs k:=by
 rw [Jc xs k h,Cp,List.length_take,Nat.min_eq_left (by omega)];simp [val]
theorem Ig (xs ys:List Nat)(hx:Small xs)(hy:Small ys):∀ k,k≤xs.length→k≤ys.length→El xs ys k=Ea (val (xs.take k)) (val (ys.take k))
 | 0,_,_=>by simp [El,Ea]
 | k + 1, h1, h2 => by
   have ih:=Ig xs ys hx hy k (by omega) (by omega);rw [El,B7 xs k (by omega),B7 ys k (by omega),ih];have a:=Eg _ (Df hx k);have b:=Eg _ (Df hy k);rw [List.length_take,Nat.min_eq_left (by omega)] at a b;generalize 18446744073709551616^k=p at *;generalize val (xs.take k)=u at *;generalize val (ys.take k)=v at *;generalize nth xs k=x;generalize nth ys k=y;by_cases e:x=y
   ·subst e;rw [if_pos rfl];unfold Ea;simp only [Nat.add_lt_add_iff_right,Nat.add_right_cancel_iff]
   ·rw [if_neg e];by_cases l:x<y
    ·rw [if_pos l];have:p*(x+1)≤p*y:=Nat.mul_le_mul_left _ l;rw [Nat.mul_add] at this;unfold Ea;rw [if_pos (by omega)]
    ·rw [if_neg l];have:p*(y+1)≤p*x:=Nat.mul_le_mul_left _ (by omega);rw [Nat.mul_add] at this;unfold Ea;rw [if_neg (by omega),if_neg (by omega)]
theorem Ci (n:Nat):n<18446744073709551616^(limbs n).length:=by
 have:=Eg _ (Cq n);rwa [Ca] at this
theorem Fv (n:Nat)(h:n≠0):18446744073709551616^((limbs n).length-1)≤n:=by
 induction n using Nat.strongRecOn with
 | _ n ih =>
   rw [B9 n h,List.length_cons,Nat.add_sub_cancel];by_cases h1:n/18446744073709551616=0
   ·rw [h1,Bd];simp;omega
   ·have:=ih _ (Nat.div_lt_self (by omega) (by decide)) h1;have hl:0<(limbs (n/18446744073709551616)).length:=by rw [B9 _ h1];simp
    obtain ⟨l,hl⟩:∃ l,(limbs (n/18446744073709551616)).length=l+1:=⟨_,(Nat.succ_pred_eq_of_pos hl).symm⟩;rw [hl] at this ⊢;rw [Nat.add_sub_cancel] at this;rw [Nat.pow_succ];generalize 18446744073709551616^l=p at *;omega
theorem E8 (n m:Nat)(h:(limbs n).length<(limbs m).length):n<m:=by
 have a:=Ci n;have hm:m≠0:=by rintro rfl;rw [Bd] at h;simp at h
 have b:=Fv m hm;have c:18446744073709551616^(limbs n).length≤18446744073709551616^((limbs m).length-1):=Nat.pow_le_pow_right (by decide) (by omega);omega
theorem Jw (n m:Nat)(h:(limbs n).length=(limbs m).length):El (limbs n) (limbs m) (limbs n).length=Ea n m:=by
 rw [Ig _ _ (Cq n) (Cq m) _ (Nat.le_refl _) (by omega),List.take_of_length_le (Nat.le_refl _),List.take_of_length_le (by omega),Ca,Ca]
theorem Il (n:Nat)(h:n≠0):nth (limbs n) ((limbs n).length-1)≠0:=by
 induction n using Nat.strongRecOn with
 | _ n ih =>
   rw [B9 n h,List.length_cons,Nat.add_sub_cancel];by_cases h1:n/18446744073709551616=0
   ·rw [h1,Bd];simp [nth];omega
   ·have hl:0<(limbs (n/18446744073709551616)).length:=by rw [B9 _ h1];simp
    have:=ih _ (Nat.div_lt_self (by omega) (by decide)) h1;obtain ⟨l,hl⟩:∃ l,(limbs (n/18446744073709551616)).length=l+1:=⟨_,(Nat.succ_pred_eq_of_pos hl).symm⟩;rw [hl] at this ⊢;rw [D8];exact this
theorem Bq (n:Nat)(h:n≠0):0<(limbs n).length:=by rw [B9 n h];simp
def bl (n:Nat):Nat:=if n=0 then 0 else Nat.log2 n+1
theorem Oq:bl 0=0:=rfl
theorem Cm (n:Nat):n<2^bl n:=by
 unfold bl;split
 ·omega
 ·exact Nat.lt_log2_self
theorem D0 (n:Nat)(h:n≠0):2^(bl n-1)≤n:=by
 unfold bl;rw [if_neg h,Nat.add_sub_cancel];exact Nat.log2_self_le h
theorem Id (n:Nat)(h:n≠0):0<bl n:=by unfold bl;rw [if_neg h];omega
theorem N3 (n k:Nat)(h:n<2^k):bl n≤k:=by
 by_cases h0:n=0
 ·subst h0;exact Nat.zero_le _
 ·have:=D0 n h0;have p:=Id n h0;by_cases hk:bl n≤k
  ·exact hk
  ·have:2^k≤2^(bl n-1):=Nat.pow_le_pow_right (by decide) (by omega);omega
theorem Acm (n k:Nat)(h:2^k≤n):k<bl n:=by
 by_cases hk:k<bl n
 ·exact hk
 ·have:2^bl n≤2^k:=Nat.pow_le_pow_right (by decide) (by omega);have:=Cm n;omega
theorem Tm (n k:Nat)(h1:2^k≤n)(h2:n<2^(k+1)):bl n=k+1:=by
 have:=N3 n _ h2;have:=Acm n _ h1;omega
theorem On (n:Nat)(h:n<18446744073709551616):bl n≤64:=N3 n 64 h
theorem Oo {n m:Nat}(h:n≤m):bl n≤bl m:=N3 n _ (Nat.lt_of_le_of_lt h (Cm m))
theorem Gu (n k:Nat)(h:n≠0):bl (n*2^k)=bl n+k:=by
 obtain ⟨l,hl⟩:∃ l,bl n=l+1:=⟨bl n-1,by have:=Id n h;omega⟩;have a:=D0 n h;have b:=Cm n;rw [hl] at a b ⊢;rw [Nat.add_sub_cancel] at a;have:=Tm (n*2^k) (l+k) (by rw [Nat.pow_add];exact Nat.mul_le_mul_right _ a) (by rw [show l+k+1=(l+1)+k by omega,Nat.pow_add];exact Nat.mul_lt_mul_of_pos_right b (Nat.pow_pos (by decide)));omega
theorem Sd     (n : Nat) (h : n ≠ 0) : bl n = 64 * ((limbs n).length - 1) + bl (nth (limbs n) ((limbs n).length - 1)) := by
 induction n using Nat.strongRecOn with
 | _ n ih =>
   rw [B9 n h,List.length_cons,Nat.add_sub_cancel];by_cases h1:n/18446744073709551616=0
   ·rw [h1,Bd];have:n%18446744073709551616=n:=by omega
    simp [nth,this]
   ·have hl:0<(limbs (n/18446744073709551616)).length:=by rw [B9 _ h1];simp
    have IH:=ih _ (Nat.div_lt_self (by omega) (by decide)) h1;obtain ⟨l,hl⟩:∃ l,(limbs (n/18446744073709551616)).length=l+1:=⟨_,(Nat.succ_pred_eq_of_pos hl).symm⟩;rw [hl,Nat.add_sub_cancel] at IH;rw [hl,D8];have key:bl n=bl (n/18446744073709551616)+64:=by
     obtain ⟨q,hq⟩:∃ q,bl (n/18446744073709551616)=q+1:=⟨bl (n/18446744073709551616)-1,by have:=Id _ h1;omega⟩;have a:=D0 _ h1;have b:=Cm (n/18446744073709551616);rw [hq] at a b ⊢;rw [Nat.add_sub_cancel] at a
     have := Tm    n (q + 64) (by rw [Nat.pow_add]; have : (2:Nat) ^ 64 = 18446744073709551616 := by decide
                                  rw [this]; omega) (by rw [show q + 64 + 1 = (q + 1) + 64 by omega, Nat.pow_add]; have : (2:Nat) ^ 64 = 18446744073709551616 := by decide
                                                        rw [this];omega)
     omega
    omega
def tzF:Nat→Nat→Nat
 | 0,_=>0
 | f+1,n=>if n%2=1 then 0 else tzF f (n/2)+1
def tz (n:Nat):Nat:=tzF (bl n) n
theorem Qm:∀ (f n:Nat),n≠0→n<2^f→2^tzF f n ∣ n∧n/2^tzF f n%2=1
 | 0,n,h,hf=>by simp at hf;omega
 | f + 1, n, h, hf => by
   rw [tzF];by_cases e:n%2=1
   ·rw [if_pos e];simp [e]
   ·rw [if_neg e];have hh:n/2≠0:=by omega
    obtain ⟨a,b⟩:=Qm f (n/2) hh (by rw [Nat.pow_succ] at hf;omega);obtain ⟨q,hq⟩:=a;refine ⟨⟨q,by rw [Nat.pow_succ,Nat.mul_right_comm,←hq];omega⟩,?_⟩;rw [Nat.pow_succ,Nat.mul_comm,←Nat.div_div_eq_div_mul];exact b
theorem Tg (n:Nat)(h:n≠0):2^tz n ∣ n:=(Qm _ n h (Cm n)).1
theorem Qo (n:Nat)(h:n≠0):n/2^tz n%2=1:=(Qm _ n h (Cm n)).2
theorem Qn (n:Nat)(h:n≠0):n/2^tz n*2^tz n=n:=Nat.div_mul_cancel (Tg n h)
theorem P4 {a b x y:Nat}(hx:x%2=1)(hy:y%2=1)(h:x*2^a=y*2^b):a=b∧x=y:=by
 have key:∀ {a b x y:Nat},x%2=1→x*2^a=y*2^b→b≤a:=by
  intro a b x y hx h;by_cases hab:b≤a
  ·exact hab
  ·obtain ⟨d,rfl⟩:∃ d,b=a+(d+1):=⟨b-a-1,by omega⟩;rw [Nat.pow_add,←Nat.mul_assoc,Nat.mul_right_comm] at h;have:=Nat.eq_of_mul_eq_mul_right (Nat.pow_pos (by decide)) h;rw [Nat.pow_succ,←Nat.mul_assoc] at this;omega
 have e:a=b:=Nat.le_antisymm (key hy h.symm) (key hx h);subst e;exact ⟨rfl,Nat.eq_of_mul_eq_mul_right (Nat.pow_pos (by decide)) h⟩
theorem Nz (n k q:Nat)(hq:q%2=1)(h:n=q*2^k):tz n=k:=by
 have hn:n≠0:=by
  rintro rfl;have:0<q*2^k:=Nat.mul_pos (by omega) (Nat.pow_pos (by decide));omega
 exact (P4 (Qo n hn) hq ((Qn n hn).trans h)).1
def tzL:List Nat→Nat
 | []=>0
 | x::xs=>if x=0 then 64+tzL xs else tz x
theorem Aaw (n:Nat)(h:n≠0):tzL (limbs n)=tz n:=by
 induction n using Nat.strongRecOn with
 | _ n ih =>
   rw [B9 n h,tzL];have p:(2:Nat)^64=18446744073709551616:=by decide
   by_cases hx:n%18446744073709551616=0
   ·rw [if_pos hx];have h1:n/18446744073709551616≠0:=by omega
    rw [ih _ (Nat.div_lt_self (by omega) (by decide)) h1];have a:=Qo _ h1;have b:=Qn _ h1;refine (Nz n _ _ a ?_).symm;rw [Nat.add_comm,Nat.pow_add,←Nat.mul_assoc,b,p];omega
   ·rw [if_neg hx];have a:=Qo _ hx;have b:=Qn _ hx;have c:tz (n%18446744073709551616)<64:=by
     by_cases hc:tz (n%18446744073709551616)<64
     ·exact hc
     ·have d:=Tg _ hx;have:=Nat.le_of_dvd (by omega) d;have e:2^64≤2^tz (n%18446744073709551616):=Nat.pow_le_pow_right (by decide) (by omega);omega
    obtain ⟨d,hd⟩:∃ d,64=tz (n%18446744073709551616)+(d+1):=⟨64-tz (n%18446744073709551616)-1,by omega⟩;refine (Nz n _ (n%18446744073709551616/2^tz (n%18446744073709551616)+2^(d+1)*(n/18446744073709551616)) ?_ ?_).symm
    ·rw [Nat.pow_succ,Nat.mul_comm (2^d) 2,Nat.mul_assoc];omega
    ·rw [Nat.add_mul,b,Nat.mul_right_comm,←Nat.pow_add,Nat.add_comm (d+1),←hd,p];omega
theorem Uh (xs:List Nat)(k:Nat)(h:k<xs.length):xs.drop k=nth xs k::xs.drop (k+1):=by
 rw [List.drop_eq_getElem_cons h,nth,List.getD_eq_getElem?_getD,List.getElem?_eq_getElem h];rfl
theorem Aep (xs:List Nat)(k:Nat)(h:k<xs.length):tzL (xs.drop k)=if nth xs k=0 then 64+tzL (xs.drop (k+1)) else tz (nth xs k):=by
 rw [Uh xs k h,tzL]
theorem Ahc (n k:Nat)(h:n≠0)(hk:n<2^k):tz n<k:=by
 have:=Nat.le_of_dvd (Nat.pos_of_ne_zero h) (Tg n h);exact (Nat.pow_lt_pow_iff_right (by decide)).1 (Nat.lt_of_le_of_lt this hk)
end Go.Proofs.YtmgaloopddiekaaGreatDoor
namespace Go.Proofs.YtmgaloopddiekaaGreatDoor
theorem Hz (xs:List Nat)(i j y:Nat)(hi:i<xs.length):nth (xs.set i y) j=if i=j then y else nth xs j:=by
 unfold nth;rw [List.getD_eq_getElem?_getD,List.getD_eq_getElem?_getD,List.getElem?_set];by_cases e:i=j
 ·subst e;simp [hi]
 ·simp [e]
theorem No (xs:List Nat)(i:Nat)(h:xs.length≤i):nth xs i=0:=by
 unfold nth;rw [List.getD_eq_getElem?_getD,List.getElem?_eq_none h];rfl
theorem F0 (xs:List Nat)(i y:Nat)(hi:i<xs.length):val (xs.set i y)+18446744073709551616^i*nth xs i=val xs+18446744073709551616^i*y:=by
 induction xs generalizing i with
 | nil=>simp at hi
 | cons x xs ih =>
   cases i with
   | zero=>simp [val,nth];omega
   | succ i =>
     have:=ih i (by simpa using hi);rw [List.set_cons_succ,val,val,D8,Nat.pow_succ];generalize 18446744073709551616^i=p at *;generalize val (xs.set i y)=a at *;generalize val xs=b at *;generalize nth xs i=c at *;have e1:p*18446744073709551616*c=18446744073709551616*(p*c):=by rw [Nat.mul_right_comm,Nat.mul_comm]
     have e2:p*18446744073709551616*y=18446744073709551616*(p*y):=by rw [Nat.mul_right_comm,Nat.mul_comm]
     rw [e1,e2];omega
theorem Da {xs:List Nat}(h:Small xs)(i y:Nat)(hy:y<18446744073709551616):Small (xs.set i y):=by
 intro x hx;rcases List.mem_or_eq_of_mem_set hx with h' | rfl
 ·exact h x h'
 ·exact hy
theorem Dz (n:Nat):Small (List.replicate n 0):=by
 intro x hx;rw [(List.mem_replicate.1 hx).2];decide
theorem Fx (n:Nat):val (List.replicate n 0)=0:=by
 induction n with
 | zero=>rfl
 | succ n ih=>rw [List.replicate_succ,val,ih]
theorem Ev (n i:Nat):nth (List.replicate n 0) i=0:=by
 unfold nth;rw [List.getD_eq_getElem?_getD,List.getElem?_replicate];split<;>rfl
theorem Adk {a b:Nat}(ha:a<18446744073709551616)(hb:b<18446744073709551616):a ||| b<18446744073709551616:=Nat.or_lt_two_pow (n:=64) ha hb
def Jn (out:List Nat) (q r i x:Nat):List Nat :=
 (out.set (q+i) (nth out (q+i) ||| (x*2^r%18446744073709551616))).set (q+i+1) (nth out (q+i+1) ||| (x/2/2^(63-r)))
def Fd (xs:List Nat) (q r n:Nat):Nat→List Nat
 | 0=>List.replicate n 0
 | k+1=>Jn (Fd xs q r n k) q r k (nth xs k)
theorem J1 (xs:List Nat)(q r n:Nat):∀ k,(Fd xs q r n k).length=n
 | 0=>by simp [Fd]
 | k+1=>by simp [Fd,Jn,J1 xs q r n k]
theorem N9 (xs:List Nat)(h:Small xs)(q r n:Nat):∀ k,Small (Fd xs q r n k)
 | 0=>Dz n
 | k + 1 => by
   have ih:=N9 xs h q r n k;unfold Fd Jn;refine Da (Da ih _ _ (Adk (nth_lt ih _) (Nat.mod_lt _ (by decide)))) _ _ (Adk (nth_lt ih _) ?_);refine Nat.lt_of_le_of_lt (Nat.div_le_self _ _) (Nat.lt_of_le_of_lt (Nat.div_le_self _ _) (nth_lt h _))
theorem Vm (x r:Nat)(hr:r<64):x/2/2^(63-r)=x*2^r/18446744073709551616:=by
 rw [Nat.div_div_eq_div_mul];have e:(18446744073709551616:Nat)=2*2^(63-r)*2^r:=by
  rw [Nat.mul_assoc,←Nat.pow_add,show 63-r+r=63 by omega]
 rw [e,Nat.mul_div_mul_right _ _ (Nat.pow_pos (by decide))]
theorem Adj (c x r:Nat)(hr:r<64)(hc:c<2^r):c ||| (x*2^r%18446744073709551616)=c+x*2^r%18446744073709551616:=by
 have e:(18446744073709551616:Nat)=2^(64-r)*2^r:=by
  rw [←Nat.pow_add,show 64-r+r=64 by omega]
 rw [e,Nat.mul_mod_mul_right,Nat.mul_comm,Nat.or_comm,←Nat.two_pow_add_eq_or_of_lt hc,Nat.add_comm]
theorem Rh (xs:List Nat)(h:Small xs)(q r n:Nat)(hr:r<64)(hn:n=q+xs.length+1):∀ k,k≤xs.length →
 val (Fd xs q r n k)=val (xs.take k)*2^r*18446744073709551616^q∧nth (Fd xs q r n k) (q+k)<2^r∧∀ j,q+k<j→nth (Fd xs q r n k) j=0
 | 0, _ => by
   refine ⟨by simp [Fd,Fx,val],?_,fun j _=>?_⟩
   ·rw [Fd,Ev];exact Nat.pow_pos (by decide)
   ·rw [Fd,Ev]
 | k + 1, hk => by
   obtain ⟨i1,i2,i3⟩:=Rh xs h q r n hr hn k (by omega);have hl:=J1 xs q r n k;have hx:=nth_lt h k;rw [Fd];generalize Fd xs q r n k=out at *;unfold Jn;have h0:=i3 (q+k+1) (by omega);rw [h0,Nat.zero_or,Vm _ r hr,Adj _ _ r hr i2];have hx2:nth xs k*2^r/18446744073709551616<2^r:=by
    rw [Nat.div_lt_iff_lt_mul (by decide),Nat.mul_comm (2^r)];exact Nat.mul_lt_mul_of_pos_right hx (Nat.pow_pos (by decide))
   generalize hX:nth xs k*2^r=X at *;have l1:q+k<out.length:=by omega
   have l2:q+k+1<(out.set (q+k) (nth out (q+k)+X%18446744073709551616)).length:=by rw [List.length_set];omega
   refine ⟨?_,?_,fun j hj=>?_⟩
   ·have v1:=F0 out (q+k) (nth out (q+k)+X%18446744073709551616) l1;have v2:=F0 _ (q+k+1) (X/18446744073709551616) l2;rw [Hz _ _ _ _ l1,if_neg (by omega),h0] at v2;rw [B7 xs k (by omega),Nat.add_mul,Nat.add_mul,←i1,Nat.mul_assoc (18446744073709551616^k),hX];rw [Nat.pow_succ] at v2;have e3:18446744073709551616^k*X*18446744073709551616^q=18446744073709551616^(q+k)*X:=by rw [Nat.mul_right_comm,←Nat.pow_add,Nat.add_comm k q]
    rw [e3];have e4:18446744073709551616^(q+k)*X=18446744073709551616^(q+k)*18446744073709551616*(X/18446744073709551616)+18446744073709551616^(q+k)*(X%18446744073709551616):=by
     rw [Nat.mul_assoc,←Nat.mul_add,Nat.div_add_mod]
    rw [e4];rw [Nat.mul_add] at v1;generalize 18446744073709551616^(q+k)*18446744073709551616*(X/18446744073709551616)=a at *;generalize 18446744073709551616^(q+k)*(X%18446744073709551616)=b at *;generalize 18446744073709551616^(q+k)*nth out (q+k)=c at *;omega
   ·rw [←Nat.add_assoc,Hz _ _ _ _ l2,if_pos rfl];exact hx2
   ·rw [Hz _ _ _ _ l2,if_neg (by omega),Hz _ _ _ _ l1,if_neg (by omega)];exact i3 j (by omega)
theorem Jd (n:Nat):2^n=2^(n%64)*18446744073709551616^(n/64):=by
 have e:(18446744073709551616:Nat)=2^64:=by decide
 rw [e,←Nat.pow_mul,←Nat.pow_add,Nat.mod_add_div]
theorem Zp (xs:List Nat)(h:Small xs)(n:Nat):val (Fd xs (n/64) (n%64) (n/64+xs.length+1) xs.length)=val xs*2^n:=by
 have:=(Rh xs h (n/64) (n%64) _ (Nat.mod_lt _ (by decide)) rfl xs.length (Nat.le_refl _)).1;rw [this,List.take_of_length_le (Nat.le_refl _),Nat.mul_assoc,←Jd]
def Dh (out ys:List Nat):Nat→List Nat × Nat
 | 0=>(out,0)
 | k + 1 => let s := Dh   out ys k
   (s.1.set k ((nth s.1 k+nth ys k+s.2)%18446744073709551616),(nth s.1 k+nth ys k+s.2)/18446744073709551616)
theorem Gt (out ys:List Nat)(k:Nat):Dh out ys (k+1)=((Dh out ys k).1.set k ((nth (Dh out ys k).1 k+nth ys k+(Dh out ys k).2)%18446744073709551616),(nth (Dh out ys k).1 k+nth ys k+(Dh out ys k).2)/18446744073709551616):=rfl
theorem E7 (out ys:List Nat):∀ k,(Dh out ys k).1.length=out.length
 | 0=>rfl
 | k+1=>by rw [Gt,List.length_set,E7 out ys k]
theorem F4 (out ys:List Nat)(h:Small out):∀ k,Small (Dh out ys k).1
 | 0=>h
 | k+1=>by rw [Gt];exact Da (F4 out ys h k) _ _ (Nat.mod_lt _ (by decide))
theorem Jv (out ys:List Nat)(h:Small out)(h':Small ys):∀ k,(Dh out ys k).2≤1
 | 0=>by simp [Dh]
 | k + 1 => by
   have a:=Jv out ys h h' k;have b:=nth_lt (F4 out ys h k) k;have c:=nth_lt h' k;rw [Gt]
   show (nth (Dh out ys k).1 k+nth ys k+(Dh out ys k).2)/18446744073709551616≤1
   omega
theorem Gl (xs:List Nat)(k:Nat):val (xs.take (k+1))=val (xs.take k)+18446744073709551616^k*nth xs k:=by
 by_cases h:k<xs.length
 ·exact B7 xs k h
 ·rw [List.take_of_length_le (by omega),List.take_of_length_le (by omega),No xs k (by omega)];rfl
theorem O8 (out ys:List Nat):∀ k,k≤out.length→val (Dh out ys k).1+18446744073709551616^k*(Dh out ys k).2=val out+val (ys.take k)
 | 0,_=>by simp [Dh,val]
 | k + 1, hk => by
   have ih:=O8 out ys k (by omega);have hl:=E7 out ys k;rw [Gt,Gl];generalize Dh out ys k=s at *;obtain ⟨o,c⟩:=s;simp only at *;generalize hT:nth o k+nth ys k+c=T;have v:=F0 o k (T%18446744073709551616) (by omega);have e:18446744073709551616^(k+1)*(T/18446744073709551616)+18446744073709551616^k*(T%18446744073709551616)=18446744073709551616^k*T:=by
    rw [Nat.pow_succ,Nat.mul_assoc,←Nat.mul_add,Nat.div_add_mod]
   have e2:18446744073709551616^k*T=18446744073709551616^k*nth o k+18446744073709551616^k*nth ys k+18446744073709551616^k*c:=by
    rw [←hT,Nat.mul_add,Nat.mul_add]
   omega
theorem Q5 (out ys:List Nat)(h:Small out)(k:Nat)(hy:ys.length≤k)(hc:(Dh out ys k).2=0):∀ d,k+d≤out.length→Dh out ys (k+d)=((Dh out ys k).1,0)
 | 0,_=>by rw [Nat.add_zero,←hc]
 | d + 1, hd => by
   have ih:=Q5 out ys h k hy hc d (by omega);have hlt:=nth_lt (F4 out ys h k) (k+d);have hl:=E7 out ys k;rw [←Nat.add_assoc,Gt,ih,No ys (k+d) (by omega)];simp only [Nat.add_zero];rw [Nat.mod_eq_of_lt hlt,Nat.div_eq_of_lt hlt]
   congr 1
   apply List.ext_getElem
   ·simp
   ·intro i h1 h2;rw [List.getElem_set];split
    ·rename_i e;subst e;rw [nth,List.getD_eq_getElem?_getD,List.getElem?_eq_getElem h2];rfl
    ·rfl
theorem Tk (xs ys:List Nat)(h:Small xs)(h':Small ys)(hle:ys.length≤xs.length):val (Dh (xs++[0]) ys (xs.length+1)).1=val xs+val ys:=by
 have hs:Small (xs++[0]):=by
  intro x hx;rcases List.mem_append.1 hx with hx | hx
  ·exact h x hx
  ·have:x=0:=by simpa using hx
   omega
 have a:=O8 (xs++[0]) ys (xs.length+1) (by simp);rw [List.take_of_length_le (by omega),Cp,Nat.pow_succ] at a;have b:=Eg _ h;have c:=Eg _ h';have d:18446744073709551616^ys.length≤18446744073709551616^xs.length:=Nat.pow_le_pow_right (by decide) hle;have e:val [0]=0:=by simp [val]
 rw [e,Nat.mul_zero,Nat.add_zero] at a;generalize (Dh (xs++[0]) ys (xs.length+1)).2=q at *;generalize (Dh (xs++[0]) ys (xs.length+1)).1=o at *;generalize 18446744073709551616^xs.length=p at *;generalize 18446744073709551616^ys.length=p' at *;have hq:q=0:=by
  by_cases hq:q=0
  ·exact hq
  ·have:p*18446744073709551616*1≤p*18446744073709551616*q:=Nat.mul_le_mul_left _ (by omega);omega
 rw [hq,Nat.mul_zero,Nat.add_zero] at a;exact a
end Go.Proofs.YtmgaloopddiekaaGreatDoor
namespace Go.Proofs.YtmgaloopddiekaaGreatDoor
def Iy (out ys:List Nat):Nat→List Nat × Nat
 | 0=>(out,0)
 | k + 1 => let s := Iy   out ys k
   (s.1.set k ((nth s.1 k+18446744073709551616-nth ys k-s.2)%18446744073709551616),if nth s.1 k<nth ys k+s.2 then 1 else 0)
theorem Ju (out ys:List Nat)(k:Nat):Iy out ys (k+1)=((Iy out ys k).1.set k ((nth (Iy out ys k).1 k+18446744073709551616-nth ys k-(Iy out ys k).2)%18446744073709551616),if nth (Iy out ys k).1 k<nth ys k+(Iy out ys k).2 then 1 else 0):=rfl
theorem I5 (out ys:List Nat):∀ k,(Iy out ys k).1.length=out.length
 | 0=>rfl
 | k+1=>by rw [Ju,List.length_set,I5 out ys k]
theorem J7 (out ys:List Nat)(h:Small out):∀ k,Small (Iy out ys k).1
 | 0=>h
 | k+1=>by rw [Ju];exact Da (J7 out ys h k) _ _ (Nat.mod_lt _ (by decide))
theorem Ku (out ys:List Nat):∀ k,(Iy out ys k).2≤1
 | 0=>by simp [Iy]
 | k + 1 => by
   rw [Ju]
   show (if _ then 1 else 0)≤1
   split<;>omega
theorem Vs (out ys:List Nat)(h:Small out)(h':Small ys):∀ k,k≤out.length→val (Iy out ys k).1+val (ys.take k)=val out+18446744073709551616^k*(Iy out ys k).2
 | 0,_=>by simp [Iy,val]
 | k + 1, hk => by
   have ih:=Vs out ys h h' k (by omega);have hl:=I5 out ys k;have hx:=nth_lt (J7 out ys h k) k;have hy:=nth_lt h' k;have hb:=Ku out ys k;rw [Ju,Gl,Nat.pow_succ];generalize Iy out ys k=s at *;obtain ⟨o,c⟩:=s;simp only at *;generalize nth ys k=y at *;have v:=F0 o k ((nth o k+18446744073709551616-y-c)%18446744073709551616) (by omega);generalize nth o k=x at *;generalize 18446744073709551616^k=p at *;by_cases hlt:x<y+c
   ·rw [if_pos hlt,Nat.mod_eq_of_lt (by omega)] at *;have e:p*(x+18446744073709551616-y-c)+p*y+p*c=p*x+p*18446744073709551616:=by
     rw [←Nat.mul_add,←Nat.mul_add,←Nat.mul_add];congr 1;omega
    rw [Nat.mul_one];omega
   ·have e0:(x+18446744073709551616-y-c)%18446744073709551616=x-y-c:=by omega
    rw [if_neg hlt];rw [e0] at v ⊢;have e:p*(x-y-c)+p*y+p*c=p*x:=by
     rw [←Nat.mul_add,←Nat.mul_add];congr 1;omega
    rw [Nat.mul_zero,Nat.add_zero];omega
theorem Aee (xs ys:List Nat)(h:Small xs)(h':Small ys)(hle:ys.length≤xs.length)(hv:val ys≤val xs):val (Iy xs ys xs.length).1=val xs-val ys:=by
 have a:=Vs xs ys h h' xs.length (Nat.le_refl _);rw [List.take_of_length_le hle] at a;have b:=Eg _ (J7 xs ys h xs.length);rw [I5] at b;have c:=Ku xs ys xs.length;generalize (Iy xs ys xs.length).2=q at *;have hq:q=0:=by
  by_cases hq:q=0
  ·exact hq
  ·obtain rfl:q=1:=by omega
   rw [Nat.mul_one] at a;omega
 rw [hq,Nat.mul_zero,Nat.add_zero] at a;omega
theorem Ac2 (p c z:Nat) :
 (z+(p%18446744073709551616+c)%18446744073709551616)%18446744073709551616=(p+c+z)%18446744073709551616 ∧
 p/18446744073709551616+(p%18446744073709551616+c)/18446744073709551616+(z+(p%18446744073709551616+c)%18446744073709551616)/18446744073709551616=(p+c+z)/18446744073709551616:=by
 omega
theorem Lf (x y c z:Nat)(hx:x<18446744073709551616)(hy:y<18446744073709551616)(hc:c<18446744073709551616)(hz:z<18446744073709551616):(x*y+c+z)/18446744073709551616<18446744073709551616:=by
 have:x*y≤18446744073709551615*18446744073709551615:=Nat.mul_le_mul (by omega) (by omega);omega
def Hs (out:List Nat) (i x:Nat) (ys:List Nat):Nat→List Nat × Nat
 | 0=>(out,0)
 | j + 1 => let s := Hs   out i x ys j
   (s.1.set (i+j) ((x*nth ys j+s.2+nth s.1 (i+j))%18446744073709551616),(x*nth ys j+s.2+nth s.1 (i+j))/18446744073709551616)
theorem H9 (out:List Nat)(i x:Nat)(ys:List Nat)(j:Nat):Hs out i x ys (j+1)=((Hs out i x ys j).1.set (i+j) ((x*nth ys j+(Hs out i x ys j).2+nth (Hs out i x ys j).1 (i+j))%18446744073709551616),(x*nth ys j+(Hs out i x ys j).2+nth (Hs out i x ys j).1 (i+j))/18446744073709551616):=rfl
theorem Gb (out:List Nat)(i x:Nat)(ys:List Nat):∀ j,(Hs out i x ys j).1.length=out.length
 | 0=>rfl
 | j+1=>by rw [H9,List.length_set,Gb out i x ys j]
theorem J6 (out:List Nat)(i x:Nat)(ys:List Nat)(h:Small out):∀ j,Small (Hs out i x ys j).1
 | 0=>h
 | j+1=>by rw [H9];exact Da (J6 out i x ys h j) _ _ (Nat.mod_lt _ (by decide))
theorem Ma (out:List Nat)(i x:Nat)(ys:List Nat)(h:Small out)(h':Small ys)(hx:x<18446744073709551616):∀ j,(Hs out i x ys j).2<18446744073709551616
 | 0=>by simp [Hs]
 | j + 1 => by
   rw [H9];exact Lf _ _ _ _ hx (nth_lt h' j) (Ma out i x ys h h' hx j) (nth_lt (J6 out i x ys h j) _)
theorem Vk (out:List Nat)(i x:Nat)(ys:List Nat):∀ j k,i+j≤k→i+j≤out.length→nth (Hs out i x ys j).1 k=nth out k
 | 0,_,_,_=>rfl
 | j + 1, k, h, hk => by
   rw [H9]
   show nth ((Hs out i x ys j).1.set (i+j) _) k=_
   rw [Hz _ _ _ _ (by rw [Gb];omega),if_neg (by omega)];exact Vk out i x ys j k (by omega) (by omega)
theorem Vl (out:List Nat)(i x:Nat)(ys:List Nat):∀ j,i+j≤out.length →
 val (Hs out i x ys j).1+18446744073709551616^(i+j)*(Hs out i x ys j).2=val out+18446744073709551616^i*(x*val (ys.take j))
 | 0,_=>by simp [Hs,val]
 | j + 1, hj => by
   have ih:=Vl out i x ys j (by omega);have hl:=Gb out i x ys j;rw [H9,Gl,←Nat.add_assoc,Nat.pow_succ,Nat.mul_add,Nat.mul_add,←Nat.add_assoc,←ih];generalize Hs out i x ys j=s at *;obtain ⟨o,c⟩:=s;simp only at *;generalize hT:x*nth ys j+c+nth o (i+j)=T;have v:=F0 o (i+j) (T%18446744073709551616) (by omega);have e1:18446744073709551616^i*(x*(18446744073709551616^j*nth ys j))=18446744073709551616^(i+j)*(x*nth ys j):=by
    rw [Nat.pow_add,←Nat.mul_assoc x,Nat.mul_comm x,Nat.mul_assoc,Nat.mul_assoc]
   rw [e1];generalize 18446744073709551616^(i+j)=p at *;have e:p*18446744073709551616*(T/18446744073709551616)+p*(T%18446744073709551616)=p*T:=by
    rw [Nat.mul_assoc,←Nat.mul_add,Nat.div_add_mod]
   have e2:p*T=p*(x*nth ys j)+p*c+p*nth o (i+j):=by rw [←hT,Nat.mul_add,Nat.mul_add]
   omega
def Kk (xs ys:List Nat) (n:Nat):Nat→List Nat
 | 0=>List.replicate n 0
 | i + 1 => let s := Hs   (Kk   xs ys n i) i (nth xs i) ys ys.length
   s.1.set (i+ys.length) s.2
theorem Le (xs ys:List Nat)(n i:Nat):Kk xs ys n (i+1)=(Hs (Kk xs ys n i) i (nth xs i) ys ys.length).1.set (i+ys.length) (Hs (Kk xs ys n i) i (nth xs i) ys ys.length).2:=rfl
theorem Kl (xs ys:List Nat)(n:Nat):∀ i,(Kk xs ys n i).length=n
 | 0=>by simp [Kk]
 | i+1=>by rw [Le,List.length_set,Gb,Kl xs ys n i]
theorem Py (xs ys:List Nat)(n:Nat)(h:Small xs)(h':Small ys):∀ i,Small (Kk xs ys n i)
 | 0=>Dz n
 | i + 1 => by
   have ih:=Py xs ys n h h' i;rw [Le];exact Da (J6 _ _ _ _ ih _) _ _ (Ma _ _ _ _ ih h' (nth_lt h i) _)
theorem Uv (xs ys:List Nat)(h:Small xs)(h':Small ys):∀ i,i≤xs.length →
 val (Kk xs ys (xs.length+ys.length) i)=val (xs.take i)*val ys∧∀ k,i+ys.length≤k→nth (Kk xs ys (xs.length+ys.length) i) k=0
 | 0, _ => by
   refine ⟨by simp [Kk,Fx,val],fun k _=>?_⟩;rw [Kk,Ev]
 | i + 1, hi => by
   obtain ⟨i1,i2⟩:=Uv xs ys h h' i (by omega);have hl:=Kl xs ys (xs.length+ys.length) i;rw [Le];generalize Kk xs ys (xs.length+ys.length) i=out at *;have v:=Vl out i (nth xs i) ys ys.length (by omega);have hn:=Vk out i (nth xs i) ys ys.length;have hrl:=Gb out i (nth xs i) ys ys.length;generalize Hs out i (nth xs i) ys ys.length=s at *;obtain ⟨o,c⟩:=s;simp only at *;have v2:=F0 o (i+ys.length) c (by omega);rw [hn _ (Nat.le_refl _) (by omega),i2 _ (Nat.le_refl _),Nat.mul_zero,Nat.add_zero] at v2;refine ⟨?_,fun k hk=>?_⟩
   ·rw [List.take_of_length_le (Nat.le_refl _)] at v;rw [B7 xs i (by omega),Nat.add_mul,←i1,Nat.mul_assoc,←v];exact v2
   ·rw [Hz _ _ _ _ (by omega),if_neg (by omega),hn k (by omega) (by omega),i2 k (by omega)]
theorem Ac0 (xs ys:List Nat)(h:Small xs)(h':Small ys):val (Kk xs ys (xs.length+ys.length) xs.length)=val xs*val ys:=by
 rw [(Uv xs ys h h' xs.length (Nat.le_refl _)).1,List.take_of_length_le (Nat.le_refl _)]
def Ip (xs:List Nat) (r i:Nat):Nat:=if i+1<xs.length then (nth xs i/2^r) ||| (nth xs (i+1)*2%18446744073709551616*2^(63-r)%18446744073709551616) else nth xs i/2^r
def Dt (xs:List Nat) (r:Nat):Nat→List Nat
 | 0=>List.replicate xs.length 0
 | k+1=>(Dt xs r k).set k (Ip xs r k)
theorem He (xs:List Nat)(r:Nat):∀ k,(Dt xs r k).length=xs.length
 | 0=>by simp [Dt]
 | k+1=>by rw [Dt,List.length_set,He xs r k]
theorem Aad (xs:List Nat)(h:Small xs)(r i:Nat)(hr:r<64):Ip xs r i=nth xs i/2^r+nth xs (i+1)*2^(64-r)%18446744073709551616:=by
 have e64:(18446744073709551616:Nat)=2^(64-r)*2^r:=by
  rw [←Nat.pow_add,show 64-r+r=64 by omega]
 unfold Ip;by_cases hi:i+1<xs.length
 ·rw [if_pos hi];have e1:nth xs (i+1)*2%18446744073709551616*2^(63-r)%18446744073709551616=nth xs (i+1)*2^(64-r)%18446744073709551616:=by
   rw [Nat.mod_mul_mod,Nat.mul_assoc,show (64-r)=(63-r)+1 by omega,Nat.pow_succ,Nat.mul_comm 2]
  have e2:nth xs i/2^r<2^(64-r):=by
   rw [Nat.div_lt_iff_lt_mul (Nat.pow_pos (by decide)),←e64];exact nth_lt h i
  rw [e1];have e3:nth xs (i+1)*2^(64-r)%18446744073709551616=2^(64-r)*(nth xs (i+1)%2^r):=by
   rw [e64,Nat.mul_comm (nth xs (i+1)),Nat.mul_mod_mul_left]
  rw [e3,Nat.or_comm,←Nat.two_pow_add_eq_or_of_lt e2,Nat.add_comm]
 ·rw [if_neg hi,No xs (i+1) (by omega),Nat.zero_mul,Nat.zero_mod,Nat.add_zero]
theorem Aae (xs:List Nat)(h:Small xs)(r i:Nat)(_hr:r<64):Ip xs r i<18446744073709551616:=by
 unfold Ip;have a:=nth_lt h i;have b:nth xs i/2^r≤nth xs i:=Nat.div_le_self _ _;split
 ·exact Adk (by omega) (Nat.mod_lt _ (by decide))
 ·omega
theorem Nc (xs:List Nat)(h:Small xs)(r:Nat)(hr:r<64):∀ k,Small (Dt xs r k)
 | 0=>Dz _
 | k+1=>Da (Nc xs h r hr k) _ _ (Aae xs h r k hr)
theorem P8 (xs:List Nat)(r:Nat):∀ k j,k≤xs.length→nth (Dt xs r k) j=if j<k then Ip xs r j else 0
 | 0,j,_=>by rw [Dt,Ev,if_neg (by omega)]
 | k + 1, j, hk => by
   rw [Dt,Hz _ _ _ _ (by rw [He];omega),P8 xs r k j (by omega)];by_cases e:k=j
   ·subst e;rw [if_pos rfl,if_pos (by omega)]
   ·rw [if_neg e];by_cases h2:j<k
    ·rw [if_pos h2,if_pos (by omega)]
    ·rw [if_neg h2,if_neg (by omega)]
theorem P9 (xs:List Nat)(h:Small xs)(r:Nat)(hr:r<64)(o:List Nat)(ho:∀ j,j<xs.length→nth o j=Ip xs r j):∀ k,k≤xs.length→k≤o.length →
 val (o.take k)*2^r+nth xs 0%2^r=val (xs.take k)+18446744073709551616^k*(nth xs k%2^r)
 | 0,_,_=>by simp [val]
 | k + 1, hk, hk' => by
   have ih:=P9 xs h r hr o ho k (by omega) (by omega);have e64:(18446744073709551616:Nat)=2^(64-r)*2^r:=by
    rw [←Nat.pow_add,show 64-r+r=64 by omega]
   rw [B7 o k (by omega),B7 xs k (by omega),ho k (by omega),Aad xs h r k hr,Nat.add_mul,Nat.pow_succ];have e3:nth xs (k+1)*2^(64-r)%18446744073709551616*2^r=18446744073709551616*(nth xs (k+1)%2^r):=by
    rw [e64,Nat.mul_comm (nth xs (k+1)),Nat.mul_mod_mul_left,Nat.mul_right_comm]
   have e4:nth xs k/2^r*2^r+nth xs k%2^r=nth xs k:=by rw [Nat.mul_comm];exact Nat.div_add_mod _ _
   generalize 18446744073709551616^k=p at *;have e5:p*(nth xs k/2^r+nth xs (k+1)*2^(64-r)%18446744073709551616)*2^r=p*(nth xs k/2^r*2^r)+p*(18446744073709551616*(nth xs (k+1)%2^r)):=by
    rw [Nat.mul_assoc,Nat.add_mul,e3,Nat.mul_add]
   rw [e5,←Nat.mul_assoc p 18446744073709551616];have e6:p*nth xs k=p*(nth xs k/2^r*2^r)+p*(nth xs k%2^r):=by rw [←Nat.mul_add,e4]
   omega
theorem Xj (xs:List Nat)(h:Small xs)(r:Nat)(hr:r<64):val (Dt xs r xs.length)=val xs/2^r:=by
 have hl:=He xs r xs.length;have:=P9 xs h r hr (Dt xs r xs.length) (fun j hj=>by rw [P8 xs r _ j (Nat.le_refl _),if_pos hj]) xs.length (Nat.le_refl _) (by omega);rw [List.take_of_length_le (by omega),List.take_of_length_le (Nat.le_refl _),No xs xs.length (Nat.le_refl _),Nat.zero_mod,Nat.mul_zero,Nat.add_zero] at this;have hlt:nth xs 0%2^r<2^r:=Nat.mod_lt _ (Nat.pow_pos (by decide));rw [←this,Nat.add_comm,Nat.add_mul_div_right _ _ (Nat.pow_pos (by decide)),Nat.div_eq_of_lt hlt,Nat.zero_add]
theorem Qp (xs:List Nat)(h:Small xs)(k:Nat):val (xs.drop k)=val xs/18446744073709551616^k:=by
 by_cases hk:k≤xs.length
 ·have e:=Cp (xs.take k) (xs.drop k);rw [List.take_append_drop,List.length_take,Nat.min_eq_left hk] at e;have b:=Eg _ (Df h k);rw [List.length_take,Nat.min_eq_left hk] at b;rw [e,Nat.add_mul_div_left _ _ (Nat.pow_pos (by decide)),Nat.div_eq_of_lt b,Nat.zero_add]
 ·rw [List.drop_eq_nil_of_le (by omega),Nat.div_eq_of_lt]
  ·rfl
  ·exact Nat.lt_of_lt_of_le (Eg _ h) (Nat.pow_le_pow_right (by decide) (by omega))
theorem Aaf (xs:List Nat)(h:Small xs)(n:Nat):val (Dt (xs.drop (n/64)) (n%64) (xs.drop (n/64)).length)=val xs/2^n:=by
 rw [Xj _ (Iu h _) _ (Nat.mod_lt _ (by decide)),Qp xs h,Nat.div_div_eq_div_mul,Jd n,Nat.mul_comm]
end Go.Proofs.YtmgaloopddiekaaGreatDoor
namespace Go.Proofs.YtmgaloopddiekaaGreatDoor
structure Fi (u d yn1 yn0 q r:Nat):Prop where
 sum:u=q*yn1+r
 ge:(u*4294967296+d)/(yn1*4294967296+yn0)≤q
theorem Jz (u d yn1 yn0:Nat)(hd:d<4294967296)(h1:0<yn1):Fi u d yn1 yn0 (u/yn1) (u%yn1):=by
 refine ⟨by rw [Nat.mul_comm];exact (Nat.div_add_mod u yn1).symm,?_⟩;have e:(u*4294967296+d)/(yn1*4294967296)=u/yn1:=by
  rw [Nat.mul_comm yn1,←Nat.div_div_eq_div_mul]
  congr 1
  omega
 rw [←e];exact Nat.div_le_div_left (by omega) (by omega)
theorem Jj {u d yn1 yn0 q r:Nat}(h:Fi u d yn1 yn0 q r)(h1:0<yn1)(hc:q*yn0≤4294967296*r+d):q=(u*4294967296+d)/(yn1*4294967296+yn0):=by
 refine Nat.le_antisymm ?_ h.ge;rw [Nat.le_div_iff_mul_le (by omega),h.sum,Nat.mul_add,Nat.add_mul,Nat.mul_assoc q yn1,←Nat.mul_assoc];have:r*4294967296=4294967296*r:=Nat.mul_comm _ _;omega
theorem F9 {u d yn1 yn0 q r:Nat}(h:Fi u d yn1 yn0 q r)(hu:u<yn1*4294967296+yn0)(hd:d<4294967296)(_h1:0<yn1)(hc:4294967296≤q∨4294967296*r+d<q*yn0) :
 1≤q∧Fi u d yn1 yn0 (q-1) (r+yn1):=by
 have key:(u*4294967296+d)/(yn1*4294967296+yn0)<q:=by
  rw [Nat.div_lt_iff_lt_mul (by omega)];rcases hc with hc | hc
  ·have:4294967296*(yn1*4294967296+yn0)≤q*(yn1*4294967296+yn0):=Nat.mul_le_mul_right _ hc;omega
  ·rw [h.sum,Nat.mul_add,Nat.add_mul,←Nat.mul_assoc];have:r*4294967296=4294967296*r:=Nat.mul_comm _ _;omega
 have h1:1≤q:=Nat.lt_of_le_of_lt (Nat.zero_le _) key;refine ⟨h1,?_,Nat.le_sub_one_of_lt key⟩;have hs:=h.sum;clear key hc h;obtain ⟨k,rfl⟩:∃ k,q=k+1:=⟨q-1,by omega⟩;rw [Nat.add_sub_cancel,hs,Nat.add_mul];omega
theorem Fc {u d yn1 yn0 q r:Nat}(h:Fi u d yn1 yn0 q r)(hu:u<yn1*4294967296+yn0)(h0:yn0<4294967296)(h1:0<yn1)(hr:4294967296≤r):q=(u*4294967296+d)/(yn1*4294967296+yn0):=by
 have hq:q<4294967296:=by
  have a:q*yn1<yn1*4294967296:=by have:=h.sum;omega
  rw [Nat.mul_comm] at a;exact Nat.lt_of_mul_lt_mul_left a
 refine Jj h h1 ?_;have:q*yn0≤4294967296*4294967296:=Nat.mul_le_mul (by omega) (by omega);omega
theorem Zl (u d Y q:Nat)(hY:Y<18446744073709551616)(h0:0<Y)(hq:q=(u*4294967296+d)/Y) :
 (((u*4294967296:Int)+d)-q*Y)%18446744073709551616=(((u*4294967296+d)%Y:Nat):Int):=by
 have a:=Nat.div_add_mod (u*4294967296+d) Y;rw [←hq] at a;have b:=Nat.mod_lt (u*4294967296+d) h0;have c:(q:Int)*Y=((Y*q:Nat):Int):=by rw [Int.natCast_mul,Int.mul_comm]
 rw [c];generalize Y*q=p at *;generalize (u*4294967296+d)%Y=t at *;omega
theorem Xv (N Y lo hi:Nat)(h0:0<Y)(hN:N=hi*4294967296+lo)(_hl:lo<4294967296) :
 N/Y=hi/Y*4294967296+(hi%Y*4294967296+lo)/Y∧N%Y=(hi%Y*4294967296+lo)%Y:=by
 have a:=Nat.div_add_mod hi Y;have e:N=Y*(hi/Y*4294967296)+(hi%Y*4294967296+lo):=by
  rw [hN,←Nat.mul_assoc,←Nat.add_assoc,←Nat.add_mul,a]
 rw [e];exact ⟨by rw [Nat.mul_add_div h0],by rw [Nat.mul_add_mod]⟩
theorem Aak (hi lo y s:Nat)(hs:s<64)(hlo:lo<18446744073709551616)(hlt:hi<y) :
 (hi*18446744073709551616+lo)*2^s=(hi*2^s+lo/2^(64-s))*18446744073709551616+lo*2^s%18446744073709551616∧hi*2^s+lo/2^(64-s)<y*2^s∧lo/2^(64-s)<2^s∧lo/2^(64-s)=lo*2^s/18446744073709551616:=by
 have e64:(18446744073709551616:Nat)=2^(64-s)*2^s:=by
  rw [←Nat.pow_add,show 64-s+s=64 by omega]
 have e1:lo/2^(64-s)=lo*2^s/18446744073709551616:=by
  rw [e64,Nat.mul_div_mul_right _ _ (Nat.pow_pos (by decide))]
 have h2:lo/2^(64-s)<2^s:=by
  rw [Nat.div_lt_iff_lt_mul (Nat.pow_pos (by decide)),Nat.mul_comm (2^s),←e64];exact hlo
 refine ⟨?_,?_,h2,e1⟩
 ·have:=Nat.div_add_mod (lo*2^s) 18446744073709551616;rw [←e1] at this;rw [Nat.add_mul,Nat.add_mul,Nat.mul_right_comm];omega
 ·have:(hi+1)*2^s≤y*2^s:=Nat.mul_le_mul_right _ hlt;rw [Nat.add_mul] at this;omega
theorem Dd (u d Y:Nat)(hu:u<Y)(hd:d<4294967296):(u*4294967296+d)/Y<4294967296:=by
 rw [Nat.div_lt_iff_lt_mul (by omega)];omega
end Go.Proofs.YtmgaloopddiekaaGreatDoor
namespace Go.Proofs.YtmgaloopddiekaaGreatDoor
structure Raw where
 neg:Bool
 m:List Nat
 e:Int
structure Dy where
 neg:Bool
 m:Nat
 e:Int
def Dy.raw (d:Dy):Raw:=⟨d.neg,limbs d.m,d.e⟩
def dz:Dy:=⟨false,0,0⟩
def Raw.dy (r:Raw):Dy:=⟨r.neg,val r.m,r.e⟩
def Di (r:Raw):Bool :=
 if r.m.length=0 then (!r.neg&&r.e==0) else (Ll r.m&&nth r.m 0%2==1&&decide (-1048576≤r.e)&&decide (r.e≤1048576))
structure Dy.Ok (d:Dy):Prop where
 len:(limbs d.m).length≤64
 zero:d.m=0→d.neg=false∧d.e=0
 odd:d.m≠0→d.m%2=1
 lo:-1048576≤d.e
 hi:d.e≤1048576
theorem W7 {xs:List Nat}(h:Small xs)(hm:Ll xs=true):limbs (val xs)=xs:=by
 rw [←Ng xs h];unfold Ll at hm;by_cases h0:xs.length=0
 ·obtain rfl:=List.eq_nil_of_length_eq_zero h0;rfl
 ·simp [h0] at hm;have hm2:=hm;obtain ⟨k,hk⟩:∃ k,xs.length=k+1:=⟨xs.length-1,by omega⟩;have:tl xs=xs.length:=by
   unfold tl;rw [hk,Db,if_neg];have:=hm2.2;rwa [hk,Nat.add_sub_cancel] at this
  rw [this,List.take_of_length_le (Nat.le_refl _)]
theorem Acu {xs:List Nat}(hm:Ll xs=true):xs.length≤64:=by
 unfold Ll at hm;by_cases h0:xs.length=0
 ·omega
 ·simp [h0] at hm;exact hm.1
theorem Km (n:Nat):nth (limbs n) 0=n%18446744073709551616:=by
 by_cases h:n=0
 ·subst h;rw [Bd];rfl
 ·rw [B9 n h];rfl
theorem Dq {r:Raw}(h:Small r.m)(hm:Di r=true):r.dy.raw=r∧r.dy.Ok:=by
 obtain ⟨neg,m,e⟩:=r;unfold Di at hm;simp only at hm h;by_cases h0:m.length=0
 ·obtain rfl:=List.eq_nil_of_length_eq_zero h0;simp at hm;obtain ⟨rfl,rfl⟩:=hm;refine ⟨by simp [Raw.dy,Dy.raw,val,Bd],?_⟩;refine ⟨by simp [Raw.dy,val,Bd],fun _=>⟨rfl,rfl⟩,fun h=>absurd rfl h,by simp [Raw.dy],by simp [Raw.dy]⟩
 ·rw [if_neg h0] at hm;simp only [Bool.and_eq_true,beq_iff_eq,decide_eq_true_eq] at hm;obtain ⟨⟨⟨h1,h2⟩,h3⟩,h4⟩:=hm;have hl:=W7 h h1;have hv:val m≠0:=by
   intro hv;rw [hv,Bd] at hl;rw [←hl] at h0;simp at h0
  refine ⟨by simp only [Raw.dy,Dy.raw];rw [hl],?_⟩;refine ⟨by simp only [Raw.dy];rw [hl];exact Acu h1,fun h=>absurd h hv,fun _=>?_,h3,h4⟩;simp only [Raw.dy];rw [←hl,Km] at h2;omega
theorem Qu (n:Nat)(h:(limbs n).length≤64):Ll (limbs n)=true:=by
 by_cases h0:n=0
 ·subst h0;rw [Bd];rfl
 ·unfold Ll;have:=Il n h0;simp [h]
  right
  exact this
theorem Dy.Ok.may {d:Dy}(h:d.Ok):Di d.raw=true:=by
 unfold Di Dy.raw;simp only;by_cases h0:d.m=0
 ·obtain ⟨a,b⟩:=h.zero h0;rw [h0,Bd,a,b];rfl
 ·rw [if_neg (by have:=Bq d.m h0;omega),Qu d.m h.len,Km];have h1:=h.odd h0;have h2:=h.lo;have h3:=h.hi;have h4:d.m%18446744073709551616%2=1:=by omega
  simp [h4,h2,h3]
theorem Dy.raw_dy (d:Dy):d.raw.dy=d:=by
 simp [Dy.raw,Raw.dy,Ca]
theorem Dy.small (d:Dy):Small d.raw.m:=Cq _
theorem Mq:dz.Ok:=⟨by simp [dz,Bd],fun _=>⟨rfl,rfl⟩,fun h=>absurd rfl h,by decide,by decide⟩
structure Outc (α:Type) where
 v:α
 k:Int
def good {α:Type} (a:α):Outc α:=⟨a,0⟩
def bad (k:Int):Outc Dy:=⟨dz,k⟩
def Cr (neg:Bool) (n:Nat) (e:Int):Outc Dy :=
 if n=0 then good dz
 else if 64<(limbs (n/2^tz n)).length then bad 2
 else if 1048576<e∨e < -1048576-tz n then bad 3
 else if 1048576<e+tz n then bad 3
 else good ⟨neg,n/2^tz n,e+tz n⟩
theorem Gh (neg:Bool)(n:Nat)(e:Int):(Cr neg n e).v.Ok∧((Cr neg n e).k≠0→(Cr neg n e).v=dz):=by
 unfold Cr;by_cases h0:n=0
 ·rw [if_pos h0];exact ⟨Mq,fun _=>rfl⟩
 ·rw [if_neg h0];by_cases h1:64<(limbs (n/2^tz n)).length
  ·rw [if_pos h1];exact ⟨Mq,fun _=>rfl⟩
  ·rw [if_neg h1];by_cases h2:1048576<e∨e < -1048576-tz n
   ·rw [if_pos h2];exact ⟨Mq,fun _=>rfl⟩
   ·rw [if_neg h2];by_cases h3:1048576<e+tz n
    ·rw [if_pos h3];exact ⟨Mq,fun _=>rfl⟩
    ·rw [if_neg h3];have ho:=Qo n h0;refine ⟨⟨by simp only [good];omega,fun hz=>?_,fun _=>ho,by simp only [good];omega,by simp only [good];omega⟩,fun h=>absurd rfl h⟩;simp only [good] at hz;rw [hz] at ho;omega
end Go.Proofs.YtmgaloopddiekaaGreatDoor
namespace Go.Proofs.YtmgaloopddiekaaGreatDoor.Dg
def val:List Nat→Nat
 | []=>0
 | x::xs=>x+65536*val xs
def Small (xs:List Nat):Prop:=∀ x∈xs,x<65536
def limbs (n:Nat):List Nat:=if _h:n=0 then [] else (n%65536)::limbs (n/65536)
termination_by n
decreasing_by exact Nat.div_lt_self (by omega) (by decide)
theorem Bd:limbs 0=[]:=by rw [limbs];simp
theorem B9 (n:Nat)(h:n≠0):limbs n=(n%65536)::limbs (n/65536):=by rw [limbs];simp [h]
theorem Ca (n:Nat):val (limbs n)=n:=by
 induction n using Nat.strongRecOn with
 | _ n ih =>
   by_cases h:n=0
   ·subst h;rw [Bd];rfl
   ·rw [B9 n h,val,ih (n/65536) (Nat.div_lt_self (by omega) (by decide))];exact Nat.mod_add_div n 65536
theorem Cq (n:Nat):Small (limbs n):=by
 induction n using Nat.strongRecOn with
 | _ n ih =>
   by_cases h:n=0
   ·subst h;rw [Bd];intro x hx;cases hx
   ·rw [B9 n h];intro x hx;rcases List.mem_cons.1 hx with rfl | hx
    ·exact Nat.mod_lt _ (by decide)
    ·exact ih (n/65536) (Nat.div_lt_self (by omega) (by decide)) x hx
def Db (xs:List Nat):Nat→Nat
 | 0=>0
 | k+1=>if nth xs k=0 then Db xs k else k+1
def tl (xs:List Nat):Nat:=Db xs xs.length
theorem Kw (xs:List Nat):∀ k,Db xs k≤k
 | 0=>Nat.le_refl _
 | k + 1 => by
   unfold Db;split
   ·exact Nat.le_succ_of_le (Kw xs k)
   ·exact Nat.le_refl _
theorem Vu (xs:List Nat):tl xs≤xs.length:=Kw xs _
theorem nth_lt {xs:List Nat}(h:Small xs)(i:Nat):nth xs i<65536:=by
 unfold nth;by_cases hi:i<xs.length
 ·rw [List.getD_eq_getElem?_getD,List.getElem?_eq_getElem hi];exact h _ (List.getElem_mem hi)
 ·rw [List.getD_eq_getElem?_getD,List.getElem?_eq_none (by omega)];decide
theorem Iw (x:Nat)(xs:List Nat):∀ k,Db (x::xs) (k+1)=if Db xs k=0 then (if x=0 then 0 else 1) else Db xs k+1
 | 0=>by simp [Db,nth]
 | k + 1 => by
   rw [Db,D8,Iw x xs k,Db];by_cases h:nth xs k=0
   ·simp [h]
   ·simp [h]
theorem Ng (xs:List Nat)(h:Small xs):xs.take (tl xs)=limbs (val xs):=by
 induction xs with
 | nil=>simp [tl,Db,val,Bd]
 | cons x xs ih =>
   have hx:x<65536:=h x (List.mem_cons_self);have hs:Small xs:=fun y hy=>h y (List.mem_cons_of_mem _ hy)
   have ih':=ih hs;have ht:tl (x::xs)=if tl xs=0 then (if x=0 then 0 else 1) else tl xs+1:=Iw x xs xs.length
   have hv:tl xs=0↔val xs=0:=by
    constructor
    ·intro h0;rw [h0] at ih';have:=Ca (val xs);rw [←ih'] at this;simpa [val] using this.symm
    ·intro h0;rw [h0,Bd] at ih';have h1:=congrArg List.length ih';have h2:=Vu xs;rw [List.length_take,List.length_nil] at h1;omega
   by_cases h0:val xs=0
   ·rw [ht,if_pos (hv.2 h0)];by_cases hx0:x=0
    ·simp [hx0,val,h0,Bd]
    ·rw [if_neg hx0,val,h0];have e1:(x+65536*0)%65536=x:=by omega
     have e2:(x+65536*0)/65536=0:=by omega
     rw [B9 _ (by omega),e1,e2,Bd];simp
   ·rw [ht,if_neg (fun h=>h0 (hv.1 h)),List.take_succ_cons,ih',val];rw [B9 (x+65536*val xs) (by omega)];have e1:(x+65536*val xs)%65536=x:=by omega
    have e2:(x+65536*val xs)/65536=val xs:=by omega
    rw [e1,e2]
theorem length_limbs (n : Nat) : (limbs n).length = if n = 0 then 0 else Nat.log2 n / 16 + 1 := by
 induction n using Nat.strongRecOn with
 | _ n ih =>
   by_cases h:n=0
   ·subst h;simp [Bd]
   ·rw [B9        n h, List.length_cons, ih (n / 65536) (Nat.div_lt_self (by omega) (by decide)), if_neg h];by_cases h1:n/65536=0
    ·rw [if_pos h1];have:Nat.log2 n<16:=(Nat.log2_lt h).2 (by omega);omega
    ·rw [if_neg h1];have key:Nat.log2 n=Nat.log2 (n/65536)+16:=by
      have a1:=Nat.log2_self_le h1;have a2:=Nat.lt_log2_self (n:=n/65536);have b1:2^(Nat.log2 (n/65536)+16)≤n:=by
       rw [Nat.pow_add]
       calc 2^Nat.log2 (n/65536)*2^16≤(n/65536)*2^16:=Nat.mul_le_mul_right _ a1
        _≤n:=Nat.div_mul_le_self n 65536
      have b2:n<2^(Nat.log2 (n/65536)+16+1):=by
       have:n<(n/65536+1)*65536:=by
        have:=Nat.lt_mul_div_succ n (show 0<65536 by decide);rw [Nat.mul_comm] at this;exact this
       calc n<(n/65536+1)*65536:=this
        _≤2^(Nat.log2 (n/65536)+1)*65536:=Nat.mul_le_mul_right _ a2
        _=2^(Nat.log2 (n/65536)+16+1):=by rw [show Nat.log2 (n/65536)+16+1=(Nat.log2 (n/65536)+1)+16 by omega,Nat.pow_add _ _ 16]
      have c1:=(Nat.le_log2 h).2 b1;have c2:=(Nat.log2_lt h).2 b2;omega
     rw [key];omega
def El (xs ys:List Nat):Nat→Int
 | 0=>0
 | k+1=>if nth xs k=nth ys k then El xs ys k else if nth xs k<nth ys k then -1 else 1
theorem Cp (xs ys:List Nat):val (xs++ys)=val xs+65536^xs.length*val ys:=by
 induction xs with
 | nil=>simp [val]
 | cons x xs ih =>
   rw [List.cons_append,val,ih,val,List.length_cons,Nat.pow_succ];generalize 65536^xs.length=p;rw [Nat.mul_add,Nat.add_assoc]
   congr 2
   rw [←Nat.mul_assoc,Nat.mul_comm p]
theorem Eg (xs:List Nat)(h:Small xs):val xs<65536^xs.length:=by
 induction xs with
 | nil=>simp [val]
 | cons x xs ih =>
   have hx:x<65536:=h x (List.mem_cons_self);have:=ih (fun y hy=>h y (List.mem_cons_of_mem _ hy));rw [val,List.length_cons,Nat.pow_succ];generalize 65536^xs.length=p at *;omega
theorem Df {xs:List Nat}(h:Small xs)(k:Nat):Small (xs.take k):=fun x hx=>h x (List.mem_of_mem_take hx)
theorem Iu {xs:List Nat}(h:Small xs)(k:Nat):Small (xs.drop k):=fun x hx=>h x (List.mem_of_mem_drop hx)
theorem B7 (xs:List Nat)(k:Nat)(h:k<xs.length):val (xs.take (k+1))=val (xs.take k)+65536^k*nth xs k:=by
 rw [Jc xs k h,Cp,List.length_take,Nat.min_eq_left (by omega)];simp [val]
theorem Ig (xs ys:List Nat)(hx:Small xs)(hy:Small ys):∀ k,k≤xs.length→k≤ys.length→El xs ys k=Ea (val (xs.take k)) (val (ys.take k))
 | 0,_,_=>by simp [El,Ea]
 | k + 1, h1, h2 => by
   have ih:=Ig xs ys hx hy k (by omega) (by omega);rw [El,B7 xs k (by omega),B7 ys k (by omega),ih];have a:=Eg _ (Df hx k);have b:=Eg _ (Df hy k);rw [List.length_take,Nat.min_eq_left (by omega)] at a b;generalize 65536^k=p at *;generalize val (xs.take k)=u at *;generalize val (ys.take k)=v at *;generalize nth xs k=x;generalize nth ys k=y;by_cases e:x=y
   ·subst e;rw [if_pos rfl];unfold Ea;simp only [Nat.add_lt_add_iff_right,Nat.add_right_cancel_iff]
   ·rw [if_neg e];by_cases l:x<y
    ·rw [if_pos l];have:p*(x+1)≤p*y:=Nat.mul_le_mul_left _ l;rw [Nat.mul_add] at this;unfold Ea;rw [if_pos (by omega)]
    ·rw [if_neg l];have:p*(y+1)≤p*x:=Nat.mul_le_mul_left _ (by omega);rw [Nat.mul_add] at this;unfold Ea;rw [if_neg (by omega),if_neg (by omega)]
theorem Ci (n:Nat):n<65536^(limbs n).length:=by
 have:=Eg _ (Cq n);rwa [Ca] at this
theorem Fv (n:Nat)(h:n≠0):65536^((limbs n).length-1)≤n:=by
 induction n using Nat.strongRecOn with
 | _ n ih =>
   rw [B9 n h,List.length_cons,Nat.add_sub_cancel];by_cases h1:n/65536=0
   ·rw [h1,Bd];simp;omega
   ·have:=ih _ (Nat.div_lt_self (by omega) (by decide)) h1;have hl:0<(limbs (n/65536)).length:=by rw [B9 _ h1];simp
    obtain ⟨l,hl⟩:∃ l,(limbs (n/65536)).length=l+1:=⟨_,(Nat.succ_pred_eq_of_pos hl).symm⟩;rw [hl] at this ⊢;rw [Nat.add_sub_cancel] at this;rw [Nat.pow_succ];generalize 65536^l=p at *;omega
theorem E8 (n m:Nat)(h:(limbs n).length<(limbs m).length):n<m:=by
 have a:=Ci n;have hm:m≠0:=by rintro rfl;rw [Bd] at h;simp at h
 have b:=Fv m hm;have c:65536^(limbs n).length≤65536^((limbs m).length-1):=Nat.pow_le_pow_right (by decide) (by omega);omega
theorem Jw (n m:Nat)(h:(limbs n).length=(limbs m).length):El (limbs n) (limbs m) (limbs n).length=Ea n m:=by
 rw [Ig _ _ (Cq n) (Cq m) _ (Nat.le_refl _) (by omega),List.take_of_length_le (Nat.le_refl _),List.take_of_length_le (by omega),Ca,Ca]
theorem Il (n:Nat)(h:n≠0):nth (limbs n) ((limbs n).length-1)≠0:=by
 induction n using Nat.strongRecOn with
 | _ n ih =>
   rw [B9 n h,List.length_cons,Nat.add_sub_cancel];by_cases h1:n/65536=0
   ·rw [h1,Bd];simp [nth];omega
   ·have hl:0<(limbs (n/65536)).length:=by rw [B9 _ h1];simp
    have:=ih _ (Nat.div_lt_self (by omega) (by decide)) h1;obtain ⟨l,hl⟩:∃ l,(limbs (n/65536)).length=l+1:=⟨_,(Nat.succ_pred_eq_of_pos hl).symm⟩;rw [hl] at this ⊢;rw [D8];exact this
theorem Bq (n:Nat)(h:n≠0):0<(limbs n).length:=by rw [B9 n h];simp
theorem Sd     (n : Nat) (h : n ≠ 0) : bl n = 16 * ((limbs n).length - 1) + bl (nth (limbs n) ((limbs n).length - 1)) := by
 induction n using Nat.strongRecOn with
 | _ n ih =>
   rw [B9 n h,List.length_cons,Nat.add_sub_cancel];by_cases h1:n/65536=0
   ·rw [h1,Bd];have:n%65536=n:=by omega
    simp [nth,this]
   ·have hl:0<(limbs (n/65536)).length:=by rw [B9 _ h1];simp
    have IH:=ih _ (Nat.div_lt_self (by omega) (by decide)) h1;obtain ⟨l,hl⟩:∃ l,(limbs (n/65536)).length=l+1:=⟨_,(Nat.succ_pred_eq_of_pos hl).symm⟩;rw [hl,Nat.add_sub_cancel] at IH;rw [hl,D8];have key:bl n=bl (n/65536)+16:=by
     obtain ⟨q,hq⟩:∃ q,bl (n/65536)=q+1:=⟨bl (n/65536)-1,by have:=Id _ h1;omega⟩;have a:=D0 _ h1;have b:=Cm (n/65536);rw [hq] at a b ⊢;rw [Nat.add_sub_cancel] at a
     have := Tm    n (q + 16) (by rw [Nat.pow_add]; have : (2:Nat) ^ 16 = 65536 := by decide
                                  rw [this]; omega) (by rw [show q + 16 + 1 = (q + 1) + 16 by omega, Nat.pow_add]; have : (2:Nat) ^ 16 = 65536 := by decide
                                                        rw [this];omega)
     omega
    omega
end Go.Proofs.YtmgaloopddiekaaGreatDoor.Dg
