/- Words and contracts, part 2. -/
set_option maxRecDepth 100000
set_option maxHeartbeats 0
namespace Go.Proofs.YtabjjdicffcolaaGreatDoor
def nth (xs:List Nat) (i:Nat):Nat:=xs.getD i 0
def val:List Nat→Nat
 | []=>0
 | x::xs=>x+18446744073709551616*val xs
def Small (xs:List Nat):Prop:=∀ x∈xs,x<18446744073709551616
def Aj (n:Nat):List Nat:=if _h:n=0 then [] else (n%18446744073709551616)::Aj (n/18446744073709551616)
termination_by n
decreasing_by exact Nat.div_lt_self (by omega) (by decide)
theorem Ay:Aj 0=[]:=by rw [Aj];simp
theorem Dk (n:Nat)(h:n≠0):Aj n=(n%18446744073709551616)::Aj (n/18446744073709551616):=by rw [Aj];simp [h]
theorem Cd (n:Nat):val (Aj n)=n:=by
 induction n using Nat.strongRecOn with
 | _ n ih =>
   by_cases h:n=0
   ·subst h;rw [Ay];rfl
   ·rw [Dk n h,val,ih (n/18446744073709551616) (Nat.div_lt_self (by omega) (by decide))];exact Nat.mod_add_div n 18446744073709551616
theorem F5 (n:Nat):Small (Aj n):=by
 induction n using Nat.strongRecOn with
 | _ n ih =>
   by_cases h:n=0
   ·subst h;rw [Ay];intro x hx;cases hx
   ·rw [Dk n h];intro x hx;rcases List.mem_cons.1 hx with rfl | hx
    ·exact Nat.mod_lt _ (by decide)
    ·exact ih (n/18446744073709551616) (Nat.div_lt_self (by omega) (by decide)) x hx
def Ip (xs:List Nat):Nat→Nat
 | 0=>0
 | k+1=>if nth xs k=0 then Ip xs k else k+1
def tl (xs:List Nat):Nat:=Ip xs xs.length
theorem Aal (xs:List Nat):∀ k,Ip xs k≤k
 | 0=>Nat.le_refl _
 | k + 1 => by
   unfold Ip;split
   ·exact Nat.le_succ_of_le (Aal xs k)
   ·exact Nat.le_refl _
theorem Alr (xs:List Nat):tl xs≤xs.length:=Aal xs _
theorem H9 (x:Nat)(xs:List Nat)(i:Nat):nth (x::xs) (i+1)=nth xs i:=rfl
theorem Bn {xs:List Nat}(h:Small xs)(i:Nat):nth xs i<18446744073709551616:=by
 unfold nth;by_cases hi:i<xs.length
 ·rw [List.getD_eq_getElem?_getD,List.getElem?_eq_getElem hi];exact h _ (List.getElem_mem hi)
 ·rw [List.getD_eq_getElem?_getD,List.getElem?_eq_none (by omega)];decide
theorem Uo (x:Nat)(xs:List Nat):∀ k,Ip (x::xs) (k+1)=if Ip xs k=0 then (if x=0 then 0 else 1) else Ip xs k+1
 | 0=>by simp [Ip,nth]
 | k + 1 => by
   rw [Ip,H9,Uo x xs k,Ip];by_cases h:nth xs k=0
   ·simp [h]
   ·simp [h]
theorem Xw (xs:List Nat)(h:Small xs):xs.take (tl xs)=Aj (val xs):=by
 induction xs with
 | nil=>simp [tl,Ip,val,Ay]
 | cons x xs ih =>
   have hx:x<18446744073709551616:=h x (List.mem_cons_self);have hs:Small xs:=fun y hy=>h y (List.mem_cons_of_mem _ hy)
   have ih':=ih hs;have ht:tl (x::xs)=if tl xs=0 then (if x=0 then 0 else 1) else tl xs+1:=Uo x xs xs.length
   have hv:tl xs=0↔val xs=0:=by
    constructor
    ·intro h0;rw [h0] at ih';have:=Cd (val xs);rw [←ih'] at this;simpa [val] using this.symm
    ·intro h0;rw [h0,Ay] at ih';have h1:=congrArg List.length ih';have h2:=Alr xs;rw [List.length_take,List.length_nil] at h1;omega
   by_cases h0:val xs=0
   ·rw [ht,if_pos (hv.2 h0)];by_cases hx0:x=0
    ·simp [hx0,val,h0,Ay]
    ·rw [if_neg hx0,val,h0];have e1:(x+18446744073709551616*0)%18446744073709551616=x:=by omega
     have e2:(x+18446744073709551616*0)/18446744073709551616=0:=by omega
     rw [Dk _ (by omega),e1,e2,Ay];simp
   ·rw [ht,if_neg (fun h=>h0 (hv.1 h)),List.take_succ_cons,ih',val];rw [Dk (x+18446744073709551616*val xs) (by omega)];have e1:(x+18446744073709551616*val xs)%18446744073709551616=x:=by omega
    have e2:(x+18446744073709551616*val xs)/18446744073709551616=val xs:=by omega
    rw [e1,e2]
def Ux (xs:List Nat):Bool:=xs.length==0||(decide (xs.length≤64)&&nth xs (xs.length-1) != 0)
def E4 (n m:Nat):Int:=if n<m then -1 else if n=m then 0 else 1
def Ld (xs ys:List Nat):Nat→Int
 | 0=>0
 | k+1=>if nth xs k=nth ys k then Ld xs ys k else if nth xs k<nth ys k then -1 else 1
theorem D6 (xs ys:List Nat):val (xs++ys)=val xs+18446744073709551616^xs.length*val ys:=by
 induction xs with
 | nil=>simp [val]
 | cons x xs ih =>
   rw [List.cons_append,val,ih,val,List.length_cons,Nat.pow_succ];generalize 18446744073709551616^xs.length=p;rw [Nat.mul_add,Nat.add_assoc]
   congr 2
   rw [←Nat.mul_assoc,Nat.mul_comm p]
theorem Gi (xs:List Nat)(h:Small xs):val xs<18446744073709551616^xs.length:=by
 induction xs with
 | nil=>simp [val]
 | cons x xs ih =>
   have hx:x<18446744073709551616:=h x (List.mem_cons_self);have:=ih (fun y hy=>h y (List.mem_cons_of_mem _ hy));rw [val,List.length_cons,Nat.pow_succ];generalize 18446744073709551616^xs.length=p at *;omega
theorem Fc {xs:List Nat}(h:Small xs)(k:Nat):Small (xs.take k):=fun x hx=>h x (List.mem_of_mem_take hx)
theorem L3 {xs:List Nat}(h:Small xs)(k:Nat):Small (xs.drop k):=fun x hx=>h x (List.mem_of_mem_drop hx)
theorem U6 (xs:List Nat)(k:Nat)(h:k<xs.length):xs.take (k+1)=xs.take k++[nth xs k]:=by
 rw [List.take_succ_eq_append_getElem h,nth,List.getD_eq_getElem?_getD,List.getElem?_eq_getElem h];rfl
theorem B8 (xs:List Nat)(k:Nat)(h:k<xs.length):val (xs.take (k+1))=val (xs.take k)+18446744073709551616^k*nth xs k:=by
 rw [U6 xs k h,D6,List.length_take,Nat.min_eq_left (by omega)];simp [val]
theorem Sq (xs ys:List Nat)(hx:Small xs)(hy:Small ys):∀ k,k≤xs.length→k≤ys.length→Ld xs ys k=E4 (val (xs.take k)) (val (ys.take k))
 | 0,_,_=>by simp [Ld,E4]
 | k + 1, h1, h2 => by
   have ih:=Sq xs ys hx hy k (by omega) (by omega);rw [Ld,B8 xs k (by omega),B8 ys k (by omega),ih];have a:=Gi _ (Fc hx k);have b:=Gi _ (Fc hy k);rw [List.length_take,Nat.min_eq_left (by omega)] at a b;generalize 18446744073709551616^k=p at *;generalize val (xs.take k)=u at *;generalize val (ys.take k)=v at *;generalize nth xs k=x;generalize nth ys k=y;by_cases e:x=y
   ·subst e;rw [if_pos rfl];unfold E4;simp only [Nat.add_lt_add_iff_right,Nat.add_right_cancel_iff]
   ·rw [if_neg e];by_cases l:x<y
    ·rw [if_pos l];have:p*(x+1)≤p*y:=Nat.mul_le_mul_left _ l;rw [Nat.mul_add] at this;unfold E4;rw [if_pos (by omega)]
    ·rw [if_neg l];have:p*(y+1)≤p*x:=Nat.mul_le_mul_left _ (by omega);rw [Nat.mul_add] at this;unfold E4;rw [if_neg (by omega),if_neg (by omega)]
theorem Cs (n:Nat):n<18446744073709551616^(Aj n).length:=by
 have:=Gi _ (F5 n);rwa [Cd] at this
theorem Kc (n:Nat)(h:n≠0):18446744073709551616^((Aj n).length-1)≤n:=by
 induction n using Nat.strongRecOn with
 | _ n ih =>
   rw [Dk n h,List.length_cons,Nat.add_sub_cancel];by_cases h1:n/18446744073709551616=0
   ·rw [h1,Ay];simp;omega
   ·have:=ih _ (Nat.div_lt_self (by omega) (by decide)) h1;have hl:0<(Aj (n/18446744073709551616)).length:=by rw [Dk _ h1];simp
    obtain ⟨l,hl⟩:∃ l,(Aj (n/18446744073709551616)).length=l+1:=⟨_,(Nat.succ_pred_eq_of_pos hl).symm⟩;rw [hl] at this ⊢;rw [Nat.add_sub_cancel] at this;rw [Nat.pow_succ];generalize 18446744073709551616^l=p at *;omega
theorem J0 (n m:Nat)(h:(Aj n).length<(Aj m).length):n<m:=by
 have a:=Cs n;have hm:m≠0:=by rintro rfl;rw [Ay] at h;simp at h
 have b:=Kc m hm;have c:18446744073709551616^(Aj n).length≤18446744073709551616^((Aj m).length-1):=Nat.pow_le_pow_right (by decide) (by omega);omega
theorem Ws (n m:Nat)(h:(Aj n).length=(Aj m).length):Ld (Aj n) (Aj m) (Aj n).length=E4 n m:=by
 rw [Sq _ _ (F5 n) (F5 m) _ (Nat.le_refl _) (by omega),List.take_of_length_le (Nat.le_refl _),List.take_of_length_le (by omega),Cd,Cd]
theorem Lp (n:Nat)(h:n≠0):nth (Aj n) ((Aj n).length-1)≠0:=by
 induction n using Nat.strongRecOn with
 | _ n ih =>
   rw [Dk n h,List.length_cons,Nat.add_sub_cancel];by_cases h1:n/18446744073709551616=0
   ·rw [h1,Ay];simp [nth];omega
   ·have hl:0<(Aj (n/18446744073709551616)).length:=by rw [Dk _ h1];simp
    have:=ih _ (Nat.div_lt_self (by omega) (by decide)) h1;obtain ⟨l,hl⟩:∃ l,(Aj (n/18446744073709551616)).length=l+1:=⟨_,(Nat.succ_pred_eq_of_pos hl).symm⟩;rw [hl] at this ⊢;rw [H9];exact this
theorem Bj (n:Nat)(h:n≠0):0<(Aj n).length:=by rw [Dk n h];simp
def bl (n:Nat):Nat:=if n=0 then 0 else Nat.log2 n+1
theorem Gr:bl 0=0:=rfl
theorem Bd (n:Nat):n<2^bl n:=by
 unfold bl;split
 ·omega
 ·exact Nat.lt_log2_self
theorem Dl (n:Nat)(h:n≠0):2^(bl n-1)≤n:=by
 unfold bl;rw [if_neg h,Nat.add_sub_cancel];exact Nat.log2_self_le h
theorem Co (n:Nat)(h:n≠0):0<bl n:=by unfold bl;rw [if_neg h];omega
theorem Ej (n k:Nat)(h:n<2^k):bl n≤k:=by
 by_cases h0:n=0
 ·subst h0;exact Nat.zero_le _
 ·have:=Dl n h0;have p:=Co n h0;by_cases hk:bl n≤k
  ·exact hk
  ·have:2^k≤2^(bl n-1):=Nat.pow_le_pow_right (by decide) (by omega);omega
theorem Agl (n k:Nat)(h:2^k≤n):k<bl n:=by
 by_cases hk:k<bl n
 ·exact hk
 ·have:2^bl n≤2^k:=Nat.pow_le_pow_right (by decide) (by omega);have:=Bd n;omega
theorem Afg (n k:Nat)(h1:2^k≤n)(h2:n<2^(k+1)):bl n=k+1:=by
 have:=Ej n _ h2;have:=Agl n _ h1;omega
theorem Pf (n:Nat)(h:n<18446744073709551616):bl n≤64:=Ej n 64 h
theorem Gq {n m:Nat}(h:n≤m):bl n≤bl m:=Ej n _ (Nat.lt_of_le_of_lt h (Bd m))
theorem Hq (n k:Nat)(h:n≠0):bl (n*2^k)=bl n+k:=by
 obtain ⟨l,hl⟩:∃ l,bl n=l+1:=⟨bl n-1,by have:=Co n h;omega⟩;have a:=Dl n h;have b:=Bd n;rw [hl] at a b ⊢;rw [Nat.add_sub_cancel] at a;have:=Afg (n*2^k) (l+k) (by rw [Nat.pow_add];exact Nat.mul_le_mul_right _ a) (by rw [show l+k+1=(l+1)+k by omega,Nat.pow_add];exact Nat.mul_lt_mul_of_pos_right b (Nat.pow_pos (by decide)));omega
theorem Aau    (n : Nat) (h : n ≠ 0) : bl n = 64 * ((Aj    n).length - 1) + bl (nth (Aj    n) ((Aj    n).length - 1)) := by
 induction n using Nat.strongRecOn with
 | _ n ih =>
   rw [Dk n h,List.length_cons,Nat.add_sub_cancel];by_cases h1:n/18446744073709551616=0
   ·rw [h1,Ay];have:n%18446744073709551616=n:=by omega
    simp [nth,this]
   ·have hl:0<(Aj (n/18446744073709551616)).length:=by rw [Dk _ h1];simp
    have IH:=ih _ (Nat.div_lt_self (by omega) (by decide)) h1;obtain ⟨l,hl⟩:∃ l,(Aj (n/18446744073709551616)).length=l+1:=⟨_,(Nat.succ_pred_eq_of_pos hl).symm⟩;rw [hl,Nat.add_sub_cancel] at IH;rw [hl,H9];have key:bl n=bl (n/18446744073709551616)+64:=by
     obtain ⟨q,hq⟩:∃ q,bl (n/18446744073709551616)=q+1:=⟨bl (n/18446744073709551616)-1,by have:=Co _ h1;omega⟩;have a:=Dl _ h1;have b:=Bd (n/18446744073709551616);rw [hq] at a b ⊢;rw [Nat.add_sub_cancel] at a
     have := Afg   n (q + 64) (by rw [Nat.pow_add]; have : (2:Nat) ^ 64 = 18446744073709551616 := by decide
                                  rw [this]; omega) (by rw [show q + 64 + 1 = (q + 1) + 64 by omega, Nat.pow_add]; have : (2:Nat) ^ 64 = 18446744073709551616 := by decide
                                                        rw [this];omega)
     omega
    omega
def tzF:Nat→Nat→Nat
 | 0,_=>0
 | f+1,n=>if n%2=1 then 0 else tzF f (n/2)+1
def tz (n:Nat):Nat:=tzF (bl n) n
theorem Up:∀ (f n:Nat),n≠0→n<2^f→2^tzF f n ∣ n∧n/2^tzF f n%2=1
 | 0,n,h,hf=>by simp at hf;omega
 | f + 1, n, h, hf => by
   rw [tzF];by_cases e:n%2=1
   ·rw [if_pos e];simp [e]
   ·rw [if_neg e];have hh:n/2≠0:=by omega
    obtain ⟨a,b⟩:=Up f (n/2) hh (by rw [Nat.pow_succ] at hf;omega);obtain ⟨q,hq⟩:=a;refine ⟨⟨q,by rw [Nat.pow_succ,Nat.mul_right_comm,←hq];omega⟩,?_⟩;rw [Nat.pow_succ,Nat.mul_comm,←Nat.div_div_eq_div_mul];exact b
theorem Xz (n:Nat)(h:n≠0):2^tz n ∣ n:=(Up _ n h (Bd n)).1
theorem Ur (n:Nat)(h:n≠0):n/2^tz n%2=1:=(Up _ n h (Bd n)).2
theorem Uq (n:Nat)(h:n≠0):n/2^tz n*2^tz n=n:=Nat.div_mul_cancel (Xz n h)
theorem Jp {a b x y:Nat}(hx:x%2=1)(hy:y%2=1)(h:x*2^a=y*2^b):a=b∧x=y:=by
 have key:∀ {a b x y:Nat},x%2=1→x*2^a=y*2^b→b≤a:=by
  intro a b x y hx h;by_cases hab:b≤a
  ·exact hab
  ·obtain ⟨d,rfl⟩:∃ d,b=a+(d+1):=⟨b-a-1,by omega⟩;rw [Nat.pow_add,←Nat.mul_assoc,Nat.mul_right_comm] at h;have:=Nat.eq_of_mul_eq_mul_right (Nat.pow_pos (by decide)) h;rw [Nat.pow_succ,←Nat.mul_assoc] at this;omega
 have e:a=b:=Nat.le_antisymm (key hy h.symm) (key hx h);subst e;exact ⟨rfl,Nat.eq_of_mul_eq_mul_right (Nat.pow_pos (by decide)) h⟩
theorem Hx (n k q:Nat)(hq:q%2=1)(h:n=q*2^k):tz n=k:=by
 have hn:n≠0:=by
  rintro rfl;have:0<q*2^k:=Nat.mul_pos (by omega) (Nat.pow_pos (by decide));omega
 exact (Jp (Ur n hn) hq ((Uq n hn).trans h)).1
def tzL:List Nat→Nat
 | []=>0
 | x::xs=>if x=0 then 64+tzL xs else tz x
theorem Aez (n:Nat)(h:n≠0):tzL (Aj n)=tz n:=by
 induction n using Nat.strongRecOn with
 | _ n ih =>
   rw [Dk n h,tzL];have p:(2:Nat)^64=18446744073709551616:=by decide
   by_cases hx:n%18446744073709551616=0
   ·rw [if_pos hx];have h1:n/18446744073709551616≠0:=by omega
    rw [ih _ (Nat.div_lt_self (by omega) (by decide)) h1];have a:=Ur _ h1;have b:=Uq _ h1;refine (Hx n _ _ a ?_).symm;rw [Nat.add_comm,Nat.pow_add,←Nat.mul_assoc,b,p];omega
   ·rw [if_neg hx];have a:=Ur _ hx;have b:=Uq _ hx;have c:tz (n%18446744073709551616)<64:=by
     by_cases hc:tz (n%18446744073709551616)<64
     ·exact hc
     ·have d:=Xz _ hx;have:=Nat.le_of_dvd (by omega) d;have e:2^64≤2^tz (n%18446744073709551616):=Nat.pow_le_pow_right (by decide) (by omega);omega
    obtain ⟨d,hd⟩:∃ d,64=tz (n%18446744073709551616)+(d+1):=⟨64-tz (n%18446744073709551616)-1,by omega⟩;refine (Hx n _ (n%18446744073709551616/2^tz (n%18446744073709551616)+2^(d+1)*(n/18446744073709551616)) ?_ ?_).symm
    ·rw [Nat.pow_succ,Nat.mul_comm (2^d) 2,Nat.mul_assoc];omega
    ·rw [Nat.add_mul,b,Nat.mul_right_comm,←Nat.pow_add,Nat.add_comm (d+1),←hd,p];omega
theorem Yr (xs:List Nat)(k:Nat)(h:k<xs.length):xs.drop k=nth xs k::xs.drop (k+1):=by
 rw [List.drop_eq_getElem_cons h,nth,List.getD_eq_getElem?_getD,List.getElem?_eq_getElem h];rfl
theorem Aie (xs:List Nat)(k:Nat)(h:k<xs.length):tzL (xs.drop k)=if nth xs k=0 then 64+tzL (xs.drop (k+1)) else tz (nth xs k):=by
 rw [Yr xs k h,tzL]
theorem M9 (n k:Nat)(h:n≠0)(hk:n<2^k):tz n<k:=by
 have:=Nat.le_of_dvd (Nat.pos_of_ne_zero h) (Xz n h);exact (Nat.pow_lt_pow_iff_right (by decide)).1 (Nat.lt_of_le_of_lt this hk)
end Go.Proofs.YtabjjdicffcolaaGreatDoor
namespace Go.Proofs.YtabjjdicffcolaaGreatDoor
theorem Je (xs:List Nat)(i j y:Nat)(hi:i<xs.length):nth (xs.set i y) j=if i=j then y else nth xs j:=by
 unfold nth;rw [List.getD_eq_getElem?_getD,List.getD_eq_getElem?_getD,List.getElem?_set];by_cases e:i=j
 ·subst e;simp [hi]
 ·simp [e]
theorem Qo (xs:List Nat)(i:Nat)(h:xs.length≤i):nth xs i=0:=by
 unfold nth;rw [List.getD_eq_getElem?_getD,List.getElem?_eq_none h];rfl
theorem Gt (xs:List Nat)(i y:Nat)(hi:i<xs.length):val (xs.set i y)+18446744073709551616^i*nth xs i=val xs+18446744073709551616^i*y:=by
 induction xs generalizing i with
 | nil=>simp at hi
 | cons x xs ih =>
   cases i with
   | zero=>simp [val,nth];omega
   | succ i =>
     have:=ih i (by simpa using hi);rw [List.set_cons_succ,val,val,H9,Nat.pow_succ];generalize 18446744073709551616^i=p at *;generalize val (xs.set i y)=a at *;generalize val xs=b at *;generalize nth xs i=c at *;have e1:p*18446744073709551616*c=18446744073709551616*(p*c):=by rw [Nat.mul_right_comm,Nat.mul_comm]
     have e2:p*18446744073709551616*y=18446744073709551616*(p*y):=by rw [Nat.mul_right_comm,Nat.mul_comm]
     rw [e1,e2];omega
theorem Dp {xs:List Nat}(h:Small xs)(i y:Nat)(hy:y<18446744073709551616):Small (xs.set i y):=by
 intro x hx;rcases List.mem_or_eq_of_mem_set hx with h' | rfl
 ·exact h x h'
 ·exact hy
theorem Ea (n:Nat):Small (List.replicate n 0):=by
 intro x hx;rw [(List.mem_replicate.1 hx).2];decide
theorem Gp (n:Nat):val (List.replicate n 0)=0:=by
 induction n with
 | zero=>rfl
 | succ n ih=>rw [List.replicate_succ,val,ih]
theorem Fi (n i:Nat):nth (List.replicate n 0) i=0:=by
 unfold nth;rw [List.getD_eq_getElem?_getD,List.getElem?_replicate];split<;>rfl
theorem Ahb {a b:Nat}(ha:a<18446744073709551616)(hb:b<18446744073709551616):a ||| b<18446744073709551616:=Nat.or_lt_two_pow (n:=64) ha hb
def Km (out:List Nat) (q r i x:Nat):List Nat :=
 (out.set (q+i) (nth out (q+i) ||| (x*2^r%18446744073709551616))).set (q+i+1) (nth out (q+i+1) ||| (x/2/2^(63-r)))
def Fz (xs:List Nat) (q r n:Nat):Nat→List Nat
 | 0=>List.replicate n 0
 | k+1=>Km (Fz xs q r n k) q r k (nth xs k)
theorem Lo (xs:List Nat)(q r n:Nat):∀ k,(Fz xs q r n k).length=n
 | 0=>by simp [Fz]
 | k+1=>by simp [Fz,Km,Lo xs q r n k]
theorem Ra (xs:List Nat)(h:Small xs)(q r n:Nat):∀ k,Small (Fz xs q r n k)
 | 0=>Ea n
 | k + 1 => by
   have ih:=Ra xs h q r n k;unfold Fz Km;refine Dp (Dp ih _ _ (Ahb (Bn ih _) (Nat.mod_lt _ (by decide)))) _ _ (Ahb (Bn ih _) ?_);refine Nat.lt_of_le_of_lt (Nat.div_le_self _ _) (Nat.lt_of_le_of_lt (Nat.div_le_self _ _) (Bn h _))
theorem Z9 (x r:Nat)(hr:r<64):x/2/2^(63-r)=x*2^r/18446744073709551616:=by
 rw [Nat.div_div_eq_div_mul];have e:(18446744073709551616:Nat)=2*2^(63-r)*2^r:=by
  rw [Nat.mul_assoc,←Nat.pow_add,show 63-r+r=63 by omega]
 rw [e,Nat.mul_div_mul_right _ _ (Nat.pow_pos (by decide))]
theorem Aha (c x r:Nat)(hr:r<64)(hc:c<2^r):c ||| (x*2^r%18446744073709551616)=c+x*2^r%18446744073709551616:=by
 have e:(18446744073709551616:Nat)=2^(64-r)*2^r:=by
  rw [←Nat.pow_add,show 64-r+r=64 by omega]
 rw [e,Nat.mul_mod_mul_right,Nat.mul_comm,Nat.or_comm,←Nat.two_pow_add_eq_or_of_lt hc,Nat.add_comm]
theorem Vs (xs:List Nat)(h:Small xs)(q r n:Nat)(hr:r<64)(hn:n=q+xs.length+1):∀ k,k≤xs.length →
 val (Fz xs q r n k)=val (xs.take k)*2^r*18446744073709551616^q∧nth (Fz xs q r n k) (q+k)<2^r∧∀ j,q+k<j→nth (Fz xs q r n k) j=0
 | 0, _ => by
   refine ⟨by simp [Fz,Gp,val],?_,fun j _=>?_⟩
   ·rw [Fz,Fi];exact Nat.pow_pos (by decide)
   ·rw [Fz,Fi]
 | k + 1, hk => by
   obtain ⟨i1,i2,i3⟩:=Vs xs h q r n hr hn k (by omega);have hl:=Lo xs q r n k;have hx:=Bn h k;rw [Fz];generalize Fz xs q r n k=out at *;unfold Km;have h0:=i3 (q+k+1) (by omega);rw [h0,Nat.zero_or,Z9 _ r hr,Aha _ _ r hr i2];have hx2:nth xs k*2^r/18446744073709551616<2^r:=by
    rw [Nat.div_lt_iff_lt_mul (by decide),Nat.mul_comm (2^r)];exact Nat.mul_lt_mul_of_pos_right hx (Nat.pow_pos (by decide))
   generalize hX:nth xs k*2^r=X at *;have l1:q+k<out.length:=by omega
   have l2:q+k+1<(out.set (q+k) (nth out (q+k)+X%18446744073709551616)).length:=by rw [List.length_set];omega
   refine ⟨?_,?_,fun j hj=>?_⟩
   ·have v1:=Gt out (q+k) (nth out (q+k)+X%18446744073709551616) l1;have v2:=Gt _ (q+k+1) (X/18446744073709551616) l2;rw [Je _ _ _ _ l1,if_neg (by omega),h0] at v2;rw [B8 xs k (by omega),Nat.add_mul,Nat.add_mul,←i1,Nat.mul_assoc (18446744073709551616^k),hX];rw [Nat.pow_succ] at v2;have e3:18446744073709551616^k*X*18446744073709551616^q=18446744073709551616^(q+k)*X:=by rw [Nat.mul_right_comm,←Nat.pow_add,Nat.add_comm k q]
    rw [e3];have e4:18446744073709551616^(q+k)*X=18446744073709551616^(q+k)*18446744073709551616*(X/18446744073709551616)+18446744073709551616^(q+k)*(X%18446744073709551616):=by
     rw [Nat.mul_assoc,←Nat.mul_add,Nat.div_add_mod]
    rw [e4];rw [Nat.mul_add] at v1;generalize 18446744073709551616^(q+k)*18446744073709551616*(X/18446744073709551616)=a at *;generalize 18446744073709551616^(q+k)*(X%18446744073709551616)=b at *;generalize 18446744073709551616^(q+k)*nth out (q+k)=c at *;omega
   ·rw [←Nat.add_assoc,Je _ _ _ _ l2,if_pos rfl];exact hx2
   ·rw [Je _ _ _ _ l2,if_neg (by omega),Je _ _ _ _ l1,if_neg (by omega)];exact i3 j (by omega)
theorem Kf (n:Nat):2^n=2^(n%64)*18446744073709551616^(n/64):=by
 have e:(18446744073709551616:Nat)=2^64:=by decide
 rw [e,←Nat.pow_mul,←Nat.pow_add,Nat.mod_add_div]
theorem Adz (xs:List Nat)(h:Small xs)(n:Nat):val (Fz xs (n/64) (n%64) (n/64+xs.length+1) xs.length)=val xs*2^n:=by
 have:=(Vs xs h (n/64) (n%64) _ (Nat.mod_lt _ (by decide)) rfl xs.length (Nat.le_refl _)).1;rw [this,List.take_of_length_le (Nat.le_refl _),Nat.mul_assoc,←Kf]
def Dr (out ys:List Nat):Nat→List Nat × Nat
 | 0=>(out,0)
 | k + 1 => let s := Dr   out ys k
   (s.1.set k ((nth s.1 k+nth ys k+s.2)%18446744073709551616),(nth s.1 k+nth ys k+s.2)/18446744073709551616)
theorem Hp (out ys:List Nat)(k:Nat):Dr out ys (k+1)=((Dr out ys k).1.set k ((nth (Dr out ys k).1 k+nth ys k+(Dr out ys k).2)%18446744073709551616),(nth (Dr out ys k).1 k+nth ys k+(Dr out ys k).2)/18446744073709551616):=rfl
theorem Fr (out ys:List Nat):∀ k,(Dr out ys k).1.length=out.length
 | 0=>rfl
 | k+1=>by rw [Hp,List.length_set,Fr out ys k]
theorem Gv (out ys:List Nat)(h:Small out):∀ k,Small (Dr out ys k).1
 | 0=>h
 | k+1=>by rw [Hp];exact Dp (Gv out ys h k) _ _ (Nat.mod_lt _ (by decide))
theorem La (out ys:List Nat)(h:Small out)(h':Small ys):∀ k,(Dr out ys k).2≤1
 | 0=>by simp [Dr]
 | k + 1 => by
   have a:=La out ys h h' k;have b:=Bn (Gv out ys h k) k;have c:=Bn h' k;rw [Hp]
   show (nth (Dr out ys k).1 k+nth ys k+(Dr out ys k).2)/18446744073709551616≤1
   omega
theorem Hl (xs:List Nat)(k:Nat):val (xs.take (k+1))=val (xs.take k)+18446744073709551616^k*nth xs k:=by
 by_cases h:k<xs.length
 ·exact B8 xs k h
 ·rw [List.take_of_length_le (by omega),List.take_of_length_le (by omega),Qo xs k (by omega)];rfl
theorem Sm (out ys:List Nat):∀ k,k≤out.length→val (Dr out ys k).1+18446744073709551616^k*(Dr out ys k).2=val out+val (ys.take k)
 | 0,_=>by simp [Dr,val]
 | k + 1, hk => by
   have ih:=Sm out ys k (by omega);have hl:=Fr out ys k;rw [Hp,Hl];generalize Dr out ys k=s at *;obtain ⟨o,c⟩:=s;simp only at *;generalize hT:nth o k+nth ys k+c=T;have v:=Gt o k (T%18446744073709551616) (by omega);have e:18446744073709551616^(k+1)*(T/18446744073709551616)+18446744073709551616^k*(T%18446744073709551616)=18446744073709551616^k*T:=by
    rw [Nat.pow_succ,Nat.mul_assoc,←Nat.mul_add,Nat.div_add_mod]
   have e2:18446744073709551616^k*T=18446744073709551616^k*nth o k+18446744073709551616^k*nth ys k+18446744073709551616^k*c:=by
    rw [←hT,Nat.mul_add,Nat.mul_add]
   omega
theorem Va (out ys:List Nat)(h:Small out)(k:Nat)(hy:ys.length≤k)(hc:(Dr out ys k).2=0):∀ d,k+d≤out.length→Dr out ys (k+d)=((Dr out ys k).1,0)
 | 0,_=>by rw [Nat.add_zero,←hc]
 | d + 1, hd => by
   have ih:=Va out ys h k hy hc d (by omega);have hlt:=Bn (Gv out ys h k) (k+d);have hl:=Fr out ys k;rw [←Nat.add_assoc,Hp,ih,Qo ys (k+d) (by omega)];simp only [Nat.add_zero];rw [Nat.mod_eq_of_lt hlt,Nat.div_eq_of_lt hlt]
   congr 1
   apply List.ext_getElem
   ·simp
   ·intro i h1 h2;rw [List.getElem_set];split
    ·rename_i e;subst e;rw [nth,List.getD_eq_getElem?_getD,List.getElem?_eq_getElem h2];rfl
    ·rfl
theorem X8 (xs ys:List Nat)(h:Small xs)(h':Small ys)(hle:ys.length≤xs.length):val (Dr (xs++[0]) ys (xs.length+1)).1=val xs+val ys:=by
 have hs:Small (xs++[0]):=by
  intro x hx;rcases List.mem_append.1 hx with hx | hx
  ·exact h x hx
  ·have:x=0:=by simpa using hx
   omega
 have a:=Sm (xs++[0]) ys (xs.length+1) (by simp);rw [List.take_of_length_le (by omega),D6,Nat.pow_succ] at a;have b:=Gi _ h;have c:=Gi _ h';have d:18446744073709551616^ys.length≤18446744073709551616^xs.length:=Nat.pow_le_pow_right (by decide) hle;have e:val [0]=0:=by simp [val]
 rw [e,Nat.mul_zero,Nat.add_zero] at a;generalize (Dr (xs++[0]) ys (xs.length+1)).2=q at *;generalize (Dr (xs++[0]) ys (xs.length+1)).1=o at *;generalize 18446744073709551616^xs.length=p at *;generalize 18446744073709551616^ys.length=p' at *;have hq:q=0:=by
  by_cases hq:q=0
  ·exact hq
  ·have:p*18446744073709551616*1≤p*18446744073709551616*q:=Nat.mul_le_mul_left _ (by omega);omega
 rw [hq,Nat.mul_zero,Nat.add_zero] at a;exact a
end Go.Proofs.YtabjjdicffcolaaGreatDoor
namespace Go.Proofs.YtabjjdicffcolaaGreatDoor
def Jw (out ys:List Nat):Nat→List Nat × Nat
 | 0=>(out,0)
 | k + 1 => let s := Jw   out ys k
   (s.1.set k ((nth s.1 k+18446744073709551616-nth ys k-s.2)%18446744073709551616),if nth s.1 k<nth ys k+s.2 then 1 else 0)
theorem Kv (out ys:List Nat)(k:Nat):Jw out ys (k+1)=((Jw out ys k).1.set k ((nth (Jw out ys k).1 k+18446744073709551616-nth ys k-(Jw out ys k).2)%18446744073709551616),if nth (Jw out ys k).1 k<nth ys k+(Jw out ys k).2 then 1 else 0):=rfl
theorem J5 (out ys:List Nat):∀ k,(Jw out ys k).1.length=out.length
 | 0=>rfl
 | k+1=>by rw [Kv,List.length_set,J5 out ys k]
theorem L6 (out ys:List Nat)(h:Small out):∀ k,Small (Jw out ys k).1
 | 0=>h
 | k+1=>by rw [Kv];exact Dp (L6 out ys h k) _ _ (Nat.mod_lt _ (by decide))
theorem M8 (out ys:List Nat):∀ k,(Jw out ys k).2≤1
 | 0=>by simp [Jw]
 | k + 1 => by
   rw [Kv]
   show (if _ then 1 else 0)≤1
   split<;>omega
theorem Aag (out ys:List Nat)(h:Small out)(h':Small ys):∀ k,k≤out.length→val (Jw out ys k).1+val (ys.take k)=val out+18446744073709551616^k*(Jw out ys k).2
 | 0,_=>by simp [Jw,val]
 | k + 1, hk => by
   have ih:=Aag out ys h h' k (by omega);have hl:=J5 out ys k;have hx:=Bn (L6 out ys h k) k;have hy:=Bn h' k;have hb:=M8 out ys k;rw [Kv,Hl,Nat.pow_succ];generalize Jw out ys k=s at *;obtain ⟨o,c⟩:=s;simp only at *;generalize nth ys k=y at *;have v:=Gt o k ((nth o k+18446744073709551616-y-c)%18446744073709551616) (by omega);generalize nth o k=x at *;generalize 18446744073709551616^k=p at *;by_cases hlt:x<y+c
   ·rw [if_pos hlt,Nat.mod_eq_of_lt (by omega)] at *;have e:p*(x+18446744073709551616-y-c)+p*y+p*c=p*x+p*18446744073709551616:=by
     rw [←Nat.mul_add,←Nat.mul_add,←Nat.mul_add];congr 1;omega
    rw [Nat.mul_one];omega
   ·have e0:(x+18446744073709551616-y-c)%18446744073709551616=x-y-c:=by omega
    rw [if_neg hlt];rw [e0] at v ⊢;have e:p*(x-y-c)+p*y+p*c=p*x:=by
     rw [←Nat.mul_add,←Nat.mul_add];congr 1;omega
    rw [Nat.mul_zero,Nat.add_zero];omega
theorem Ah4 (xs ys:List Nat)(h:Small xs)(h':Small ys)(hle:ys.length≤xs.length)(hv:val ys≤val xs):val (Jw xs ys xs.length).1=val xs-val ys:=by
 have a:=Aag xs ys h h' xs.length (Nat.le_refl _);rw [List.take_of_length_le hle] at a;have b:=Gi _ (L6 xs ys h xs.length);rw [J5] at b;have c:=M8 xs ys xs.length;generalize (Jw xs ys xs.length).2=q at *;have hq:q=0:=by
  by_cases hq:q=0
  ·exact hq
  ·obtain rfl:q=1:=by omega
   rw [Nat.mul_one] at a;omega
 rw [hq,Nat.mul_zero,Nat.add_zero] at a;omega
theorem Agu (p c z:Nat) :
 (z+(p%18446744073709551616+c)%18446744073709551616)%18446744073709551616=(p+c+z)%18446744073709551616 ∧
 p/18446744073709551616+(p%18446744073709551616+c)/18446744073709551616+(z+(p%18446744073709551616+c)%18446744073709551616)/18446744073709551616=(p+c+z)/18446744073709551616:=by
 omega
theorem Nr (x y c z:Nat)(hx:x<18446744073709551616)(hy:y<18446744073709551616)(hc:c<18446744073709551616)(hz:z<18446744073709551616):(x*y+c+z)/18446744073709551616<18446744073709551616:=by
 have:x*y≤18446744073709551615*18446744073709551615:=Nat.mul_le_mul (by omega) (by omega);omega
def Iy (out:List Nat) (i x:Nat) (ys:List Nat):Nat→List Nat × Nat
 | 0=>(out,0)
 | j + 1 => let s := Iy   out i x ys j
   (s.1.set (i+j) ((x*nth ys j+s.2+nth s.1 (i+j))%18446744073709551616),(x*nth ys j+s.2+nth s.1 (i+j))/18446744073709551616)
theorem Ji (out:List Nat)(i x:Nat)(ys:List Nat)(j:Nat):Iy out i x ys (j+1)=((Iy out i x ys j).1.set (i+j) ((x*nth ys j+(Iy out i x ys j).2+nth (Iy out i x ys j).1 (i+j))%18446744073709551616),(x*nth ys j+(Iy out i x ys j).2+nth (Iy out i x ys j).1 (i+j))/18446744073709551616):=rfl
theorem G6 (out:List Nat)(i x:Nat)(ys:List Nat):∀ j,(Iy out i x ys j).1.length=out.length
 | 0=>rfl
 | j+1=>by rw [Ji,List.length_set,G6 out i x ys j]
theorem Lx (out:List Nat)(i x:Nat)(ys:List Nat)(h:Small out):∀ j,Small (Iy out i x ys j).1
 | 0=>h
 | j+1=>by rw [Ji];exact Dp (Lx out i x ys h j) _ _ (Nat.mod_lt _ (by decide))
theorem O6 (out:List Nat)(i x:Nat)(ys:List Nat)(h:Small out)(h':Small ys)(hx:x<18446744073709551616):∀ j,(Iy out i x ys j).2<18446744073709551616
 | 0=>by simp [Iy]
 | j + 1 => by
   rw [Ji];exact Nr _ _ _ _ hx (Bn h' j) (O6 out i x ys h h' hx j) (Bn (Lx out i x ys h j) _)
theorem Zw (out:List Nat)(i x:Nat)(ys:List Nat):∀ j k,i+j≤k→i+j≤out.length→nth (Iy out i x ys j).1 k=nth out k
 | 0,_,_,_=>rfl
 | j + 1, k, h, hk => by
   rw [Ji]
   show nth ((Iy out i x ys j).1.set (i+j) _) k=_
   rw [Je _ _ _ _ (by rw [G6];omega),if_neg (by omega)];exact Zw out i x ys j k (by omega) (by omega)
theorem Zx (out:List Nat)(i x:Nat)(ys:List Nat):∀ j,i+j≤out.length →
 val (Iy out i x ys j).1+18446744073709551616^(i+j)*(Iy out i x ys j).2=val out+18446744073709551616^i*(x*val (ys.take j))
 | 0,_=>by simp [Iy,val]
 | j + 1, hj => by
   have ih:=Zx out i x ys j (by omega);have hl:=G6 out i x ys j;rw [Ji,Hl,←Nat.add_assoc,Nat.pow_succ,Nat.mul_add,Nat.mul_add,←Nat.add_assoc,←ih];generalize Iy out i x ys j=s at *;obtain ⟨o,c⟩:=s;simp only at *;generalize hT:x*nth ys j+c+nth o (i+j)=T;have v:=Gt o (i+j) (T%18446744073709551616) (by omega);have e1:18446744073709551616^i*(x*(18446744073709551616^j*nth ys j))=18446744073709551616^(i+j)*(x*nth ys j):=by
    rw [Nat.pow_add,←Nat.mul_assoc x,Nat.mul_comm x,Nat.mul_assoc,Nat.mul_assoc]
   rw [e1];generalize 18446744073709551616^(i+j)=p at *;have e:p*18446744073709551616*(T/18446744073709551616)+p*(T%18446744073709551616)=p*T:=by
    rw [Nat.mul_assoc,←Nat.mul_add,Nat.div_add_mod]
   have e2:p*T=p*(x*nth ys j)+p*c+p*nth o (i+j):=by rw [←hT,Nat.mul_add,Nat.mul_add]
   omega
def Ms (xs ys:List Nat) (n:Nat):Nat→List Nat
 | 0=>List.replicate n 0
 | i + 1 => let s := Iy   (Ms   xs ys n i) i (nth xs i) ys ys.length
   s.1.set (i+ys.length) s.2
theorem Np (xs ys:List Nat)(n i:Nat):Ms xs ys n (i+1)=(Iy (Ms xs ys n i) i (nth xs i) ys ys.length).1.set (i+ys.length) (Iy (Ms xs ys n i) i (nth xs i) ys ys.length).2:=rfl
theorem Mt (xs ys:List Nat)(n:Nat):∀ i,(Ms xs ys n i).length=n
 | 0=>by simp [Ms]
 | i+1=>by rw [Np,List.length_set,G6,Mt xs ys n i]
theorem Tm (xs ys:List Nat)(n:Nat)(h:Small xs)(h':Small ys):∀ i,Small (Ms xs ys n i)
 | 0=>Ea n
 | i + 1 => by
   have ih:=Tm xs ys n h h' i;rw [Np];exact Dp (Lx _ _ _ _ ih _) _ _ (O6 _ _ _ _ ih h' (Bn h i) _)
theorem Y8 (xs ys:List Nat)(h:Small xs)(h':Small ys):∀ i,i≤xs.length →
 val (Ms xs ys (xs.length+ys.length) i)=val (xs.take i)*val ys∧∀ k,i+ys.length≤k→nth (Ms xs ys (xs.length+ys.length) i) k=0
 | 0, _ => by
   refine ⟨by simp [Ms,Gp,val],fun k _=>?_⟩;rw [Ms,Fi]
 | i + 1, hi => by
   obtain ⟨i1,i2⟩:=Y8 xs ys h h' i (by omega);have hl:=Mt xs ys (xs.length+ys.length) i;rw [Np];generalize Ms xs ys (xs.length+ys.length) i=out at *;have v:=Zx out i (nth xs i) ys ys.length (by omega);have hn:=Zw out i (nth xs i) ys ys.length;have hrl:=G6 out i (nth xs i) ys ys.length;generalize Iy out i (nth xs i) ys ys.length=s at *;obtain ⟨o,c⟩:=s;simp only at *;have v2:=Gt o (i+ys.length) c (by omega);rw [hn _ (Nat.le_refl _) (by omega),i2 _ (Nat.le_refl _),Nat.mul_zero,Nat.add_zero] at v2;refine ⟨?_,fun k hk=>?_⟩
   ·rw [List.take_of_length_le (Nat.le_refl _)] at v;rw [B8 xs i (by omega),Nat.add_mul,←i1,Nat.mul_assoc,←v];exact v2
   ·rw [Je _ _ _ _ (by omega),if_neg (by omega),hn k (by omega) (by omega),i2 k (by omega)]
theorem Ags (xs ys:List Nat)(h:Small xs)(h':Small ys):val (Ms xs ys (xs.length+ys.length) xs.length)=val xs*val ys:=by
 rw [(Y8 xs ys h h' xs.length (Nat.le_refl _)).1,List.take_of_length_le (Nat.le_refl _)]
def Jt (xs:List Nat) (r i:Nat):Nat:=if i+1<xs.length then (nth xs i/2^r) ||| (nth xs (i+1)*2%18446744073709551616*2^(63-r)%18446744073709551616) else nth xs i/2^r
def D8 (xs:List Nat) (r:Nat):Nat→List Nat
 | 0=>List.replicate xs.length 0
 | k+1=>(D8 xs r k).set k (Jt xs r k)
theorem Ib (xs:List Nat)(r:Nat):∀ k,(D8 xs r k).length=xs.length
 | 0=>by simp [D8]
 | k+1=>by rw [D8,List.length_set,Ib xs r k]
theorem Aee (xs:List Nat)(h:Small xs)(r i:Nat)(hr:r<64):Jt xs r i=nth xs i/2^r+nth xs (i+1)*2^(64-r)%18446744073709551616:=by
 have e64:(18446744073709551616:Nat)=2^(64-r)*2^r:=by
  rw [←Nat.pow_add,show 64-r+r=64 by omega]
 unfold Jt;by_cases hi:i+1<xs.length
 ·rw [if_pos hi];have e1:nth xs (i+1)*2%18446744073709551616*2^(63-r)%18446744073709551616=nth xs (i+1)*2^(64-r)%18446744073709551616:=by
   rw [Nat.mod_mul_mod,Nat.mul_assoc,show (64-r)=(63-r)+1 by omega,Nat.pow_succ,Nat.mul_comm 2]
  have e2:nth xs i/2^r<2^(64-r):=by
   rw [Nat.div_lt_iff_lt_mul (Nat.pow_pos (by decide)),←e64];exact Bn h i
  rw [e1];have e3:nth xs (i+1)*2^(64-r)%18446744073709551616=2^(64-r)*(nth xs (i+1)%2^r):=by
   rw [e64,Nat.mul_comm (nth xs (i+1)),Nat.mul_mod_mul_left]
  rw [e3,Nat.or_comm,←Nat.two_pow_add_eq_or_of_lt e2,Nat.add_comm]
 ·rw [if_neg hi,Qo xs (i+1) (by omega),Nat.zero_mul,Nat.zero_mod,Nat.add_zero]
theorem Aef (xs:List Nat)(h:Small xs)(r i:Nat)(_hr:r<64):Jt xs r i<18446744073709551616:=by
 unfold Jt;have a:=Bn h i;have b:nth xs i/2^r≤nth xs i:=Nat.div_le_self _ _;split
 ·exact Ahb (by omega) (Nat.mod_lt _ (by decide))
 ·omega
theorem Py (xs:List Nat)(h:Small xs)(r:Nat)(hr:r<64):∀ k,Small (D8 xs r k)
 | 0=>Ea _
 | k+1=>Dp (Py xs h r hr k) _ _ (Aef xs h r k hr)
theorem Tt (xs:List Nat)(r:Nat):∀ k j,k≤xs.length→nth (D8 xs r k) j=if j<k then Jt xs r j else 0
 | 0,j,_=>by rw [D8,Fi,if_neg (by omega)]
 | k + 1, j, hk => by
   rw [D8,Je _ _ _ _ (by rw [Ib];omega),Tt xs r k j (by omega)];by_cases e:k=j
   ·subst e;rw [if_pos rfl,if_pos (by omega)]
   ·rw [if_neg e];by_cases h2:j<k
    ·rw [if_pos h2,if_pos (by omega)]
    ·rw [if_neg h2,if_neg (by omega)]
theorem Tu (xs:List Nat)(h:Small xs)(r:Nat)(hr:r<64)(o:List Nat)(ho:∀ j,j<xs.length→nth o j=Jt xs r j):∀ k,k≤xs.length→k≤o.length →
 val (o.take k)*2^r+nth xs 0%2^r=val (xs.take k)+18446744073709551616^k*(nth xs k%2^r)
 | 0,_,_=>by simp [val]
 | k + 1, hk, hk' => by
   have ih:=Tu xs h r hr o ho k (by omega) (by omega);have e64:(18446744073709551616:Nat)=2^(64-r)*2^r:=by
    rw [←Nat.pow_add,show 64-r+r=64 by omega]
   rw [B8 o k (by omega),B8 xs k (by omega),ho k (by omega),Aee xs h r k hr,Nat.add_mul,Nat.pow_succ];have e3:nth xs (k+1)*2^(64-r)%18446744073709551616*2^r=18446744073709551616*(nth xs (k+1)%2^r):=by
    rw [e64,Nat.mul_comm (nth xs (k+1)),Nat.mul_mod_mul_left,Nat.mul_right_comm]
   have e4:nth xs k/2^r*2^r+nth xs k%2^r=nth xs k:=by rw [Nat.mul_comm];exact Nat.div_add_mod _ _
   generalize 18446744073709551616^k=p at *;have e5:p*(nth xs k/2^r+nth xs (k+1)*2^(64-r)%18446744073709551616)*2^r=p*(nth xs k/2^r*2^r)+p*(18446744073709551616*(nth xs (k+1)%2^r)):=by
    rw [Nat.mul_assoc,Nat.add_mul,e3,Nat.mul_add]
   rw [e5,←Nat.mul_assoc p 18446744073709551616];have e6:p*nth xs k=p*(nth xs k/2^r*2^r)+p*(nth xs k%2^r):=by rw [←Nat.mul_add,e4]
   omega
theorem Abt (xs:List Nat)(h:Small xs)(r:Nat)(hr:r<64):val (D8 xs r xs.length)=val xs/2^r:=by
 have hl:=Ib xs r xs.length;have:=Tu xs h r hr (D8 xs r xs.length) (fun j hj=>by rw [Tt xs r _ j (Nat.le_refl _),if_pos hj]) xs.length (Nat.le_refl _) (by omega);rw [List.take_of_length_le (by omega),List.take_of_length_le (Nat.le_refl _),Qo xs xs.length (Nat.le_refl _),Nat.zero_mod,Nat.mul_zero,Nat.add_zero] at this;have hlt:nth xs 0%2^r<2^r:=Nat.mod_lt _ (Nat.pow_pos (by decide));rw [←this,Nat.add_comm,Nat.add_mul_div_right _ _ (Nat.pow_pos (by decide)),Nat.div_eq_of_lt hlt,Nat.zero_add]
theorem Us (xs:List Nat)(h:Small xs)(k:Nat):val (xs.drop k)=val xs/18446744073709551616^k:=by
 by_cases hk:k≤xs.length
 ·have e:=D6 (xs.take k) (xs.drop k);rw [List.take_append_drop,List.length_take,Nat.min_eq_left hk] at e;have b:=Gi _ (Fc h k);rw [List.length_take,Nat.min_eq_left hk] at b;rw [e,Nat.add_mul_div_left _ _ (Nat.pow_pos (by decide)),Nat.div_eq_of_lt b,Nat.zero_add]
 ·rw [List.drop_eq_nil_of_le (by omega),Nat.div_eq_of_lt]
  ·rfl
  ·exact Nat.lt_of_lt_of_le (Gi _ h) (Nat.pow_le_pow_right (by decide) (by omega))
theorem Aeg (xs:List Nat)(h:Small xs)(n:Nat):val (D8 (xs.drop (n/64)) (n%64) (xs.drop (n/64)).length)=val xs/2^n:=by
 rw [Abt _ (L3 h _) _ (Nat.mod_lt _ (by decide)),Us xs h,Nat.div_div_eq_div_mul,Kf n,Nat.mul_comm]
end Go.Proofs.YtabjjdicffcolaaGreatDoor
namespace Go.Proofs.YtabjjdicffcolaaGreatDoor
structure F6 (u d yn1 yn0 q r:Nat):Prop where
 sum:u=q*yn1+r
 ge:(u*4294967296+d)/(yn1*4294967296+yn0)≤q
theorem Lj (u d yn1 yn0:Nat)(hd:d<4294967296)(h1:0<yn1):F6 u d yn1 yn0 (u/yn1) (u%yn1):=by
 refine ⟨by rw [Nat.mul_comm];exact (Nat.div_add_mod u yn1).symm,?_⟩;have e:(u*4294967296+d)/(yn1*4294967296)=u/yn1:=by
  rw [Nat.mul_comm yn1,←Nat.div_div_eq_div_mul]
  congr 1
  omega
 rw [←e];exact Nat.div_le_div_left (by omega) (by omega)
theorem Kk {u d yn1 yn0 q r:Nat}(h:F6 u d yn1 yn0 q r)(h1:0<yn1)(hc:q*yn0≤4294967296*r+d):q=(u*4294967296+d)/(yn1*4294967296+yn0):=by
 refine Nat.le_antisymm ?_ h.ge;rw [Nat.le_div_iff_mul_le (by omega),h.sum,Nat.mul_add,Nat.add_mul,Nat.mul_assoc q yn1,←Nat.mul_assoc];have:r*4294967296=4294967296*r:=Nat.mul_comm _ _;omega
theorem Gy {u d yn1 yn0 q r:Nat}(h:F6 u d yn1 yn0 q r)(hu:u<yn1*4294967296+yn0)(hd:d<4294967296)(_h1:0<yn1)(hc:4294967296≤q∨4294967296*r+d<q*yn0) :
 1≤q∧F6 u d yn1 yn0 (q-1) (r+yn1):=by
 have key:(u*4294967296+d)/(yn1*4294967296+yn0)<q:=by
  rw [Nat.div_lt_iff_lt_mul (by omega)];rcases hc with hc | hc
  ·have:4294967296*(yn1*4294967296+yn0)≤q*(yn1*4294967296+yn0):=Nat.mul_le_mul_right _ hc;omega
  ·rw [h.sum,Nat.mul_add,Nat.add_mul,←Nat.mul_assoc];have:r*4294967296=4294967296*r:=Nat.mul_comm _ _;omega
 have h1:1≤q:=Nat.lt_of_le_of_lt (Nat.zero_le _) key;refine ⟨h1,?_,Nat.le_sub_one_of_lt key⟩;have hs:=h.sum;clear key hc h;obtain ⟨k,rfl⟩:∃ k,q=k+1:=⟨q-1,by omega⟩;rw [Nat.add_sub_cancel,hs,Nat.add_mul];omega
theorem Fx {u d yn1 yn0 q r:Nat}(h:F6 u d yn1 yn0 q r)(hu:u<yn1*4294967296+yn0)(h0:yn0<4294967296)(h1:0<yn1)(hr:4294967296≤r):q=(u*4294967296+d)/(yn1*4294967296+yn0):=by
 have hq:q<4294967296:=by
  have a:q*yn1<yn1*4294967296:=by have:=h.sum;omega
  rw [Nat.mul_comm] at a;exact Nat.lt_of_mul_lt_mul_left a
 refine Kk h h1 ?_;have:q*yn0≤4294967296*4294967296:=Nat.mul_le_mul (by omega) (by omega);omega
theorem Adw (u d Y q:Nat)(hY:Y<18446744073709551616)(h0:0<Y)(hq:q=(u*4294967296+d)/Y) :
 (((u*4294967296:Int)+d)-q*Y)%18446744073709551616=(((u*4294967296+d)%Y:Nat):Int):=by
 have a:=Nat.div_add_mod (u*4294967296+d) Y;rw [←hq] at a;have b:=Nat.mod_lt (u*4294967296+d) h0;have c:(q:Int)*Y=((Y*q:Nat):Int):=by rw [Int.natCast_mul,Int.mul_comm]
 rw [c];generalize Y*q=p at *;generalize (u*4294967296+d)%Y=t at *;omega
theorem Ab4 (N Y lo hi:Nat)(h0:0<Y)(hN:N=hi*4294967296+lo)(_hl:lo<4294967296) :
 N/Y=hi/Y*4294967296+(hi%Y*4294967296+lo)/Y∧N%Y=(hi%Y*4294967296+lo)%Y:=by
 have a:=Nat.div_add_mod hi Y;have e:N=Y*(hi/Y*4294967296)+(hi%Y*4294967296+lo):=by
  rw [hN,←Nat.mul_assoc,←Nat.add_assoc,←Nat.add_mul,a]
 rw [e];exact ⟨by rw [Nat.mul_add_div h0],by rw [Nat.mul_add_mod]⟩
theorem Aen (hi lo y s:Nat)(hs:s<64)(hlo:lo<18446744073709551616)(hlt:hi<y) :
 (hi*18446744073709551616+lo)*2^s=(hi*2^s+lo/2^(64-s))*18446744073709551616+lo*2^s%18446744073709551616∧hi*2^s+lo/2^(64-s)<y*2^s∧lo/2^(64-s)<2^s∧lo/2^(64-s)=lo*2^s/18446744073709551616:=by
 have e64:(18446744073709551616:Nat)=2^(64-s)*2^s:=by
  rw [←Nat.pow_add,show 64-s+s=64 by omega]
 have e1:lo/2^(64-s)=lo*2^s/18446744073709551616:=by
  rw [e64,Nat.mul_div_mul_right _ _ (Nat.pow_pos (by decide))]
 have h2:lo/2^(64-s)<2^s:=by
  rw [Nat.div_lt_iff_lt_mul (Nat.pow_pos (by decide)),Nat.mul_comm (2^s),←e64];exact hlo
 refine ⟨?_,?_,h2,e1⟩
 ·have:=Nat.div_add_mod (lo*2^s) 18446744073709551616;rw [←e1] at this;rw [Nat.add_mul,Nat.add_mul,Nat.mul_right_comm];omega
 ·have:(hi+1)*2^s≤y*2^s:=Nat.mul_le_mul_right _ hlt;rw [Nat.add_mul] at this;omega
theorem Dq (u d Y:Nat)(hu:u<Y)(hd:d<4294967296):(u*4294967296+d)/Y<4294967296:=by
 rw [Nat.div_lt_iff_lt_mul (by omega)];omega
end Go.Proofs.YtabjjdicffcolaaGreatDoor
namespace Go.Proofs.YtabjjdicffcolaaGreatDoor
structure Raw where
 neg:Bool
 m:List Nat
 e:Int
structure Dy where
 neg:Bool
 m:Nat
 e:Int
def Dy.raw (d:Dy):Raw:=⟨d.neg,Aj d.m,d.e⟩
def dz:Dy:=⟨false,0,0⟩
def Raw.dy (r:Raw):Dy:=⟨r.neg,val r.m,r.e⟩
def Hn (r:Raw):Bool :=
 if r.m.length=0 then (!r.neg&&r.e==0) else (Ux r.m&&nth r.m 0%2==1&&decide (-1048576≤r.e)&&decide (r.e≤1048576))
structure Dy.Ok (d:Dy):Prop where
 len:(Aj d.m).length≤64
 zero:d.m=0→d.neg=false∧d.e=0
 odd:d.m≠0→d.m%2=1
 lo:-1048576≤d.e
 hi:d.e≤1048576
theorem Abg {xs:List Nat}(h:Small xs)(hm:Ux xs=true):Aj (val xs)=xs:=by
 rw [←Xw xs h];unfold Ux at hm;by_cases h0:xs.length=0
 ·obtain rfl:=List.eq_nil_of_length_eq_zero h0;rfl
 ·simp [h0] at hm;have hm2:=hm;obtain ⟨k,hk⟩:∃ k,xs.length=k+1:=⟨xs.length-1,by omega⟩;have:tl xs=xs.length:=by
   unfold tl;rw [hk,Ip,if_neg];have:=hm2.2;rwa [hk,Nat.add_sub_cancel] at this
  rw [this,List.take_of_length_le (Nat.le_refl _)]
theorem Agp {xs:List Nat}(hm:Ux xs=true):xs.length≤64:=by
 unfold Ux at hm;by_cases h0:xs.length=0
 ·omega
 ·simp [h0] at hm;exact hm.1
theorem Mw (n:Nat):nth (Aj n) 0=n%18446744073709551616:=by
 by_cases h:n=0
 ·subst h;rw [Ay];rfl
 ·rw [Dk n h];rfl
theorem Jn {r:Raw}(h:Small r.m)(hm:Hn r=true):r.dy.raw=r∧r.dy.Ok:=by
 obtain ⟨neg,m,e⟩:=r;unfold Hn at hm;simp only at hm h;by_cases h0:m.length=0
 ·obtain rfl:=List.eq_nil_of_length_eq_zero h0;simp at hm;obtain ⟨rfl,rfl⟩:=hm;refine ⟨by simp [Raw.dy,Dy.raw,val,Ay],?_⟩;refine ⟨by simp [Raw.dy,val,Ay],fun _=>⟨rfl,rfl⟩,fun h=>absurd rfl h,by simp [Raw.dy],by simp [Raw.dy]⟩
 ·rw [if_neg h0] at hm;simp only [Bool.and_eq_true,beq_iff_eq,decide_eq_true_eq] at hm;obtain ⟨⟨⟨h1,h2⟩,h3⟩,h4⟩:=hm;have hl:=Abg h h1;have hv:val m≠0:=by
   intro hv;rw [hv,Ay] at hl;rw [←hl] at h0;simp at h0
  refine ⟨by simp only [Raw.dy,Dy.raw];rw [hl],?_⟩;refine ⟨by simp only [Raw.dy];rw [hl];exact Agp h1,fun h=>absurd h hv,fun _=>?_,h3,h4⟩;simp only [Raw.dy];rw [←hl,Mw] at h2;omega
theorem Uy (n:Nat)(h:(Aj n).length≤64):Ux (Aj n)=true:=by
 by_cases h0:n=0
 ·subst h0;rw [Ay];rfl
 ·unfold Ux;have:=Lp n h0;simp [h]
  right
  exact this
theorem Dy.Ok.may {d:Dy}(h:d.Ok):Hn d.raw=true:=by
 unfold Hn Dy.raw;simp only;by_cases h0:d.m=0
 ·obtain ⟨a,b⟩:=h.zero h0;rw [h0,Ay,a,b];rfl
 ·rw [if_neg (by have:=Bj d.m h0;omega),Uy d.m h.len,Mw];have h1:=h.odd h0;have h2:=h.lo;have h3:=h.hi;have h4:d.m%18446744073709551616%2=1:=by omega
  simp [h4,h2,h3]
theorem Dy.raw_dy (d:Dy):d.raw.dy=d:=by
 simp [Dy.raw,Raw.dy,Cd]
theorem Dy.small (d:Dy):Small d.raw.m:=F5 _
theorem Kg:dz.Ok:=⟨by simp [dz,Ay],fun _=>⟨rfl,rfl⟩,fun h=>absurd rfl h,by decide,by decide⟩
structure Outc (α:Type) where
 v:α
 k:Int
def good {α:Type} (a:α):Outc α:=⟨a,0⟩
def bad (k:Int):Outc Dy:=⟨dz,k⟩
def Bw (neg:Bool) (n:Nat) (e:Int):Outc Dy :=
 if n=0 then good dz
 else if 64<(Aj (n/2^tz n)).length then bad 2
 else if 1048576<e∨e < -1048576-tz n then bad 3
 else if 1048576<e+tz n then bad 3
 else good ⟨neg,n/2^tz n,e+tz n⟩
theorem Fm (neg:Bool)(n:Nat)(e:Int):(Bw neg n e).v.Ok∧((Bw neg n e).k≠0→(Bw neg n e).v=dz):=by
 unfold Bw;by_cases h0:n=0
 ·rw [if_pos h0];exact ⟨Kg,fun _=>rfl⟩
 ·rw [if_neg h0];by_cases h1:64<(Aj (n/2^tz n)).length
  ·rw [if_pos h1];exact ⟨Kg,fun _=>rfl⟩
  ·rw [if_neg h1];by_cases h2:1048576<e∨e < -1048576-tz n
   ·rw [if_pos h2];exact ⟨Kg,fun _=>rfl⟩
   ·rw [if_neg h2];by_cases h3:1048576<e+tz n
    ·rw [if_pos h3];exact ⟨Kg,fun _=>rfl⟩
    ·rw [if_neg h3];have ho:=Ur n h0;refine ⟨⟨by simp only [good];omega,fun hz=>?_,fun _=>ho,by simp only [good];omega,by simp only [good];omega⟩,fun h=>absurd rfl h⟩;simp only [good] at hz;rw [hz] at ho;omega
end Go.Proofs.YtabjjdicffcolaaGreatDoor
namespace Go.Proofs.YtabjjdicffcolaaGreatDoor
def pw (e:Int):Rat:=(2:Rat)^e
theorem Hi (e:Int):0<pw e:=Rat.zpow_pos (by decide)
theorem Fb (a b:Int):pw (a+b)=pw a*pw b:=Rat.zpow_add (by decide) a b
theorem Fp:pw 0=1:=Rat.zpow_zero _
theorem Qq:pw 1=2:=Rat.zpow_one _
theorem Ix (n:Nat):pw (n:Int)=((2^n:Nat):Rat):=by
 unfold pw;rw [Rat.zpow_natCast,Rat.natCast_pow];rfl
theorem Oz (e:Int):pw e*pw (-e)=1:=by rw [←Fb,Int.add_right_neg,Fp]
theorem Nt (y:Rat)(i:Int):y*pw (-i)*pw i=y:=by rw [Rat.mul_assoc,Rat.mul_comm (pw (-i)),Oz,Rat.mul_one]
theorem Dg (e:Int):0≤pw e:=Rat.le_of_lt (Hi e)
theorem Aoq (e:Int):pw e≠0:=by have:=Hi e;grind
theorem Zj {a b:Int}(h:a≤b):pw b=((2^(b-a).toNat:Nat):Rat)*pw a:=by
 rw [←Ix,←Fb];congr 1;omega
theorem Ga {a b:Int}(h:a≤b):pw a≤pw b:=by
 rw [Zj h];have h1:(1:Rat)≤((2^(b-a).toNat:Nat):Rat):=by
  have:=Rat.natCast_le_natCast.2 (Nat.one_le_two_pow (n:=(b-a).toNat));exact this
 have h2:=Rat.mul_le_mul_of_nonneg_right h1 (Dg a);grind
def sq (s:Bool) (m:Nat):Rat:=if s then -(m:Rat) else m
theorem Xs (s:Bool)(m:Nat):sq (!s) m=-sq s m:=by cases s<;>simp [sq]
theorem N2 (s:Bool):sq s 0=0:=by cases s<;>simp [sq]
theorem Anh (s t:Bool)(m n:Nat):sq (s != t) (m*n)=sq s m*sq t n:=by
 cases s<;>cases t<;>simp [sq,Rat.natCast_mul]<;>grind
def Dy.q (d:Dy):Rat:=sq d.neg d.m*pw d.e
theorem Wy:dz.q=0:=by simp [Dy.q,dz,sq]
theorem Cx {a b:Nat}:(a:Rat)<(b:Rat)↔a<b:=Rat.natCast_lt_natCast
theorem Cn {a b:Nat}:(a:Rat)≤(b:Rat)↔a≤b:=Rat.natCast_le_natCast
theorem Xi {m:Nat}(h:m≠0):0<(m:Rat):=by
 have:=Cx.2 (Nat.pos_of_ne_zero h);simpa using this
theorem Ts {m:Nat}(h:m≠0)(e:Int):0<(m:Rat)*pw e:=Rat.mul_pos (Xi h) (Hi e)
theorem Nu {d:Dy}(hd:d.Ok):d.q=0↔d=dz:=by
 constructor
 ·intro h;by_cases h0:d.m=0
  ·obtain ⟨a,b⟩:=hd.zero h0;obtain ⟨n,m,e⟩:=d;simp only at h0 a b;subst h0 a b;rfl
  ·exfalso;have:=Ts h0 d.e;unfold Dy.q sq at h;cases hn:d.neg<;>rw [hn] at h<;>simp at h<;>grind
 ·rintro rfl;exact Wy
theorem H3 (m:Nat){e l:Int}(h:l≤e):(m:Rat)*pw e=((m*2^(e-l).toNat:Nat):Rat)*pw l:=by
 rw [Zj h,Rat.natCast_mul,Rat.mul_assoc]
theorem Vv {a b:Rat}(e:Int):a*pw e<b*pw e↔a<b:=Rat.mul_lt_mul_right (Hi e)
theorem G5 {a b:Rat}(e:Int):a*pw e≤b*pw e↔a≤b:=by
 constructor
 ·intro h;exact Rat.le_of_mul_le_mul_right h (Hi e)
 ·intro h;exact Rat.mul_le_mul_of_nonneg_right h (Dg e)
theorem Agn (m n:Nat){e f l:Int}(h:l≤e)(k:l≤f):(m:Rat)*pw e≤(n:Rat)*pw f↔m*2^(e-l).toNat≤n*2^(f-l).toNat:=by
 rw [H3 m h,H3 n k,G5,Cn]
theorem Amp (m n:Nat){e f l:Int}(h:l≤e)(k:l≤f):(m:Rat)*pw e<(n:Rat)*pw f↔m*2^(e-l).toNat<n*2^(f-l).toNat:=by
 rw [H3 m h,H3 n k,Vv,Cx]
theorem Abf (m n:Nat){e f l:Int}(h:l≤e)(k:l≤f):(m:Rat)*pw e=(n:Rat)*pw f↔m*2^(e-l).toNat=n*2^(f-l).toNat:=by
 constructor
 ·intro he;have h1:=(Agn m n h k).1 (by rw [he];exact Rat.le_refl);have h2:=(Agn n m k h).1 (by rw [he];exact Rat.le_refl);omega
 ·intro he;rw [H3 m h,H3 n k,he]
theorem Acw {m n:Nat}{e f:Int}(hm:m%2=1)(hn:n%2=1)(h:(m:Rat)*pw e=(n:Rat)*pw f):m=n∧e=f:=by
 rcases Int.le_total e f with hl | hl
 ·have h1:=(Abf m n (Int.le_refl e) hl).1 h;obtain ⟨a,b⟩:=Jp hm hn h1;exact ⟨b,by omega⟩
 ·have h1:=(Abf m n hl (Int.le_refl f)).1 h;obtain ⟨a,b⟩:=Jp hm hn h1;exact ⟨b,by omega⟩
theorem Alm {a b:Dy}(ha:a.Ok)(hb:b.Ok)(h:a.q=b.q):a=b:=by
 by_cases h0:a.m=0
 ·have ha0:a.q=0:=by unfold Dy.q;rw [h0,N2,Rat.zero_mul]
  rw [(Nu ha).1 ha0,(Nu hb).1 (by rw [←h,ha0])]
 ·by_cases h1:b.m=0
  ·have hb0:b.q=0:=by unfold Dy.q;rw [h1,N2,Rat.zero_mul]
   rw [(Nu hb).1 hb0,(Nu ha).1 (by rw [h,hb0])]
  ·have pa:=Ts h0 a.e;have pb:=Ts h1 b.e;have oa:=ha.odd h0;have ob:=hb.odd h1;obtain ⟨n1,m1,e1⟩:=a;obtain ⟨n2,m2,e2⟩:=b;simp only [Dy.q,sq] at *;cases n1<;>cases n2<;>simp only [if_true,if_false,Bool.false_eq_true] at h
   ·obtain ⟨rfl,rfl⟩:=Acw oa ob h;rfl
   ·grind
   ·grind
   ·have h':(m1:Rat)*pw e1=(m2:Rat)*pw e2:=by grind
    obtain ⟨rfl,rfl⟩:=Acw oa ob h';rfl
def Ci (x y:Rat):Int:=if x<y then -1 else if x=y then 0 else 1
theorem Yh (x y:Rat):Ci (-x) (-y)=-Ci x y:=by
 unfold Ci;by_cases h:x<y
 ·rw [if_pos h,if_neg (by grind),if_neg (by grind)];rfl
 ·by_cases h1:x=y
  ·rw [if_neg h,if_pos h1,if_neg (by grind),if_pos (by rw [h1])];rfl
  ·rw [if_neg h,if_neg h1,if_pos (by grind)]
theorem Jc {x y:Rat}:Ci x y≤0↔x≤y:=by
 unfold Ci;by_cases h:x<y
 ·rw [if_pos h];constructor<;>intro<;>first | grind | decide
 ·by_cases h1:x=y
  ·rw [if_neg h,if_pos h1];constructor<;>intro<;>first | grind | decide
  ·rw [if_neg h,if_neg h1];constructor<;>intro h2
   ·exact absurd h2 (by decide)
   ·grind
theorem Ry {x y:Rat}:0≤Ci x y↔y≤x:=by
 unfold Ci;by_cases h:x<y
 ·rw [if_pos h];constructor<;>intro h2
  ·exact absurd h2 (by decide)
  ·grind
 ·by_cases h1:x=y
  ·rw [if_neg h,if_pos h1];constructor<;>intro<;>first | grind | decide
  ·rw [if_neg h,if_neg h1];constructor<;>intro<;>first | grind | decide
theorem Rz {x y:Rat}:Ci x y<0↔x<y:=by
 have:=@Ry x y;constructor
 ·intro h;by_cases hxy:x<y
  ·exact hxy
  ·exfalso;have:(0:Int)≤Ci x y:=this.2 (by grind);omega
 ·intro h;by_cases hc:Ci x y<0
  ·exact hc
  ·exfalso;have:=this.1 (by omega);grind
theorem Acb {x y:Rat}:0<Ci x y↔y<x:=by
 have:=@Jc x y;constructor
 ·intro h;by_cases hxy:y<x
  ·exact hxy
  ·exfalso;have:Ci x y≤0:=this.2 (by grind);omega
 ·intro h;by_cases hc:0<Ci x y
  ·exact hc
  ·exfalso;have:=this.1 (by omega);grind
theorem Vd (x:Rat):Ci x x=0:=by
 unfold Ci;rw [if_neg (by grind),if_pos rfl]
theorem Afo (m n:Nat){e f l:Int}(h:l≤e)(k:l≤f):Ci ((m:Rat)*pw e) ((n:Rat)*pw f)=E4 (m*2^(e-l).toNat) (n*2^(f-l).toNat):=by
 unfold Ci E4;simp only [Amp m n h k,Abf m n h k]
def Fits (p:Nat) (y:Rat):Prop:=∃ s k j,bl k≤p∧y=sq s k*pw j
theorem Fits.neg {p:Nat}{y:Rat}(h:Fits p y):Fits p (-y):=by
 obtain ⟨s,k,j,hk,rfl⟩:=h;exact ⟨!s,k,j,hk,by rw [Xs];grind⟩
theorem Fits.mono {p p':Nat}{y:Rat}(h:Fits p y)(hp:p≤p'):Fits p' y:=by
 obtain ⟨s,k,j,hk,rfl⟩:=h;exact ⟨s,k,j,by omega,rfl⟩
theorem Fits.pw {p:Nat}{y:Rat}(h:Fits p y)(i:Int):Fits p (y*pw i):=by
 obtain ⟨s,k,j,hk,rfl⟩:=h;exact ⟨s,k,j+i,hk,by rw [Fb,Rat.mul_assoc]⟩
theorem Fits.zero (p:Nat):Fits p 0:=⟨false,0,0,by simp [bl],by rw [N2,Rat.zero_mul]⟩
structure IsDown (p:Nat) (x d:Rat):Prop where
 fits:Fits p d
 le:d≤x
 best:∀ y,Fits p y→y≤x→y≤d
structure IsUp (p:Nat) (x d:Rat):Prop where
 fits:Fits p d
 le:x≤d
 best:∀ y,Fits p y→x≤y→d≤y
def Fq (up:Bool) (p:Nat) (x d:Rat):Prop:=if up then IsUp p x d else IsDown p x d
theorem IsDown.neg {p:Nat}{x d:Rat}(h:IsDown p x d):IsUp p (-x) (-d) :=
 ⟨h.fits.neg,by have:=h.le;grind,fun y hy hx=>by have:=h.best (-y) hy.neg (by grind);grind⟩
theorem IsUp.neg {p:Nat}{x d:Rat}(h:IsUp p x d):IsDown p (-x) (-d) :=
 ⟨h.fits.neg,by have:=h.le;grind,fun y hy hx=>by have:=h.best (-y) hy.neg (by grind);grind⟩
theorem IsDown.mono {p p':Nat}{x x' d d':Rat}(h:IsDown p x d)(h':IsDown p' x' d')(hp:p≤p')(hx:x≤x'):d≤d' :=
 h'.best d (h.fits.mono hp) (by have:=h.le;grind)
theorem IsUp.mono {p p':Nat}{x x' d d':Rat}(h:IsUp p x d)(h':IsUp p' x' d')(hp:p≤p')(hx:x'≤x):d'≤d :=
 h'.best d (h.fits.mono hp) (by have:=h.le;grind)
theorem IsDown.of_fits {p:Nat}{x:Rat}(h:Fits p x):IsDown p x x:=⟨h,Rat.le_refl,fun _ _ h=>h⟩
theorem IsUp.of_fits {p:Nat}{x:Rat}(h:Fits p x):IsUp p x x:=⟨h,Rat.le_refl,fun _ _ h=>h⟩
theorem IsDown.pw {p:Nat}{x d:Rat}(h:IsDown p x d)(i:Int):IsDown p (x*pw i) (d*pw i):=by
 refine ⟨h.fits.pw i,(G5 i).2 h.le,fun y hy hx=>?_⟩;have h2:=h.best (y*Go.Proofs.YtabjjdicffcolaaGreatDoor.pw (-i)) (hy.pw (-i)) (by rw [←G5 i,Nt];exact hx);rw [←G5 i,Nt] at h2;exact h2
theorem IsUp.pw {p:Nat}{x d:Rat}(h:IsUp p x d)(i:Int):IsUp p (x*pw i) (d*pw i):=by
 have:=(h.neg.pw i).neg;simpa [Rat.neg_mul] using this
theorem Oa {p m':Nat}{x y:Rat}(hm:2^(p-1)≤m')(hp:1≤p)(hx:x<(m':Rat)+1)(hy:Fits p y)(hyx:y≤x):y≤m':=by
 obtain ⟨s,k,j,hk,rfl⟩:=hy;have hm0:(0:Rat)≤m':=Cn.2 (Nat.zero_le m');cases s
 case true =>
  have:sq true k*pw j≤0:=by
   have h1:(0:Rat)≤k:=Cn.2 (Nat.zero_le k);have h2:=Rat.mul_le_mul_of_nonneg_right h1 (Dg j);simp only [sq,if_true];grind
  grind
 case false =>
  simp only [sq,Bool.false_eq_true,if_false] at *;rcases Int.le_total 0 j with hj | hj
  ·have e:(k:Rat)*pw j=((k*2^j.toNat:Nat):Rat):=by
    have h:=H3 k hj;rw [Fp] at h;simpa using h
   rw [e] at hyx ⊢;have h3:((k*2^j.toNat:Nat):Rat)<((m'+1:Nat):Rat):=by
    rw [Rat.natCast_add];have:((1:Nat):Rat)=1:=rfl;grind
   have:=Cx.1 h3;exact Cn.2 (by omega)
  ·by_cases hj0:j=0
   ·subst hj0;rw [Fp,Rat.mul_one] at hyx ⊢;have h3:(k:Rat)<((m'+1:Nat):Rat):=by
     rw [Rat.natCast_add];have:((1:Nat):Rat)=1:=rfl;grind
    have:=Cx.1 h3;exact Cn.2 (by omega)
   ·have h1:(k:Rat)*pw j≤(k:Rat)*pw (-1):=by
     have h1:(0:Rat)≤k:=Cn.2 (Nat.zero_le k);exact Rat.mul_le_mul_of_nonneg_left (Ga (by omega)) h1
    have h2:k≤2*m':=by
     have h4:=Bd k;have h5:2^bl k≤2^p:=Nat.pow_le_pow_right (by decide) hk;have h6:2^p=2*2^(p-1):=by
      rw [←Nat.pow_succ'];congr 1;omega
     omega
    have h3:(k:Rat)≤2*(m':Rat):=by
     have:=Cn.2 h2;rw [Rat.natCast_mul] at this;exact this
    have h4:=Oz (-1);have h5:pw (-(-1:Int))=2:=Qq;rw [h5] at h4;have h6:=Hi (-1);have h7:=Rat.mul_le_mul_of_nonneg_right h3 (Dg (-1));have h8:2*(m':Rat)*pw (-1)=m':=by
     rw [Rat.mul_comm 2,Rat.mul_assoc,Rat.mul_comm 2,h4,Rat.mul_one]
    rw [h8] at h7;exact Rat.le_trans h1 h7
theorem W5 {p m':Nat}{x y:Rat}(hm:2^(p-1)≤m')(hp:1≤p)(hx:(m':Rat)<x)(hy:Fits p y)(hyx:x≤y):(m':Rat)+1≤y:=by
 by_cases h:(m':Rat)+1≤y
 ·exact h
 ·exfalso;have:=Oa hm hp (x:=y) (by grind) hy Rat.le_refl;grind
theorem Ame (m n:Nat):((m/2^n:Nat):Rat)*((2^n:Nat):Rat)≤m∧(m:Rat)<(((m/2^n:Nat):Rat)+1)*((2^n:Nat):Rat):=by
 have h0:0<2^n:=Nat.two_pow_pos n;have h1:=Nat.div_add_mod m (2^n);have h2:=Nat.mod_lt m h0;constructor
 ·rw [←Rat.natCast_mul,Cn];rw [Nat.mul_comm] at h1;omega
 ·have:(((m/2^n:Nat):Rat)+1)*((2^n:Nat):Rat)=(((m/2^n+1)*2^n:Nat):Rat):=by
   rw [Rat.natCast_mul,Rat.natCast_add];rfl
  rw [this,Cx,Nat.add_mul,Nat.one_mul];rw [Nat.mul_comm] at h1;omega
theorem Wi (m n:Nat)(h:m≠0):tz m<n↔m%2^n≠0:=by
 constructor
 ·intro hlt hz;have hd:2^n ∣ m:=Nat.dvd_of_mod_eq_zero hz;have h1:=Uq m h;have h2:=Ur m h;have h3:2^(tz m+1) ∣ m:=Nat.dvd_trans (Nat.pow_dvd_pow 2 hlt) hd;obtain ⟨c,hc⟩:=h3;have h4:m/2^tz m=2*c:=by
   apply Nat.div_eq_of_eq_mul_left (Nat.two_pow_pos _);have:2^(tz m+1)*c=2*c*2^tz m:=by rw [Nat.pow_succ,Nat.mul_assoc,Nat.mul_comm]
   omega
  omega
 ·intro hz;by_cases hc:tz m<n
  ·exact hc
  ·exfalso;apply hz;exact Nat.mod_eq_zero_of_dvd (Nat.dvd_trans (Nat.pow_dvd_pow 2 (by omega)) (Xz m h))
def Ie (m:Nat) (rest:Bool) (p:Nat):Bool × Nat × Nat :=
 let n:=bl m-p
 (rest||(decide (0<n)&&decide (tz m<n)),m/2^n,n)
theorem Mi (m n:Nat):bl (m/2^n)=bl m-n:=by
 by_cases h:m=0
 ·subst h;simp [bl]
 ·by_cases hn:n<bl m
  ·have h1:=Dl m h;have h2:=Bd m;have e:bl m-n=(bl m-n-1)+1:=by omega
   rw [e];refine Afg _ _ ?_ ?_
   ·rw [Nat.le_div_iff_mul_le (Nat.two_pow_pos n),←Nat.pow_add];have:bl m-n-1+n=bl m-1:=by omega
    rw [this];exact h1
   ·rw [Nat.div_lt_iff_lt_mul (Nat.two_pow_pos n),←Nat.pow_add];have:bl m-n-1+1+n=bl m:=by omega
    rw [this];exact h2
  ·have h2:=Bd m;have:m/2^n=0:=Nat.div_eq_of_lt (Nat.lt_of_lt_of_le h2 (Nat.pow_le_pow_right (by decide) (by omega)));rw [this,Gr];omega
def Mag (m:Nat) (rest:Bool) (M:Rat):Prop:=if rest then (m:Rat)<M∧M<(m:Rat)+1 else M=m
theorem Ym {m:Nat}{rest:Bool}{p:Nat}{M:Rat}(h:Mag m rest M)(h0:rest=true→p<bl m)(h1p:1≤p) :
 Mag (Ie m rest p).2.1 (Ie m rest p).1 (M*pw (-((bl m-p:Nat):Int)))∧((Ie m rest p).1=true→2^(p-1)≤(Ie m rest p).2.1)∧bl (Ie m rest p).2.1≤p:=by
 obtain ⟨n,hn⟩:∃ n,bl m-p=n:=⟨_,rfl⟩;simp only [Ie,hn];have hbl:bl (m/2^n)≤p:=by rw [Mi];omega
 have hbig:0<n→2^(p-1)≤m/2^n:=by
  intro hp;have hm:m≠0:=by rintro rfl;simp [bl] at hn;omega
  have h1:=Dl m hm;rw [Nat.le_div_iff_mul_le (Nat.two_pow_pos n),←Nat.pow_add];refine Nat.le_trans (Nat.pow_le_pow_right (by decide) ?_) h1;omega
 by_cases hp:0<n
 ·have hm:m≠0:=by rintro rfl;simp [bl] at hn;omega
  have hd:decide (0<n)=true:=by simp [hp]
  rw [hd,Bool.true_and];obtain ⟨d1,d2⟩:=Ame m n;have e1:=Oz (n:Int);rw [Ix] at e1;have e2:=Hi (-(n:Int));have e3:0<((2^n:Nat):Rat):=by rw [←Ix];exact Hi _
  refine ⟨?_,fun _=>hbig hp,hbl⟩;by_cases hr:(rest||decide (tz m<n))=true
  ·rw [hr];simp only [Mag,if_true];have hstrict:((m/2^n:Nat):Rat)*((2^n:Nat):Rat)<M∧M<(((m/2^n:Nat):Rat)+1)*((2^n:Nat):Rat):=by
    cases rest
    ·simp only [Mag,Bool.false_eq_true,if_false] at h;simp only [Bool.false_or,decide_eq_true_eq] at hr;have hz:=(Wi m n hm).1 hr;subst h;refine ⟨?_,d2⟩;rw [←Rat.natCast_mul,Cx];have h1:=Nat.div_add_mod m (2^n);rw [Nat.mul_comm] at h1;omega
    ·simp only [Mag,if_true] at h;refine ⟨by grind,?_⟩;have:(((m/2^n:Nat):Rat)+1)*((2^n:Nat):Rat)=(((m/2^n+1)*2^n:Nat):Rat):=by
      rw [Rat.natCast_mul,Rat.natCast_add];rfl
     rw [this] at d2 ⊢;have d3:=Cx.1 d2;have d4:((m+1:Nat):Rat)≤(((m/2^n+1)*2^n:Nat):Rat):=Cn.2 d3;rw [Rat.natCast_add] at d4;have:((1:Nat):Rat)=1:=rfl;grind
   generalize ((m/2^n:Nat):Rat)=A at *;generalize ((2^n:Nat):Rat)=B at *;generalize pw (-(n:Int))=C at *;obtain ⟨s1,s2⟩:=hstrict;have t1:=(Rat.mul_lt_mul_right e2).2 s1;have t2:=(Rat.mul_lt_mul_right e2).2 s2;rw [Rat.mul_assoc,e1,Rat.mul_one] at t1 t2;exact ⟨t1,t2⟩
  ·have hr':(rest||decide (tz m<n))=false:=by simpa using hr
   rw [hr'];simp only [Bool.or_eq_false_iff,decide_eq_false_iff_not] at hr';obtain ⟨r1,r2⟩:=hr';subst r1;simp only [Mag,Bool.false_eq_true,if_false] at h ⊢;have hz:m%2^n=0:=by
    by_cases hz:m%2^n=0
    ·exact hz
    ·exact absurd ((Wi m n hm).2 hz) r2
   have h1:=Nat.div_add_mod m (2^n);rw [hz,Nat.add_zero,Nat.mul_comm] at h1;have h2:((m/2^n:Nat):Rat)*((2^n:Nat):Rat)=m:=by rw [←Rat.natCast_mul,h1]
   subst h;rw [←h2,Rat.mul_assoc,e1,Rat.mul_one]
 ·have hn0:n=0:=by omega
  subst hn0;have hr:rest=false:=by
   cases rest
   ·rfl
   ·have:=h0 rfl;omega
  subst hr;have e:pw (-((0:Nat):Int))=1:=Fp;refine ⟨?_,fun h=>?_,hbl⟩
  ·rw [e,Rat.mul_one];simpa [Mag] using h
  ·simp at h
def Eb (m:Nat) (rest:Bool) (p:Nat) (away:Bool):Nat:=if (Ie m rest p).1&&away then (Ie m rest p).2.1+1 else (Ie m rest p).2.1
theorem Kj {p m:Nat}(h:bl m≤p):Fits p (m:Rat):=⟨false,m,0,h,by simp [sq,Fp]⟩
theorem Adu {p m:Nat}(h:bl m≤p)(hp:1≤p):Fits p ((m:Rat)+1):=by
 have e:(m:Rat)+1=((m+1:Nat):Rat):=by rw [Rat.natCast_add];rfl
 rw [e];by_cases hb:bl (m+1)≤p
 ·exact Kj hb
 ·have h1:=Bd m;have h2:2^bl m≤2^p:=Nat.pow_le_pow_right (by decide) h;have h3:m+1=2^p:=by
   by_cases h4:m+1<2^p
   ·exact absurd (Ej _ _ h4) hb
   ·omega
  rw [h3];refine ⟨false,1,p,?_,?_⟩
  ·have:bl 1=1:=by decide
   omega
  ·rw [Ix];simp only [sq,Bool.false_eq_true,if_false];exact (Rat.one_mul _).symm
theorem Nf {m:Nat}{rest:Bool}{p:Nat}{M:Rat}(h:Mag m rest M)(h0:rest=true→p<bl m)(hp:1≤p) :
 IsDown p M ((Eb m rest p false:Rat)*pw ((bl m-p:Nat):Int)):=by
 obtain ⟨hm,hb,hl⟩:=Ym h h0 hp;have e1:=Oz (((bl m-p:Nat):Int));have key:IsDown p (M*pw (-((bl m-p:Nat):Int))) (Eb m rest p false:Rat):=by
  unfold Eb;rw [Bool.and_false];simp only [Bool.false_eq_true,if_false];generalize (Ie m rest p).2.1=m' at *;generalize (Ie m rest p).1=r' at *;generalize M*pw (-((bl m-p:Nat):Int))=x at *;cases r'
  ·simp only [Mag,Bool.false_eq_true,if_false] at hm;subst hm;exact .of_fits (Kj hl)
  ·simp only [Mag,if_true] at hm;exact ⟨Kj hl,by grind,fun y hy hx=>Oa (hb rfl) hp hm.2 hy hx⟩
 have:=key.pw ((bl m-p:Nat):Int);rw [Rat.mul_assoc,Rat.mul_comm (pw _),e1,Rat.mul_one] at this;exact this
theorem R5 {m:Nat}{rest:Bool}{p:Nat}{M:Rat}(h:Mag m rest M)(h0:rest=true→p<bl m)(hp:1≤p) :
 IsUp p M ((Eb m rest p true:Rat)*pw ((bl m-p:Nat):Int)):=by
 obtain ⟨hm,hb,hl⟩:=Ym h h0 hp;have e1:=Oz (((bl m-p:Nat):Int));have key:IsUp p (M*pw (-((bl m-p:Nat):Int))) (Eb m rest p true:Rat):=by
  unfold Eb;rw [Bool.and_true];generalize (Ie m rest p).2.1=m' at *;generalize (Ie m rest p).1=r' at *;generalize M*pw (-((bl m-p:Nat):Int))=x at *;cases r'
  ·simp only [Mag,Bool.false_eq_true,if_false] at hm ⊢;subst hm;exact .of_fits (Kj hl)
  ·simp only [Mag,if_true] at hm ⊢;have e:((m'+1:Nat):Rat)=(m':Rat)+1:=by rw [Rat.natCast_add];rfl
   rw [e];exact ⟨Adu hl hp,by grind,fun y hy hx=>W5 (hb rfl) hp hm.1 hy hx⟩
 have:=key.pw ((bl m-p:Nat):Int);rw [Rat.mul_assoc,Rat.mul_comm (pw _),e1,Rat.mul_one] at this;exact this
def Iu (neg:Bool) (m:Nat) (e:Int) (rest:Bool) (p:Nat) (up:Bool):Outc Dy :=
 Bw neg (Eb m rest p (up != neg)) (e+((bl m-p:Nat):Int))
theorem Lh {neg:Bool}{n:Nat}{e:Int}(h:(Bw neg n e).k=0):(Bw neg n e).v.q=sq neg n*pw e:=by
 unfold Bw at *;by_cases h0:n=0
 ·rw [if_pos h0];subst h0;rw [N2,Rat.zero_mul];exact Wy
 ·rw [if_neg h0] at h ⊢;by_cases h1:64<(Aj    (n/2^tz n)).length
  ·rw [if_pos h1] at h;exact absurd h (by decide)
  ·rw [if_neg h1] at h ⊢;by_cases h2:1048576<e∨e < -1048576-tz n
   ·rw [if_pos h2] at h;exact absurd h (by decide)
   ·rw [if_neg h2] at h ⊢;by_cases h3:1048576<e+tz n
    ·rw [if_pos h3] at h;exact absurd h (by decide)
    ·rw [if_neg h3];simp only [good,Dy.q];rw [Int.add_comm,Fb,Ix,←Rat.mul_assoc]
     congr 1
     have:=Uq n h0;unfold sq;cases neg
     ·simp only [Bool.false_eq_true,if_false];rw [←Rat.natCast_mul,this]
     ·simp only [if_true];rw [Rat.neg_mul,←Rat.natCast_mul,this]
theorem Yl {neg:Bool}{m:Nat}{e:Int}{rest:Bool}{p:Nat}{up:Bool}{M:Rat}(h:Mag m rest M)(h0:rest=true→p<bl m)(hp:1≤p)
 (hk:(Iu neg m e rest p up).k=0):Fq up p ((if neg then -M else M)*pw e) (Iu neg m e rest p up).v.q:=by
 unfold Iu at *;rw [Lh hk,Int.add_comm,Fb,←Rat.mul_assoc];unfold Fq;cases neg<;>cases up
 ·exact ((Nf h h0 hp).pw e)
 ·exact ((R5 h h0 hp).pw e)
 ·have e1:(false != true)=true:=rfl;have:=((R5 h h0 hp).neg).pw e;simpa only [e1,Bool.false_eq_true,if_false,if_true,sq,Rat.neg_mul] using this
 ·have e1:(true != true)=false:=rfl;have:=((Nf h h0 hp).neg).pw e;simpa only [e1,Bool.false_eq_true,if_false,if_true,sq,Rat.neg_mul] using this
end Go.Proofs.YtabjjdicffcolaaGreatDoor
