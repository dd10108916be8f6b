/- Words and contracts, part 2. -/
import Derived.Test.YtabjjdicffcolaaGreatDoorClaimJfrontp00
set_option maxRecDepth 100000
set_option maxHeartbeats 0
namespace Go.Proofs.YtabjjdicffcolaaGreatDoor
variable {xs:List Nat}
def Ba (xs:List Nat) (i:Nat):Nat:=xs.getD i 0
def Bq:List Nat->Nat
 | []=>0
 | x::xs=>x+18446744073709551616*Bq xs
def Small (xs:List Nat):Prop:=∀ x∈xs,x<18446744073709551616
def Al (n:Nat):List Nat:=if _h:n=0 then [] else (n%18446744073709551616)::Al (n/18446744073709551616)
termination_by n
decreasing_by exact Nat.div_lt_self (by omega) (by decide)
theorem Be:Al 0=[]:=by rw [Al];simp
theorem D7 (n:Nat)(h:n≠0):Al n=(n%18446744073709551616)::Al (n/18446744073709551616):=by rw [Al];simp [h]
theorem Cq (n:Nat):Bq (Al n)=n:=by
 induction n using Nat.strongRecOn with
 | _ n ih =>
   by_cases h:n=0
   ·subst h;rw [Be];rfl
   ·rw [D7 n h,Bq,ih (n/18446744073709551616) (Nat.div_lt_self (by omega) (by decide))];exact Nat.mod_add_div n 18446744073709551616
theorem Hv (n:Nat):Small (Al n):=by
 induction n using Nat.strongRecOn with
 | _ n ih =>
   by_cases h:n=0
   ·subst h;rw [Be];intro x hx;cases hx
   ·rw [D7 n h];intro x hx;rcases List.mem_cons.1 hx with rfl | hx
    ·exact Nat.mod_lt _ (by decide)
    ·exact ih (n/18446744073709551616) (Nat.div_lt_self (by omega) (by decide)) x hx
def Ju (xs:List Nat):Nat->Nat
 | 0=>0
 | k+1=>if Ba xs k=0 then Ju xs k else k+1
def tl (xs:List Nat):Nat:=Ju xs xs.length
theorem bS (xs:List Nat):∀ k,Ju xs k<=k
 | 0=>Aq _
 | k + 1 => by
   unfold Ju;split
   ·exact Nat.le_succ_of_le (bS xs k)
   ·exact Aq _
theorem oR (xs:List Nat):tl xs<=xs.length:=bS xs _
theorem Je (x:Nat)(xs:List Nat)(i:Nat):Ba (x::xs) (i+1)=Ba xs i:=rfl
theorem Cc (h:Small xs)(i:Nat):Ba xs i<18446744073709551616:=by
 unfold Ba;by_cases hi:i<xs.length
 ·rw [Da,Cd hi];exact h _ (List.getElem_mem hi)
 ·rw [Da,List.getElem?_eq_none (by omega)];decide
theorem V0 (x:Nat)(xs:List Nat):∀ k,Ju (x::xs) (k+1)=if Ju xs k=0 then (if x=0 then 0 else 1) else Ju xs k+1
 | 0=>by simp [Ju,Ba]
 | k + 1 => by
   rw [Ju,Je,V0 x xs k,Ju];by_cases h:Ba xs k=0
   ·simp [h]
   ·simp [h]
theorem Zg (xs:List Nat)(h:Small xs):xs.take (tl xs)=Al (Bq xs):=by
 induction xs with
 | nil=>simp [tl,Ju,Bq,Be]
 | cons x xs ih =>
   have hx:x<18446744073709551616:=h x (List.mem_cons_self);have hs:Small xs:=λy hy=>h y (List.mem_cons_of_mem _ hy)
   have ih':=ih hs;have ht:tl (x::xs)=if tl xs=0 then (if x=0 then 0 else 1) else tl xs+1:=V0 x xs xs.length
   have hv:tl xs=0↔Bq xs=0:=by
    constructor
    ·intro h0;rw [h0] at ih';have:=Cq (Bq xs);rw [<-ih'] at this;simpa [Bq] using this.symm
    ·intro h0;rw [h0,Be] at ih';have h1:=congrArg List.length ih';have h2:=oR xs;rw [List.length_take,List.length_nil] at h1;omega
   by_cases h0:Bq xs=0
   ·rw [ht,Ak (hv.2 h0)];by_cases hx0:x=0
    ·simp [hx0,Bq,h0,Be]
    ·rw [Af hx0,Bq,h0];have e1:(x+18446744073709551616*0)%18446744073709551616=x:=by omega
     have e2:(x+18446744073709551616*0)/18446744073709551616=0:=by omega
     rw [D7 _ (by omega),e1,e2,Be];simp
   ·rw [ht,Af (fun h=>h0 (hv.1 h)),List.take_succ_cons,ih',Bq];rw [D7 (x+18446744073709551616*Bq xs) (by omega)];have e1:(x+18446744073709551616*Bq xs)%18446744073709551616=x:=by omega
    have e2:(x+18446744073709551616*Bq xs)/18446744073709551616=Bq xs:=by omega
    rw [e1,e2]
def Wk (xs:List Nat):Bool:=xs.length==0||(decide (xs.length<=64)&&Ba xs (xs.length-1) != 0)
def Fx (n m:Nat):Int:=if n<m then -1 else if n=m then 0 else 1
def Mx (xs ys:List Nat):Nat->Int
 | 0=>0
 | k+1=>if Ba xs k=Ba ys k then Mx xs ys k else if Ba xs k<Ba ys k then -1 else 1
theorem Ex (xs ys:List Nat):Bq (xs++ys)=Bq xs+18446744073709551616^xs.length*Bq ys:=by
 induction xs with
 | nil=>simp [Bq]
 | cons x xs ih =>
   rw [List.cons_append,Bq,ih,Bq,List.length_cons,Nat.pow_succ];generalize 18446744073709551616^xs.length=p;rw [Nat.mul_add,Nat.add_assoc]
   congr 2
   rw [<-Nat.mul_assoc,Nat.mul_comm p]
theorem G8 (xs:List Nat)(h:Small xs):Bq xs<18446744073709551616^xs.length:=by
 induction xs with
 | nil=>simp [Bq]
 | cons x xs ih =>
   have hx:x<18446744073709551616:=h x (List.mem_cons_self);have:=ih (λy hy=>h y (List.mem_cons_of_mem _ hy));rw [Bq,List.length_cons,Nat.pow_succ];generalize 18446744073709551616^xs.length=p at *;omega
theorem F5 (h:Small xs)(k:Nat):Small (xs.take k):=λx hx=>h x (List.mem_of_mem_take hx)
theorem Nl (h:Small xs)(k:Nat):Small (xs.drop k):=λx hx=>h x (List.mem_of_mem_drop hx)
theorem Wp (xs:List Nat)(k:Nat)(h:k<xs.length):xs.take (k+1)=xs.take k++[Ba xs k]:=by
 rw [List.take_succ_eq_append_getElem h,Ba,Da,Cd h];rfl
theorem Co (xs:List Nat)(k:Nat)(h:k<xs.length):Bq (xs.take (k+1))=Bq (xs.take k)+18446744073709551616^k*Ba xs k:=by
 rw [Wp xs k h,Ex,List.length_take,Nat.min_eq_left (by omega)];simp [Bq]
theorem Ub (xs ys:List Nat)(hx:Small xs)(hy:Small ys):∀ k,k<=xs.length->k<=ys.length->Mx xs ys k=Fx (Bq (xs.take k)) (Bq (ys.take k))
 | 0,_,_=>by simp [Mx,Fx]
 | k + 1, h1, h2 => by
   have ih:=Ub xs ys hx hy k (by omega) (by omega);rw [Mx,Co xs k (by omega),Co ys k (by omega),ih];have a:=G8 _ (F5 hx k);have b:=G8 _ (F5 hy k);rw [List.length_take,Nat.min_eq_left (by omega)] at a b;generalize 18446744073709551616^k=p at *;generalize Bq (xs.take k)=u at *;generalize Bq (ys.take k)=v at *;generalize Ba xs k=x;generalize Ba ys k=y;by_cases e:x=y
   ·subst e;rw [Ak rfl];unfold Fx;simp only [Nat.add_lt_add_iff_right,Nat.add_right_cancel_iff]
   ·rw [Af e];by_cases l:x<y
    ·rw [Ak l];have:p*(x+1)<=p*y:=Nat.mul_le_mul_left _ l;rw [Nat.mul_add] at this;unfold Fx;rw [Ak (by omega)]
    ·rw [Af l];have:p*(y+1)<=p*x:=Nat.mul_le_mul_left _ (by omega);rw [Nat.mul_add] at this;unfold Fx;rw [Af (by omega),Af (by omega)]
theorem Di (n:Nat):n<18446744073709551616^(Al n).length:=by
 have:=G8 _ (Hv n);rwa [Cq] at this
theorem L3 (n:Nat)(h:n≠0):18446744073709551616^((Al n).length-1)<=n:=by
 induction n using Nat.strongRecOn with
 | _ n ih =>
   rw [D7 n h,List.length_cons,Nat.add_sub_cancel];by_cases h1:n/18446744073709551616=0
   ·rw [h1,Be];simp;omega
   ·have:=ih _ (Nat.div_lt_self (by omega) (by decide)) h1;have hl:0<(Al (n/18446744073709551616)).length:=by rw [D7 _ h1];simp
    obtain ⟨l,hl⟩:∃ l,(Al (n/18446744073709551616)).length=l+1:=⟨_,(Nat.succ_pred_eq_of_pos hl).symm⟩;rw [hl] at this ⊢;rw [Nat.add_sub_cancel] at this;rw [Nat.pow_succ];generalize 18446744073709551616^l=p at *;omega
theorem Lf (n m:Nat)(h:(Al n).length<(Al m).length):n<m:=by
 have a:=Di n;have hm:m≠0:=by rintro rfl;rw [Be] at h;simp at h
 have b:=L3 m hm;have c:18446744073709551616^(Al n).length<=18446744073709551616^((Al m).length-1):=Ee (by decide) (by omega);omega
theorem Yc (n m:Nat)(h:(Al n).length=(Al m).length):Mx (Al n) (Al m) (Al n).length=Fx n m:=by
 rw [Ub _ _ (Hv n) (Hv m) _ (Aq _) (by omega),Fq (Aq _),Fq (by omega),Cq,Cq]
theorem M7 (n:Nat)(h:n≠0):Ba (Al n) ((Al n).length-1)≠0:=by
 induction n using Nat.strongRecOn with
 | _ n ih =>
   rw [D7 n h,List.length_cons,Nat.add_sub_cancel];by_cases h1:n/18446744073709551616=0
   ·rw [h1,Be];simp [Ba];omega
   ·have hl:0<(Al (n/18446744073709551616)).length:=by rw [D7 _ h1];simp
    have:=ih _ (Nat.div_lt_self (by omega) (by decide)) h1;obtain ⟨l,hl⟩:∃ l,(Al (n/18446744073709551616)).length=l+1:=⟨_,(Nat.succ_pred_eq_of_pos hl).symm⟩;rw [hl] at this ⊢;rw [Je];exact this
theorem Br (n:Nat)(h:n≠0):0<(Al n).length:=by rw [D7 n h];simp
def bl (n:Nat):Nat:=if n=0 then 0 else Nat.log2 n+1
theorem Hi:bl 0=0:=rfl
theorem Bm (n:Nat):n<2^bl n:=by
 unfold bl;split
 ·omega
 ·exact Nat.lt_log2_self
theorem D9 (n:Nat)(h:n≠0):2^(bl n-1)<=n:=by
 unfold bl;rw [Af h,Nat.add_sub_cancel];exact Nat.log2_self_le h
theorem Df (n:Nat)(h:n≠0):0<bl n:=by unfold bl;rw [Af h];omega
theorem Gl (n k:Nat)(h:n<2^k):bl n<=k:=by
 by_cases h0:n=0
 ·subst h0;exact Nat.zero_le _
 ·have:=D9 n h0;have p:=Df n h0;by_cases hk:bl n≤k
  ·exact hk
  ·have:2^k<=2^(bl n-1):=Ee (by decide) (by omega);omega
theorem jE (n k:Nat)(h:2^k<=n):k<bl n:=by
 by_cases hk:k<bl n
 ·exact hk
 ·have:2^bl n<=2^k:=Ee (by decide) (by omega);have:=Bm n;omega
theorem i9 (n k:Nat)(h1:2^k<=n)(h2:n<2^(k+1)):bl n=k+1:=by
 have:=Gl n _ h2;have:=jE n _ h1;omega
theorem Qx (n:Nat)(h:n<18446744073709551616):bl n<=64:=Gl n 64 h
theorem Ka {n m:Nat}(h:n<=m):bl n<=bl m:=Gl n _ (Nat.lt_of_le_of_lt h (Bm m))
theorem Iu (n k:Nat)(h:n≠0):bl (n*2^k)=bl n+k:=by
 obtain ⟨l,hl⟩:∃ l,bl n=l+1:=⟨bl n-1,by have:=Df n h;omega⟩;have a:=D9 n h;have b:=Bm n;rw [hl] at a b ⊢;rw [Nat.add_sub_cancel] at a;have:=i9 (n*2^k) (l+k) (by rw [Nat.pow_add];exact Fh _ a) (by rw [show l+k+1=(l+1)+k by omega,Nat.pow_add];exact Nat.mul_lt_mul_of_pos_right b (Nat.pow_pos (by decide)));omega
theorem cE     (n : Nat) (h : n ≠ 0) : bl n = 64 * ((Al    n).length - 1) + bl (Ba  (Al    n) ((Al    n).length - 1)) := by
 induction n using Nat.strongRecOn with
 | _ n ih =>
   rw [D7 n h,List.length_cons,Nat.add_sub_cancel];by_cases h1:n/18446744073709551616=0
   ·rw [h1,Be];have:n%18446744073709551616=n:=by omega
    simp [Ba,this]
   ·have hl:0<(Al (n/18446744073709551616)).length:=by rw [D7 _ h1];simp
    have IH:=ih _ (Nat.div_lt_self (by omega) (by decide)) h1;obtain ⟨l,hl⟩:∃ l,(Al (n/18446744073709551616)).length=l+1:=⟨_,(Nat.succ_pred_eq_of_pos hl).symm⟩;rw [hl,Nat.add_sub_cancel] at IH;rw [hl,Je];have key:bl n=bl (n/18446744073709551616)+64:=by
     obtain ⟨q,hq⟩:∃ q,bl (n/18446744073709551616)=q+1:=⟨bl (n/18446744073709551616)-1,by have:=Df _ h1;omega⟩;have a:=D9 _ h1;have b:=Bm (n/18446744073709551616);rw [hq] at a b ⊢;rw [Nat.add_sub_cancel] at a
     have := i9    n (q + 64) (by rw [Nat.pow_add]; have : (2:Nat) ^ 64 = 18446744073709551616 := by decide
                                  rw [this]; omega) (by rw [show q + 64 + 1 = (q + 1) + 64 by omega, Nat.pow_add]; have : (2:Nat) ^ 64 = 18446744073709551616 := by decide
                                                        rw [this];omega)
     omega
    omega
def rY:Nat->Nat->Nat
 | 0,_=>0
 | f+1,n=>if n%2=1 then 0 else rY f (n/2)+1
def tz (n:Nat):Nat:=rY (bl n) n
theorem V6:∀ (f n:Nat),n≠0->n<2^f->2^rY f n ∣ n/\n/2^rY f n%2=1
 | 0,n,h,hf=>by simp at hf;omega
 | f + 1, n, h, hf => by
   rw [rY];by_cases e:n%2=1
   ·rw [Ak e];simp [e]
   ·rw [Af e];have hh:n/2≠0:=by omega
    obtain ⟨a,b⟩:=V6 f (n/2) hh (by rw [Nat.pow_succ] at hf;omega);obtain ⟨q,hq⟩:=a;refine ⟨⟨q,by rw [Nat.pow_succ,Nat.mul_right_comm,<-hq];omega⟩,?_⟩;rw [Nat.pow_succ,Nat.mul_comm,<-Nat.div_div_eq_div_mul];exact b
theorem Zj (n:Nat)(h:n≠0):2^tz n ∣ n:=(V6 _ n h (Bm n)).1
theorem Wa (n:Nat)(h:n≠0):n/2^tz n%2=1:=(V6 _ n h (Bm n)).2
theorem V7 (n:Nat)(h:n≠0):n/2^tz n*2^tz n=n:=Nat.div_mul_cancel (Zj n h)
theorem Kw {a b x y:Nat}(hx:x%2=1)(hy:y%2=1)(h:x*2^a=y*2^b):a=b/\x=y:=by
 have key:∀ {a b x y:Nat},x%2=1->x*2^a=y*2^b->b<=a:=by
  intro a b x y hx h;by_cases hab:b<=a
  ·exact hab
  ·obtain ⟨d,rfl⟩:∃ d,b=a+(d+1):=⟨b-a-1,by omega⟩;rw [Nat.pow_add,<-Nat.mul_assoc,Nat.mul_right_comm] at h;have:=Nat.eq_of_mul_eq_mul_right (Nat.pow_pos (by decide)) h;rw [Nat.pow_succ,<-Nat.mul_assoc] at this;omega
 have e:a=b:=Nat.le_antisymm (key hy h.symm) (key hx h);subst e;exact ⟨rfl,Nat.eq_of_mul_eq_mul_right (Nat.pow_pos (by decide)) h⟩
theorem I9 (n k q:Nat)(hq:q%2=1)(h:n=q*2^k):tz n=k:=by
 have hn:n≠0:=by
  rintro rfl;have:0<q*2^k:=Nat.mul_pos (by omega) (Nat.pow_pos (by decide));omega
 exact (Kw (Wa n hn) hq ((V7 n hn).trans h)).1
def oS:List Nat->Nat
 | []=>0
 | x::xs=>if x=0 then 64+oS xs else tz x
theorem ik (n:Nat)(h:n≠0):oS (Al n)=tz n:=by
 induction n using Nat.strongRecOn with
 | _ n ih =>
   rw [D7 n h,oS];have p:(2:Nat)^64=18446744073709551616:=by decide
   by_cases hx:n%18446744073709551616=0
   ·rw [Ak hx];have h1:n/18446744073709551616≠0:=by omega
    rw [ih _ (Nat.div_lt_self (by omega) (by decide)) h1];have a:=Wa _ h1;have b:=V7 _ h1;refine (I9 n _ _ a ?_).symm;rw [Nat.add_comm,Nat.pow_add,<-Nat.mul_assoc,b,p];omega
   ·rw [Af hx];have a:=Wa _ hx;have b:=V7 _ hx;have c:tz (n%18446744073709551616)<64:=by
     by_cases hc:tz (n%18446744073709551616)<64
     ·exact hc
     ·have d:=Zj _ hx;have:=Nat.le_of_dvd (by omega) d;have e:2^64<=2^tz (n%18446744073709551616):=Ee (by decide) (by omega);omega
    obtain ⟨d,hd⟩:∃ d,64=tz (n%18446744073709551616)+(d+1):=⟨64-tz (n%18446744073709551616)-1,by omega⟩;refine (I9 n _ (n%18446744073709551616/2^tz (n%18446744073709551616)+2^(d+1)*(n/18446744073709551616)) ?_ ?_).symm
    ·rw [Nat.pow_succ,Nat.mul_comm (2^d) 2,Nat.mul_assoc];omega
    ·rw [Nat.add_mul,b,Nat.mul_right_comm,<-Nat.pow_add,Nat.add_comm (d+1),<-hd,p];omega
theorem af (xs:List Nat)(k:Nat)(h:k<xs.length):xs.drop k=Ba xs k::xs.drop (k+1):=by
 rw [List.drop_eq_getElem_cons h,Ba,Da,Cd h];rfl
theorem lv (xs:List Nat)(k:Nat)(h:k<xs.length):oS (xs.drop k)=if Ba xs k=0 then 64+oS (xs.drop (k+1)) else tz (Ba xs k):=by
 rw [af xs k h,oS]
theorem O0 (n k:Nat)(h:n≠0)(hk:n<2^k):tz n<k:=by
 have:=Nat.le_of_dvd (Nat.pos_of_ne_zero h) (Zj n h);exact (Nat.pow_lt_pow_iff_right (by decide)).1 (Nat.lt_of_le_of_lt this hk)
end Go.Proofs.YtabjjdicffcolaaGreatDoor
namespace Go.Proofs.YtabjjdicffcolaaGreatDoor
theorem Kh (xs:List Nat)(i j y:Nat)(hi:i<xs.length):Ba (xs.set i y) j=if i=j then y else Ba xs j:=by
 unfold Ba;rw [Da,Da,List.getElem?_set];by_cases e:i=j
 ·subst e;simp [hi]
 ·simp [e]
theorem Sd (xs:List Nat)(i:Nat)(h:xs.length<=i):Ba xs i=0:=by
 unfold Ba;rw [Da,List.getElem?_eq_none h];rfl
theorem Hl (xs:List Nat)(i y:Nat)(hi:i<xs.length):Bq (xs.set i y)+18446744073709551616^i*Ba xs i=Bq xs+18446744073709551616^i*y:=by
 induction xs generalizing i with
 | nil=>simp at hi
 | cons x xs ih =>
   cases i with
   | zero=>simp [Bq,Ba];omega
   | succ i =>
     have:=ih i (by simpa using hi);rw [List.set_cons_succ,Bq,Bq,Je,Nat.pow_succ];generalize 18446744073709551616^i=p at *;generalize Bq (xs.set i y)=a at *;generalize Bq xs=b at *;generalize Ba xs i=c at *;have e1:p*18446744073709551616*c=18446744073709551616*(p*c):=by rw [Nat.mul_right_comm,Nat.mul_comm]
     have e2:p*18446744073709551616*y=18446744073709551616*(p*y):=by rw [Nat.mul_right_comm,Nat.mul_comm]
     rw [e1,e2];omega
theorem Ef {xs:List Nat}(h:Small xs)(i y:Nat)(hy:y<18446744073709551616):Small (xs.set i y):=by
 intro x hx;rcases List.mem_or_eq_of_mem_set hx with h' | rfl
 ·exact h x h'
 ·exact hy
theorem E5 (n:Nat):Small (List.replicate n 0):=by
 intro x hx;rw [(List.mem_replicate.1 hx).2];decide
theorem Hh (n:Nat):Bq (List.replicate n 0)=0:=by
 induction n with
 | zero=>rfl
 | succ n ih=>rw [List.replicate_succ,Bq,ih]
theorem Ga (n i:Nat):Ba (List.replicate n 0) i=0:=by
 unfold Ba;rw [Da,List.getElem?_replicate];split<;>rfl
theorem kh {a b:Nat}(ha:a<18446744073709551616)(hb:b<18446744073709551616):a ||| b<18446744073709551616:=Nat.or_lt_two_pow (n:=64) ha hb
def Mc (out:List Nat) (q r i x:Nat):List Nat :=
 (out.set (q+i) (Ba out (q+i) ||| (x*2^r%18446744073709551616))).set (q+i+1) (Ba out (q+i+1) ||| (x/2/2^(63-r)))
def Gs (xs:List Nat) (q r n:Nat):Nat->List Nat
 | 0=>List.replicate n 0
 | k+1=>Mc (Gs xs q r n k) q r k (Ba xs k)
theorem M6 (xs:List Nat)(q r n:Nat):∀ k,(Gs xs q r n k).length=n
 | 0=>by simp [Gs]
 | k+1=>by simp [Gs,Mc,M6 xs q r n k]
theorem St (xs:List Nat)(h:Small xs)(q r n:Nat):∀ k,Small (Gs xs q r n k)
 | 0=>E5 n
 | k + 1 => by
   have ih:=St xs h q r n k;unfold Gs Mc;refine Ef (Ef ih _ _ (kh (Cc ih _) (Nat.mod_lt _ (by decide)))) _ _ (kh (Cc ih _) ?_);refine Nat.lt_of_le_of_lt (Nat.div_le_self _ _) (Nat.lt_of_le_of_lt (Nat.div_le_self _ _) (Cc h _))
theorem bC (x r:Nat)(hr:r<64):x/2/2^(63-r)=x*2^r/18446744073709551616:=by
 rw [Nat.div_div_eq_div_mul];have e:(18446744073709551616:Nat)=2*2^(63-r)*2^r:=by
  rw [Nat.mul_assoc,<-Nat.pow_add,show 63-r+r=63 by omega]
 rw [e,Nat.mul_div_mul_right _ _ (Nat.pow_pos (by decide))]
theorem kg (c x r:Nat)(hr:r<64)(hc:c<2^r):c ||| (x*2^r%18446744073709551616)=c+x*2^r%18446744073709551616:=by
 have e:(18446744073709551616:Nat)=2^(64-r)*2^r:=by
  rw [<-Nat.pow_add,show 64-r+r=64 by omega]
 rw [e,Nat.mul_mod_mul_right,Nat.mul_comm,Nat.or_comm,<-Nat.two_pow_add_eq_or_of_lt hc,Nat.add_comm]
theorem Xd (xs:List Nat)(h:Small xs)(q r n:Nat)(hr:r<64)(hn:n=q+xs.length+1):∀ k,k<=xs.length ->
 Bq (Gs xs q r n k)=Bq (xs.take k)*2^r*18446744073709551616^q/\Ba (Gs xs q r n k) (q+k)<2^r/\∀ j,q+k<j->Ba (Gs xs q r n k) j=0
 | 0, _ => by
   refine ⟨by simp [Gs,Hh,Bq],?_,λj _=>?_⟩
   ·rw [Gs,Ga];exact Nat.pow_pos (by decide)
   ·rw [Gs,Ga]
 | k + 1, hk => by
   obtain ⟨i1,i2,i3⟩:=Xd xs h q r n hr hn k (by omega);have hl:=M6 xs q r n k;have hx:=Cc h k;rw [Gs];generalize Gs xs q r n k=out at *;unfold Mc;have h0:=i3 (q+k+1) (by omega);rw [h0,Nat.zero_or,bC _ r hr,kg _ _ r hr i2];have hx2:Ba xs k*2^r/18446744073709551616<2^r:=by
    rw [Nat.div_lt_iff_lt_mul (by decide),Nat.mul_comm (2^r)];exact Nat.mul_lt_mul_of_pos_right hx (Nat.pow_pos (by decide))
   generalize hX:Ba xs k*2^r=X at *;have l1:q+k<out.length:=by omega
   have l2:q+k+1<(out.set (q+k) (Ba out (q+k)+X%18446744073709551616)).length:=by rw [List.length_set];omega
   refine ⟨?_,?_,λj hj=>?_⟩
   ·have v1:=Hl out (q+k) (Ba out (q+k)+X%18446744073709551616) l1;have v2:=Hl _ (q+k+1) (X/18446744073709551616) l2;rw [Kh _ _ _ _ l1,Af (by omega),h0] at v2;rw [Co xs k (by omega),Nat.add_mul,Nat.add_mul,←i1,Nat.mul_assoc (18446744073709551616^k),hX];rw [Nat.pow_succ] at v2;have e3:18446744073709551616^k*X*18446744073709551616^q=18446744073709551616^(q+k)*X:=by rw [Nat.mul_right_comm,←Nat.pow_add,Nat.add_comm k q]
    rw [e3];have e4:18446744073709551616^(q+k)*X=18446744073709551616^(q+k)*18446744073709551616*(X/18446744073709551616)+18446744073709551616^(q+k)*(X%18446744073709551616):=by
     rw [Nat.mul_assoc,<-Nat.mul_add,Nat.div_add_mod]
    rw [e4];rw [Nat.mul_add] at v1;generalize 18446744073709551616^(q+k)*18446744073709551616*(X/18446744073709551616)=a at *;generalize 18446744073709551616^(q+k)*(X%18446744073709551616)=b at *;generalize 18446744073709551616^(q+k)*Ba out (q+k)=c at *;omega
   ·rw [<-Nat.add_assoc,Kh _ _ _ _ l2,Ak rfl];exact hx2
   ·rw [Kh _ _ _ _ l2,Af (by omega),Kh _ _ _ _ l1,Af (by omega)];exact i3 j (by omega)
theorem L6 (n:Nat):2^n=2^(n%64)*18446744073709551616^(n/64):=by
 have e:(18446744073709551616:Nat)=2^64:=by decide
 rw [e,<-Nat.pow_mul,<-Nat.pow_add,Nat.mod_add_div]
theorem fZ (xs:List Nat)(h:Small xs)(n:Nat):Bq (Gs xs (n/64) (n%64) (n/64+xs.length+1) xs.length)=Bq xs*2^n:=by
 have:=(Xd xs h (n/64) (n%64) _ (Nat.mod_lt _ (by decide)) rfl xs.length (Aq _)).1;rw [this,Fq (Aq _),Nat.mul_assoc,<-L6]
def Ej (out ys:List Nat):Nat->List Nat × Nat
 | 0=>(out,0)
 | k + 1 => let s := Ej   out ys k
   (s.1.set k ((Ba s.1 k+Ba ys k+s.2)%18446744073709551616),(Ba s.1 k+Ba ys k+s.2)/18446744073709551616)
theorem Ir (out ys:List Nat)(k:Nat):Ej out ys (k+1)=((Ej out ys k).1.set k ((Ba (Ej out ys k).1 k+Ba ys k+(Ej out ys k).2)%18446744073709551616),(Ba (Ej out ys k).1 k+Ba ys k+(Ej out ys k).2)/18446744073709551616):=rfl
theorem Gj (out ys:List Nat):∀ k,(Ej out ys k).1.length=out.length
 | 0=>rfl
 | k+1=>by rw [Ir,List.length_set,Gj out ys k]
theorem Ho (out ys:List Nat)(h:Small out):∀ k,Small (Ej out ys k).1
 | 0=>h
 | k+1=>by rw [Ir];exact Ef (Ho out ys h k) _ _ (Nat.mod_lt _ (by decide))
theorem Ms (out ys:List Nat)(h:Small out)(h':Small ys):∀ k,(Ej out ys k).2<=1
 | 0=>by simp [Ej]
 | k + 1 => by
   have a:=Ms out ys h h' k;have b:=Cc (Ho out ys h k) k;have c:=Cc h' k;rw [Ir]
   show (Ba (Ej out ys k).1 k+Ba ys k+(Ej out ys k).2)/18446744073709551616<=1
   omega
theorem Ij (xs:List Nat)(k:Nat):Bq (xs.take (k+1))=Bq (xs.take k)+18446744073709551616^k*Ba xs k:=by
 by_cases h:k<xs.length
 ·exact Co xs k h
 ·rw [Fq (by omega),Fq (by omega),Sd xs k (by omega)];rfl
theorem Ty (out ys:List Nat):∀ k,k<=out.length->Bq (Ej out ys k).1+18446744073709551616^k*(Ej out ys k).2=Bq out+Bq (ys.take k)
 | 0,_=>by simp [Ej,Bq]
 | k + 1, hk => by
   have ih:=Ty out ys k (by omega);have hl:=Gj out ys k;rw [Ir,Ij];generalize Ej out ys k=s at *;obtain ⟨o,c⟩:=s;simp only at *;generalize hT:Ba o k+Ba ys k+c=T;have v:=Hl o k (T%18446744073709551616) (by omega);have e:18446744073709551616^(k+1)*(T/18446744073709551616)+18446744073709551616^k*(T%18446744073709551616)=18446744073709551616^k*T:=by
    rw [Nat.pow_succ,Nat.mul_assoc,<-Nat.mul_add,Nat.div_add_mod]
   have e2:18446744073709551616^k*T=18446744073709551616^k*Ba o k+18446744073709551616^k*Ba ys k+18446744073709551616^k*c:=by
    rw [<-hT,Nat.mul_add,Nat.mul_add]
   omega
theorem Wu (out ys:List Nat)(h:Small out)(k:Nat)(hy:ys.length<=k)(hc:(Ej out ys k).2=0):∀ d,k+d<=out.length->Ej out ys (k+d)=((Ej out ys k).1,0)
 | 0,_=>by rw [Nat.add_zero,<-hc]
 | d + 1, hd => by
   have ih:=Wu out ys h k hy hc d (by omega);have hlt:=Cc (Ho out ys h k) (k+d);have hl:=Gj out ys k;rw [<-Nat.add_assoc,Ir,ih,Sd ys (k+d) (by omega)];simp only [Nat.add_zero];rw [Nat.mod_eq_of_lt hlt,Nat.div_eq_of_lt hlt]
   congr 1
   apply List.ext_getElem
   ·simp
   ·intro i h1 h2;rw [List.getElem_set];split
    ·rename_i e;subst e;rw [Ba,Da,Cd h2];rfl
    ·rfl
theorem Zn (xs ys:List Nat)(h:Small xs)(h':Small ys)(hle:ys.length<=xs.length):Bq (Ej (xs++[0]) ys (xs.length+1)).1=Bq xs+Bq ys:=by
 have hs:Small (xs++[0]):=by
  intro x hx;rcases List.mem_append.1 hx with hx | hx
  ·exact h x hx
  ·have:x=0:=by simpa using hx
   omega
 have a:=Ty (xs++[0]) ys (xs.length+1) (by simp);rw [Fq (by omega),Ex,Nat.pow_succ] at a;have b:=G8 _ h;have c:=G8 _ h';have d:18446744073709551616^ys.length<=18446744073709551616^xs.length:=Ee (by decide) hle;have e:Bq [0]=0:=by simp [Bq]
 rw [e,Nat.mul_zero,Nat.add_zero] at a;generalize (Ej (xs++[0]) ys (xs.length+1)).2=q at *;generalize (Ej (xs++[0]) ys (xs.length+1)).1=o at *;generalize 18446744073709551616^xs.length=p at *;generalize 18446744073709551616^ys.length=p' at *;have hq:q=0:=by
  by_cases hq:q=0
  ·exact hq
  ·have:p*18446744073709551616*1<=p*18446744073709551616*q:=Nat.mul_le_mul_left _ (by omega);omega
 rw [hq,Nat.mul_zero,Nat.add_zero] at a;exact a
end Go.Proofs.YtabjjdicffcolaaGreatDoor
namespace Go.Proofs.YtabjjdicffcolaaGreatDoor
def Lc (out ys:List Nat):Nat->List Nat × Nat
 | 0=>(out,0)
 | k + 1 => let s := Lc   out ys k
   (s.1.set k ((Ba s.1 k+18446744073709551616-Ba ys k-s.2)%18446744073709551616),if Ba s.1 k<Ba ys k+s.2 then 1 else 0)
theorem Mp (out ys:List Nat)(k:Nat):Lc out ys (k+1)=((Lc out ys k).1.set k ((Ba (Lc out ys k).1 k+18446744073709551616-Ba ys k-(Lc out ys k).2)%18446744073709551616),if Ba (Lc out ys k).1 k<Ba ys k+(Lc out ys k).2 then 1 else 0):=rfl
theorem Lr (out ys:List Nat):∀ k,(Lc out ys k).1.length=out.length
 | 0=>rfl
 | k+1=>by rw [Mp,List.length_set,Lr out ys k]
theorem No (out ys:List Nat)(h:Small out):∀ k,Small (Lc out ys k).1
 | 0=>h
 | k+1=>by rw [Mp];exact Ef (No out ys h k) _ _ (Nat.mod_lt _ (by decide))
theorem Oy (out ys:List Nat):∀ k,(Lc out ys k).2<=1
 | 0=>by simp [Lc]
 | k + 1 => by
   rw [Mp]
   show (if _ then 1 else 0)<=1
   split<;>omega
theorem bO (out ys:List Nat)(h:Small out)(h':Small ys):∀ k,k<=out.length->Bq (Lc out ys k).1+Bq (ys.take k)=Bq out+18446744073709551616^k*(Lc out ys k).2
 | 0,_=>by simp [Lc,Bq]
 | k + 1, hk => by
   have ih:=bO out ys h h' k (by omega);have hl:=Lr out ys k;have hx:=Cc (No out ys h k) k;have hy:=Cc h' k;have hb:=Oy out ys k;rw [Mp,Ij,Nat.pow_succ];generalize Lc out ys k=s at *;obtain ⟨o,c⟩:=s;simp only at *;generalize Ba ys k=y at *;have v:=Hl o k ((Ba o k+18446744073709551616-y-c)%18446744073709551616) (by omega);generalize Ba o k=x at *;generalize 18446744073709551616^k=p at *;by_cases hlt:x<y+c
   ·rw [Ak hlt,Nat.mod_eq_of_lt (by omega)] at *;have e:p*(x+18446744073709551616-y-c)+p*y+p*c=p*x+p*18446744073709551616:=by
     rw [<-Nat.mul_add,<-Nat.mul_add,<-Nat.mul_add];congr 1;omega
    rw [Nat.mul_one];omega
   ·have e0:(x+18446744073709551616-y-c)%18446744073709551616=x-y-c:=by omega
    rw [Af hlt];rw [e0] at v ⊢;have e:p*(x-y-c)+p*y+p*c=p*x:=by
     rw [<-Nat.mul_add,<-Nat.mul_add];congr 1;omega
    rw [Nat.mul_zero,Nat.add_zero];omega
theorem kQ (xs ys:List Nat)(h:Small xs)(h':Small ys)(hle:ys.length<=xs.length)(hv:Bq ys<=Bq xs):Bq (Lc xs ys xs.length).1=Bq xs-Bq ys:=by
 have a:=bO xs ys h h' xs.length (Aq _);rw [Fq hle] at a;have b:=G8 _ (No xs ys h xs.length);rw [Lr] at b;have c:=Oy xs ys xs.length;generalize (Lc xs ys xs.length).2=q at *;have hq:q=0:=by
  by_cases hq:q=0
  ·exact hq
  ·obtain rfl:q=1:=by omega
   rw [Nat.mul_one] at a;omega
 rw [hq,Nat.mul_zero,Nat.add_zero] at a;omega
theorem jP (p c z:Nat) :
 (z+(p%18446744073709551616+c)%18446744073709551616)%18446744073709551616=(p+c+z)%18446744073709551616 /\
 p/18446744073709551616+(p%18446744073709551616+c)/18446744073709551616+(z+(p%18446744073709551616+c)%18446744073709551616)/18446744073709551616=(p+c+z)/18446744073709551616:=by
 omega
theorem Pk (x y c z:Nat)(hx:x<18446744073709551616)(hy:y<18446744073709551616)(hc:c<18446744073709551616)(hz:z<18446744073709551616):(x*y+c+z)/18446744073709551616<18446744073709551616:=by
 have:x*y<=18446744073709551615*18446744073709551615:=Nat.mul_le_mul (by omega) (by omega);omega
def Jz (out:List Nat) (i x:Nat) (ys:List Nat):Nat->List Nat × Nat
 | 0=>(out,0)
 | j + 1 => let s := Jz   out i x ys j
   (s.1.set (i+j) ((x*Ba ys j+s.2+Ba s.1 (i+j))%18446744073709551616),(x*Ba ys j+s.2+Ba s.1 (i+j))/18446744073709551616)
theorem Kl (out:List Nat)(i x:Nat)(ys:List Nat)(j:Nat):Jz out i x ys (j+1)=((Jz out i x ys j).1.set (i+j) ((x*Ba ys j+(Jz out i x ys j).2+Ba (Jz out i x ys j).1 (i+j))%18446744073709551616),(x*Ba ys j+(Jz out i x ys j).2+Ba (Jz out i x ys j).1 (i+j))/18446744073709551616):=rfl
theorem Hu (out:List Nat)(i x:Nat)(ys:List Nat):∀ j,(Jz out i x ys j).1.length=out.length
 | 0=>rfl
 | j+1=>by rw [Kl,List.length_set,Hu out i x ys j]
theorem Ni (out:List Nat)(i x:Nat)(ys:List Nat)(h:Small out):∀ j,Small (Jz out i x ys j).1
 | 0=>h
 | j+1=>by rw [Kl];exact Ef (Ni out i x ys h j) _ _ (Nat.mod_lt _ (by decide))
theorem Qq (out:List Nat)(i x:Nat)(ys:List Nat)(h:Small out)(h':Small ys)(hx:x<18446744073709551616):∀ j,(Jz out i x ys j).2<18446744073709551616
 | 0=>by simp [Jz]
 | j + 1 => by
   rw [Kl];exact Pk _ _ _ _ hx (Cc h' j) (Qq out i x ys h h' hx j) (Cc (Ni out i x ys h j) _)
theorem bg (out:List Nat)(i x:Nat)(ys:List Nat):∀ j k,i+j<=k->i+j<=out.length->Ba (Jz out i x ys j).1 k=Ba out k
 | 0,_,_,_=>rfl
 | j + 1, k, h, hk => by
   rw [Kl]
   show Ba ((Jz out i x ys j).1.set (i+j) _) k=_
   rw [Kh _ _ _ _ (by rw [Hu];omega),Af (by omega)];exact bg out i x ys j k (by omega) (by omega)
theorem bi (out:List Nat)(i x:Nat)(ys:List Nat):∀ j,i+j<=out.length ->
 Bq (Jz out i x ys j).1+18446744073709551616^(i+j)*(Jz out i x ys j).2=Bq out+18446744073709551616^i*(x*Bq (ys.take j))
 | 0,_=>by simp [Jz,Bq]
 | j + 1, hj => by
   have ih:=bi out i x ys j (by omega);have hl:=Hu out i x ys j;rw [Kl,Ij,<-Nat.add_assoc,Nat.pow_succ,Nat.mul_add,Nat.mul_add,<-Nat.add_assoc,<-ih];generalize Jz out i x ys j=s at *;obtain ⟨o,c⟩:=s;simp only at *;generalize hT:x*Ba ys j+c+Ba o (i+j)=T;have v:=Hl o (i+j) (T%18446744073709551616) (by omega);have e1:18446744073709551616^i*(x*(18446744073709551616^j*Ba ys j))=18446744073709551616^(i+j)*(x*Ba ys j):=by
    rw [Nat.pow_add,<-Nat.mul_assoc x,Nat.mul_comm x,Nat.mul_assoc,Nat.mul_assoc]
   rw [e1];generalize 18446744073709551616^(i+j)=p at *;have e:p*18446744073709551616*(T/18446744073709551616)+p*(T%18446744073709551616)=p*T:=by
    rw [Nat.mul_assoc,<-Nat.mul_add,Nat.div_add_mod]
   have e2:p*T=p*(x*Ba ys j)+p*c+p*Ba o (i+j):=by rw [<-hT,Nat.mul_add,Nat.mul_add]
   omega
def Oe (xs ys:List Nat) (n:Nat):Nat->List Nat
 | 0=>List.replicate n 0
 | i + 1 => let s := Jz   (Oe   xs ys n i) i (Ba  xs i) ys ys.length
   s.1.set (i+ys.length) s.2
theorem Pj (xs ys:List Nat)(n i:Nat):Oe xs ys n (i+1)=(Jz (Oe xs ys n i) i (Ba xs i) ys ys.length).1.set (i+ys.length) (Jz (Oe xs ys n i) i (Ba xs i) ys ys.length).2:=rfl
theorem Og (xs ys:List Nat)(n:Nat):∀ i,(Oe xs ys n i).length=n
 | 0=>by simp [Oe]
 | i+1=>by rw [Pj,List.length_set,Hu,Og xs ys n i]
theorem Ux (xs ys:List Nat)(n:Nat)(h:Small xs)(h':Small ys):∀ i,Small (Oe xs ys n i)
 | 0=>E5 n
 | i + 1 => by
   have ih:=Ux xs ys n h h' i;rw [Pj];exact Ef (Ni _ _ _ _ ih _) _ _ (Qq _ _ _ _ ih h' (Cc h i) _)
theorem aA (xs ys:List Nat)(h:Small xs)(h':Small ys):∀ i,i<=xs.length ->
 Bq (Oe xs ys (xs.length+ys.length) i)=Bq (xs.take i)*Bq ys/\∀ k,i+ys.length<=k->Ba (Oe xs ys (xs.length+ys.length) i) k=0
 | 0, _ => by
   refine ⟨by simp [Oe,Hh,Bq],λk _=>?_⟩;rw [Oe,Ga]
 | i + 1, hi => by
   obtain ⟨i1,i2⟩:=aA xs ys h h' i (by omega);have hl:=Og xs ys (xs.length+ys.length) i;rw [Pj];generalize Oe xs ys (xs.length+ys.length) i=out at *;have v:=bi out i (Ba xs i) ys ys.length (by omega);have hn:=bg out i (Ba xs i) ys ys.length;have hrl:=Hu out i (Ba xs i) ys ys.length;generalize Jz out i (Ba xs i) ys ys.length=s at *;obtain ⟨o,c⟩:=s;simp only at *;have v2:=Hl o (i+ys.length) c (by omega);rw [hn _ (Aq _) (by omega),i2 _ (Aq _),Nat.mul_zero,Nat.add_zero] at v2;refine ⟨?_,λk hk=>?_⟩
   ·rw [Fq (Aq _)] at v;rw [Co xs i (by omega),Nat.add_mul,<-i1,Nat.mul_assoc,<-v];exact v2
   ·rw [Kh _ _ _ _ (by omega),Af (by omega),hn k (by omega) (by omega),i2 k (by omega)]
theorem jN (xs ys:List Nat)(h:Small xs)(h':Small ys):Bq (Oe xs ys (xs.length+ys.length) xs.length)=Bq xs*Bq ys:=by
 rw [(aA xs ys h h' xs.length (Aq _)).1,Fq (Aq _)]
def Ky (xs:List Nat) (r i:Nat):Nat:=if i+1<xs.length then (Ba xs i/2^r) ||| (Ba xs (i+1)*2%18446744073709551616*2^(63-r)%18446744073709551616) else Ba xs i/2^r
def E2 (xs:List Nat) (r:Nat):Nat->List Nat
 | 0=>List.replicate xs.length 0
 | k+1=>(E2 xs r k).set k (Ky xs r k)
theorem Jg (xs:List Nat)(r:Nat):∀ k,(E2 xs r k).length=xs.length
 | 0=>by simp [E2]
 | k+1=>by rw [E2,List.length_set,Jg xs r k]
theorem gK (xs:List Nat)(h:Small xs)(r i:Nat)(hr:r<64):Ky xs r i=Ba xs i/2^r+Ba xs (i+1)*2^(64-r)%18446744073709551616:=by
 have e64:(18446744073709551616:Nat)=2^(64-r)*2^r:=by
  rw [<-Nat.pow_add,show 64-r+r=64 by omega]
 unfold Ky;by_cases hi:i+1<xs.length
 ·rw [Ak hi];have e1:Ba xs (i+1)*2%18446744073709551616*2^(63-r)%18446744073709551616=Ba xs (i+1)*2^(64-r)%18446744073709551616:=by
   rw [Nat.mod_mul_mod,Nat.mul_assoc,show (64-r)=(63-r)+1 by omega,Nat.pow_succ,Nat.mul_comm 2]
  have e2:Ba xs i/2^r<2^(64-r):=by
   rw [Nat.div_lt_iff_lt_mul (Nat.pow_pos (by decide)),<-e64];exact Cc h i
  rw [e1];have e3:Ba xs (i+1)*2^(64-r)%18446744073709551616=2^(64-r)*(Ba xs (i+1)%2^r):=by
   rw [e64,Nat.mul_comm (Ba xs (i+1)),Nat.mul_mod_mul_left]
  rw [e3,Nat.or_comm,<-Nat.two_pow_add_eq_or_of_lt e2,Nat.add_comm]
 ·rw [Af hi,Sd xs (i+1) (by omega),Nat.zero_mul,Nat.zero_mod,Nat.add_zero]
theorem gL (xs:List Nat)(h:Small xs)(r i:Nat)(_hr:r<64):Ky xs r i<18446744073709551616:=by
 unfold Ky;have a:=Cc h i;have b:Ba xs i/2^r<=Ba xs i:=Nat.div_le_self _ _;split
 ·exact kh (by omega) (Nat.mod_lt _ (by decide))
 ·omega
theorem Rj (xs:List Nat)(h:Small xs)(r:Nat)(hr:r<64):∀ k,Small (E2 xs r k)
 | 0=>E5 _
 | k+1=>Ef (Rj xs h r hr k) _ _ (gL xs h r k hr)
theorem U7 (xs:List Nat)(r:Nat):∀ k j,k<=xs.length->Ba (E2 xs r k) j=if j<k then Ky xs r j else 0
 | 0,j,_=>by rw [E2,Ga,Af (by omega)]
 | k + 1, j, hk => by
   rw [E2,Kh _ _ _ _ (by rw [Jg];omega),U7 xs r k j (by omega)];by_cases e:k=j
   ·subst e;rw [Ak rfl,Ak (by omega)]
   ·rw [Af e];by_cases h2:j<k
    ·rw [Ak h2,Ak (by omega)]
    ·rw [Af h2,Af (by omega)]
theorem U8 (xs:List Nat)(h:Small xs)(r:Nat)(hr:r<64)(o:List Nat)(ho:∀ j,j<xs.length->Ba o j=Ky xs r j):∀ k,k<=xs.length->k<=o.length ->
 Bq (o.take k)*2^r+Ba xs 0%2^r=Bq (xs.take k)+18446744073709551616^k*(Ba xs k%2^r)
 | 0,_,_=>by simp [Bq]
 | k + 1, hk, hk' => by
   have ih:=U8 xs h r hr o ho k (by omega) (by omega);have e64:(18446744073709551616:Nat)=2^(64-r)*2^r:=by
    rw [<-Nat.pow_add,show 64-r+r=64 by omega]
   rw [Co o k (by omega),Co xs k (by omega),ho k (by omega),gK xs h r k hr,Nat.add_mul,Nat.pow_succ];have e3:Ba xs (k+1)*2^(64-r)%18446744073709551616*2^r=18446744073709551616*(Ba xs (k+1)%2^r):=by
    rw [e64,Nat.mul_comm (Ba xs (k+1)),Nat.mul_mod_mul_left,Nat.mul_right_comm]
   have e4:Ba xs k/2^r*2^r+Ba xs k%2^r=Ba xs k:=by rw [Nat.mul_comm];exact Nat.div_add_mod _ _
   generalize 18446744073709551616^k=p at *;have e5:p*(Ba xs k/2^r+Ba xs (k+1)*2^(64-r)%18446744073709551616)*2^r=p*(Ba xs k/2^r*2^r)+p*(18446744073709551616*(Ba xs (k+1)%2^r)):=by
    rw [Nat.mul_assoc,Nat.add_mul,e3,Nat.mul_add]
   rw [e5,<-Nat.mul_assoc p 18446744073709551616];have e6:p*Ba xs k=p*(Ba xs k/2^r*2^r)+p*(Ba xs k%2^r):=by rw [<-Nat.mul_add,e4]
   omega
theorem dF (xs:List Nat)(h:Small xs)(r:Nat)(hr:r<64):Bq (E2 xs r xs.length)=Bq xs/2^r:=by
 have hl:=Jg xs r xs.length;have:=U8 xs h r hr (E2 xs r xs.length) (λj hj=>by rw [U7 xs r _ j (Aq _),Ak hj]) xs.length (Aq _) (by omega);rw [Fq (by omega),Fq (Aq _),Sd xs xs.length (Aq _),Nat.zero_mod,Nat.mul_zero,Nat.add_zero] at this;have hlt:Ba xs 0%2^r<2^r:=Nat.mod_lt _ (Nat.pow_pos (by decide));rw [<-this,Nat.add_comm,Nat.add_mul_div_right _ _ (Nat.pow_pos (by decide)),Nat.div_eq_of_lt hlt,Nat.zero_add]
theorem Wb (xs:List Nat)(h:Small xs)(k:Nat):Bq (xs.drop k)=Bq xs/18446744073709551616^k:=by
 by_cases hk:k<=xs.length
 ·have e:=Ex (xs.take k) (xs.drop k);rw [List.take_append_drop,List.length_take,Nat.min_eq_left hk] at e;have b:=G8 _ (F5 h k);rw [List.length_take,Nat.min_eq_left hk] at b;rw [e,Nat.add_mul_div_left _ _ (Nat.pow_pos (by decide)),Nat.div_eq_of_lt b,Nat.zero_add]
 ·rw [List.drop_eq_nil_of_le (by omega),Nat.div_eq_of_lt]
  ·rfl
  ·exact Dn (G8 _ h) (Ee (by decide) (by omega))
theorem gM (xs:List Nat)(h:Small xs)(n:Nat):Bq (E2 (xs.drop (n/64)) (n%64) (xs.drop (n/64)).length)=Bq xs/2^n:=by
 rw [dF _ (Nl h _) _ (Nat.mod_lt _ (by decide)),Wb xs h,Nat.div_div_eq_div_mul,L6 n,Nat.mul_comm]
end Go.Proofs.YtabjjdicffcolaaGreatDoor
namespace Go.Proofs.YtabjjdicffcolaaGreatDoor
variable {d q r u yn0 yn1:Nat}
structure Gv (u d yn1 yn0 q r:Nat):Prop where
 sum:u=q*yn1+r
 ge:(u*4294967296+d)/(yn1*4294967296+yn0)<=q
theorem M4 (u d yn1 yn0:Nat)(hd:d<4294967296)(h1:0<yn1):Gv u d yn1 yn0 (u/yn1) (u%yn1):=by
 refine ⟨by rw [Nat.mul_comm];exact (Nat.div_add_mod u yn1).symm,?_⟩;have e:(u*4294967296+d)/(yn1*4294967296)=u/yn1:=by
  rw [Nat.mul_comm yn1,<-Nat.div_div_eq_div_mul]
  congr 1
  omega
 rw [<-e];exact Nat.div_le_div_left (by omega) (by omega)
theorem Mb (h:Gv u d yn1 yn0 q r)(h1:0<yn1)(hc:q*yn0<=4294967296*r+d):q=(u*4294967296+d)/(yn1*4294967296+yn0):=by
 refine Nat.le_antisymm ?_ h.ge;rw [Nat.le_div_iff_mul_le (by omega),h.sum,Nat.mul_add,Nat.add_mul,Nat.mul_assoc q yn1,<-Nat.mul_assoc];have:r*4294967296=4294967296*r:=Nat.mul_comm _ _;omega
theorem Hr (h:Gv u d yn1 yn0 q r)(hu:u<yn1*4294967296+yn0)(hd:d<4294967296)(_h1:0<yn1)(hc:4294967296<=q\/4294967296*r+d<q*yn0) :
 1<=q/\Gv u d yn1 yn0 (q-1) (r+yn1):=by
 have key:(u*4294967296+d)/(yn1*4294967296+yn0)<q:=by
  rw [Nat.div_lt_iff_lt_mul (by omega)];rcases hc with hc | hc
  ·have:4294967296*(yn1*4294967296+yn0)<=q*(yn1*4294967296+yn0):=Fh _ hc;omega
  ·rw [h.sum,Nat.mul_add,Nat.add_mul,<-Nat.mul_assoc];have:r*4294967296=4294967296*r:=Nat.mul_comm _ _;omega
 have h1:1<=q:=Nat.lt_of_le_of_lt (Nat.zero_le _) key;refine ⟨h1,?_,Nat.le_sub_one_of_lt key⟩;have hs:=h.sum;clear key hc h;obtain ⟨k,rfl⟩:∃ k,q=k+1:=⟨q-1,by omega⟩;rw [Nat.add_sub_cancel,hs,Nat.add_mul];omega
theorem Gq (h:Gv u d yn1 yn0 q r)(hu:u<yn1*4294967296+yn0)(h0:yn0<4294967296)(h1:0<yn1)(hr:4294967296<=r):q=(u*4294967296+d)/(yn1*4294967296+yn0):=by
 have hq:q<4294967296:=by
  have a:q*yn1<yn1*4294967296:=by have:=h.sum;omega
  rw [Nat.mul_comm] at a;exact Nat.lt_of_mul_lt_mul_left a
 refine Mb h h1 ?_;have:q*yn0<=4294967296*4294967296:=Nat.mul_le_mul (by omega) (by omega);omega
theorem fV (u d Y q:Nat)(hY:Y<18446744073709551616)(h0:0<Y)(hq:q=(u*4294967296+d)/Y) :
 (((u*4294967296:Int)+d)-q*Y)%18446744073709551616=(((u*4294967296+d)%Y:Nat):Int):=by
 have a:=Nat.div_add_mod (u*4294967296+d) Y;rw [<-hq] at a;have b:=Nat.mod_lt (u*4294967296+d) h0;have c:(q:Int)*Y=((Y*q:Nat):Int):=by rw [Int.natCast_mul,Int.mul_comm]
 rw [c];generalize Y*q=p at *;generalize (u*4294967296+d)%Y=t at *;omega
theorem dY (N Y lo hi:Nat)(h0:0<Y)(hN:N=hi*4294967296+lo)(_hl:lo<4294967296) :
 N/Y=hi/Y*4294967296+(hi%Y*4294967296+lo)/Y/\N%Y=(hi%Y*4294967296+lo)%Y:=by
 have a:=Nat.div_add_mod hi Y;have e:N=Y*(hi/Y*4294967296)+(hi%Y*4294967296+lo):=by
  rw [hN,<-Nat.mul_assoc,<-Nat.add_assoc,<-Nat.add_mul,a]
 rw [e];exact ⟨by rw [Nat.mul_add_div h0],by rw [Nat.mul_add_mod]⟩
theorem gS (hi lo y s:Nat)(hs:s<64)(hlo:lo<18446744073709551616)(hlt:hi<y) :
 (hi*18446744073709551616+lo)*2^s=(hi*2^s+lo/2^(64-s))*18446744073709551616+lo*2^s%18446744073709551616/\hi*2^s+lo/2^(64-s)<y*2^s/\lo/2^(64-s)<2^s/\lo/2^(64-s)=lo*2^s/18446744073709551616:=by
 have e64:(18446744073709551616:Nat)=2^(64-s)*2^s:=by
  rw [<-Nat.pow_add,show 64-s+s=64 by omega]
 have e1:lo/2^(64-s)=lo*2^s/18446744073709551616:=by
  rw [e64,Nat.mul_div_mul_right _ _ (Nat.pow_pos (by decide))]
 have h2:lo/2^(64-s)<2^s:=by
  rw [Nat.div_lt_iff_lt_mul (Nat.pow_pos (by decide)),Nat.mul_comm (2^s),<-e64];exact hlo
 refine ⟨?_,?_,h2,e1⟩
 ·have:=Nat.div_add_mod (lo*2^s) 18446744073709551616;rw [<-e1] at this;rw [Nat.add_mul,Nat.add_mul,Nat.mul_right_comm];omega
 ·have:(hi+1)*2^s<=y*2^s:=Fh _ hlt;rw [Nat.add_mul] at this;omega
theorem Eh (u d Y:Nat)(hu:u<Y)(hd:d<4294967296):(u*4294967296+d)/Y<4294967296:=by
 rw [Nat.div_lt_iff_lt_mul (by omega)];omega
end Go.Proofs.YtabjjdicffcolaaGreatDoor
namespace Go.Proofs.YtabjjdicffcolaaGreatDoor
def Rt (xs:List Nat) (b:Nat):Nat->List Nat × Nat
 | 0=>(List.replicate xs.length 0,0)
 | d + 1 => let s := Rt  xs b d
   (s.1.set (xs.length-1-d) ((s.2*18446744073709551616+Ba xs (xs.length-1-d))/b),(s.2*18446744073709551616+Ba xs (xs.length-1-d))%b)
theorem Mm (xs:List Nat)(b d:Nat):Rt xs b (d+1)=((Rt xs b d).1.set (xs.length-1-d) (((Rt xs b d).2*18446744073709551616+Ba xs (xs.length-1-d))/b),((Rt xs b d).2*18446744073709551616+Ba xs (xs.length-1-d))%b):=rfl
theorem Nj (xs:List Nat)(b:Nat):∀ d,(Rt xs b d).1.length=xs.length
 | 0=>by simp [Rt]
 | d+1=>by rw [Mm,List.length_set,Nj xs b d]
theorem Vk (xs:List Nat)(b:Nat)(hb:0<b):∀ d,(Rt xs b d).2<b
 | 0=>by simpa [Rt] using hb
 | d+1=>by rw [Mm];exact Nat.mod_lt _ hb
theorem Qr (r x b:Nat)(hr:r<b)(hx:x<18446744073709551616):(r*18446744073709551616+x)/b<18446744073709551616:=by
 rw [Nat.div_lt_iff_lt_mul (by omega)];omega
theorem Xl (xs:List Nat)(h:Small xs)(b:Nat)(hb:0<b):∀ d,Small (Rt xs b d).1
 | 0=>E5 _
 | d + 1 => by
   rw [Mm];exact Ef (Xl xs h b hb d) _ _ (Qr _ _ _ (Vk xs b hb d) (Cc h _))
theorem f9 (xs:List Nat)(b:Nat):∀ d i,d<=xs.length->i<xs.length-d->Ba (Rt xs b d).1 i=0
 | 0,i,_,_=>Ga _ i
 | d + 1, i, hd, hi => by
   rw [Mm]
   show Ba ((Rt xs b d).1.set _ _) i=0
   rw [Kh _ _ _ _ (by rw [Nj];omega),Af (by omega)];exact f9 xs b d i (by omega) (by omega)
theorem fA (xs:List Nat)(h:Small xs)(b:Nat):∀ d,d<=xs.length->Bq (Rt xs b d).1*b+18446744073709551616^(xs.length-d)*(Rt xs b d).2+Bq (xs.take (xs.length-d))=Bq xs
 | 0, _ => by
   rw [Rt,Nat.sub_zero,Fq (Aq _)];simp [Hh]
 | d + 1, hd => by
   have ih:=fA xs h b d (by omega);have hz:=f9 xs b d (xs.length-1-d) (by omega) (by omega);have hl:=Nj xs b d;rw [Mm];generalize Rt xs b d=s at *;obtain ⟨o,r⟩:=s;simp only at *;have e:xs.length-d=(xs.length-1-d)+1:=by omega
   have e':xs.length-(d+1)=xs.length-1-d:=by omega
   rw [e,Nat.pow_succ,Co xs _ (by omega)] at ih;rw [e'];generalize xs.length-1-d=i at *;have v:=Hl o i ((r*18446744073709551616+Ba xs i)/b) (by omega);rw [hz,Nat.mul_zero,Nat.add_zero] at v;rw [v,Nat.add_mul];have a:=Nat.div_add_mod (r*18446744073709551616+Ba xs i) b;generalize (r*18446744073709551616+Ba xs i)/b=q at *;generalize (r*18446744073709551616+Ba xs i)%b=t at *;generalize 18446744073709551616^i=p at *;have e2:p*q*b+p*t=p*18446744073709551616*r+p*Ba xs i:=by
    rw [Nat.mul_assoc,<-Nat.mul_add,Nat.mul_comm q,a,Nat.mul_add,Nat.mul_comm r,Nat.mul_assoc]
   omega
theorem nR (xs:List Nat)(h:Small xs)(b:Nat)(hb:0<b):Bq (Rt xs b xs.length).1=Bq xs/b/\(Rt xs b xs.length).2=Bq xs%b:=by
 have a:=fA xs h b xs.length (Aq _);have r:=Vk xs b hb xs.length;rw [Nat.sub_self,Nat.pow_zero,Nat.one_mul,List.take_zero,Bq,Nat.add_zero] at a;rw [<-a];constructor
 ·rw [Nat.add_comm,Nat.add_mul_div_right _ _ hb,Nat.div_eq_of_lt r,Nat.zero_add]
 ·rw [Nat.add_comm,Nat.add_mul_mod_self_right,Nat.mod_eq_of_lt r]
structure ej (U3 V2 v1 v2 u2 x r:Nat):Prop where
 sum:U3=x*(v1*18446744073709551616)+r*18446744073709551616+u2
 two:V2=v1*18446744073709551616+v2
theorem dg {U3 V2 v1 v2 u2 x r:Nat}(h:ej U3 V2 v1 v2 u2 x r)(hx:x<18446744073709551616)(h2:v2<18446744073709551616)(hc:x*v2<=r*18446744073709551616+u2\/18446744073709551616<=r):x*V2<=U3:=by
 rw [h.sum,h.two,Nat.mul_add];have:x*v2<=18446744073709551616*18446744073709551616:=Nat.mul_le_mul (by omega) (by omega);rcases hc with hc | hc
 ·omega
 ·omega
theorem df {U3 V2 v1 v2 u2 x r:Nat}(h:ej U3 V2 v1 v2 u2 x r)(hc:r*18446744073709551616+u2<x*v2):U3<x*V2/\ej U3 V2 v1 v2 u2 (x-1) (r+v1):=by
 have hx:1<=x:=by
  by_cases e:x=0
  ·subst e;omega
  ·omega
 obtain ⟨k,rfl⟩:∃ k,x=k+1:=⟨x-1,by omega⟩;refine ⟨?_,⟨?_,h.two⟩⟩
 ·rw [h.sum,h.two,Nat.mul_add];omega
 ·rw [Nat.add_sub_cancel,h.sum,Nat.add_mul,Nat.add_mul];omega
theorem fU (U3 V2 P u' v' x:Nat)(_hu:u'<P)(hv:v'<P)(hx:x<18446744073709551616)(h1:x*V2<=U3)(hV:18446744073709551616<=V2)(hq:(U3*P+u')/(V2*P+v')<=x):x=(U3*P+u')/(V2*P+v')\/x=(U3*P+u')/(V2*P+v')+1:=by
 have hp:0<P:=by omega
 have hV0:0<V2*P+v':=by
  have:18446744073709551616*P<=V2*P:=Fh _ hV;omega
 have a:(x-1)<=(U3*P+u')/(V2*P+v'):=by
  rw [Nat.le_div_iff_mul_le hV0];by_cases e:x=0
  ·subst e;simp
  ·obtain ⟨k,rfl⟩:∃ k,x=k+1:=⟨x-1,by omega⟩;rw [Nat.add_sub_cancel,Nat.mul_add];have b:(k+1)*V2*P<=U3*P:=Fh _ h1;rw [Nat.add_mul,Nat.add_mul,Nat.one_mul] at b;have c:18446744073709551616*P<=V2*P:=Fh _ hV;have d:k*v'<=18446744073709551616*P:=Nat.mul_le_mul (by omega) (by omega);have e:k*(V2*P)=k*V2*P:=(Nat.mul_assoc _ _ _).symm;omega
 generalize (U3*P+u')/(V2*P+v')=q at *;omega
theorem de (U3 V2 P u' v' x:Nat)(hu:u'<P)(h:U3<x*V2)(hV:0<V2):(U3*P+u')/(V2*P+v')<=x-1:=by
 have hp:0<P:=by omega
 have hV0:0<V2*P+v':=by
  have:=Nat.mul_pos hV hp;omega
 have:(U3*P+u')/(V2*P+v')<x:=by
  rw [Nat.div_lt_iff_lt_mul hV0,Nat.mul_add];have a:(U3+1)*P<=x*V2*P:=Fh _ h;rw [Nat.add_mul,Nat.mul_assoc] at a;omega
 exact Nat.le_sub_one_of_lt this
theorem ao (U2 u2 v1 v2 P u' v':Nat)(hu2:u2<18446744073709551616)(hu:u'<P)(hv1:0<v1) :
 ((U2*18446744073709551616+u2)*P+u')/((v1*18446744073709551616+v2)*P+v')<=U2/v1:=by
 have hp:0<P:=by omega
 have c0:=Nat.div_mul_le_self ((U2*18446744073709551616+u2)*P+u') ((v1*18446744073709551616+v2)*P+v');generalize ((U2*18446744073709551616+u2)*P+u')/((v1*18446744073709551616+v2)*P+v')=a at *;rw [Nat.le_div_iff_mul_le hv1];have c1:a*v1*(18446744073709551616*P)<(U2+1)*(18446744073709551616*P):=by
  have e1:a*((v1*18446744073709551616+v2)*P+v')=a*v1*(18446744073709551616*P)+a*(v2*P)+a*v':=by
   rw [Nat.mul_add,Nat.add_mul,Nat.mul_add,Nat.mul_assoc v1,<-Nat.mul_assoc a v1]
  have e2:(U2*18446744073709551616+u2)*P=U2*(18446744073709551616*P)+u2*P:=by rw [Nat.add_mul,Nat.mul_assoc]
  have e3:(u2+1)*P<=18446744073709551616*P:=Fh _ hu2;rw [e1,e2] at c0;rw [Nat.add_mul U2,Nat.one_mul];rw [Nat.add_mul] at e3;generalize 18446744073709551616*P=Q at *;omega
 have:=Nat.lt_of_mul_lt_mul_right c1;omega
def F9 (wl:List Nat) (x:Nat) (vs:List Nat):Nat->List Nat × Nat × Nat
 | 0=>(wl,0,0)
 | k + 1 => let s := F9  wl x vs k
   (s.1.set k ((Ba s.1 k+18446744073709551616-(x*Ba vs k+s.2.1)%18446744073709551616-s.2.2)%18446744073709551616),(x*Ba vs k+s.2.1)/18446744073709551616,
     if Ba s.1 k<(x*Ba vs k+s.2.1)%18446744073709551616+s.2.2 then 1 else 0)
theorem Mf (wl:List Nat)(x:Nat)(vs:List Nat)(k:Nat):F9 wl x vs (k+1)=((F9 wl x vs k).1.set k ((Ba (F9 wl x vs k).1 k+18446744073709551616-(x*Ba vs k+(F9 wl x vs k).2.1)%18446744073709551616-(F9 wl x vs k).2.2)%18446744073709551616),(x*Ba vs k+(F9 wl x vs k).2.1)/18446744073709551616,
 if Ba (F9 wl x vs k).1 k<(x*Ba vs k+(F9 wl x vs k).2.1)%18446744073709551616+(F9 wl x vs k).2.2 then 1 else 0):=rfl
theorem Iz (wl:List Nat)(x:Nat)(vs:List Nat):∀ k,(F9 wl x vs k).1.length=wl.length
 | 0=>rfl
 | k+1=>by rw [Mf,List.length_set,Iz wl x vs k]
theorem Kk (wl:List Nat)(x:Nat)(vs:List Nat)(h:Small wl):∀ k,Small (F9 wl x vs k).1
 | 0=>h
 | k+1=>by rw [Mf];exact Ef (Kk wl x vs h k) _ _ (Nat.mod_lt _ (by decide))
theorem Xf (wl:List Nat)(x:Nat)(vs:List Nat)(hx:x<18446744073709551616)(h':Small vs):∀ k,(F9 wl x vs k).2.1<18446744073709551616
 | 0=>by simp [F9]
 | k + 1 => by
   rw [Mf];have:=Pk x (Ba vs k) (F9 wl x vs k).2.1 0 hx (Cc h' k) (Xf wl x vs hx h' k) (by decide);rwa [Nat.add_zero] at this
theorem M9 (wl:List Nat)(x:Nat)(vs:List Nat):∀ k,(F9 wl x vs k).2.2<=1
 | 0=>by simp [F9]
 | k + 1 => by
   rw [Mf]
   show (if _ then 1 else 0)<=1
   split<;>omega
theorem Vw (p x y c:Nat)(hx:x<18446744073709551616)(hy:y<18446744073709551616)(hc:c<=1) :
 p*((x+18446744073709551616-y-c)%18446744073709551616)+p*y+p*c=p*x+p*18446744073709551616*(if x<y+c then 1 else 0):=by
 by_cases hlt:x<y+c
 ·rw [Ak hlt,Nat.mod_eq_of_lt (by omega),Nat.mul_one,←Nat.mul_add,←Nat.mul_add,←Nat.mul_add]
  congr 1;omega
 ·have e0:(x+18446744073709551616-y-c)%18446744073709551616=x-y-c:=by omega
  rw [Af hlt,e0,Nat.mul_zero,Nat.add_zero,<-Nat.mul_add,<-Nat.mul_add]
  congr 1;omega
theorem Yw (wl:List Nat)(x:Nat)(vs:List Nat)(h:Small wl):∀ k,k<=wl.length ->
 Bq (F9 wl x vs k).1+x*Bq (vs.take k)=Bq wl+18446744073709551616^k*((F9 wl x vs k).2.1+(F9 wl x vs k).2.2)
 | 0,_=>by simp [F9,Bq]
 | k + 1, hk => by
   have ih:=Yw wl x vs h k (by omega);have hl:=Iz wl x vs k;have hu:=Cc (Kk wl x vs h k) k;have hb:=M9 wl x vs k;rw [Mf,Ij,Nat.pow_succ];generalize F9 wl x vs k=s at *;obtain ⟨o,c,b⟩:=s;simp only at *;generalize hT:x*Ba vs k+c=T;have v:=Hl o k ((Ba o k+18446744073709551616-T%18446744073709551616-b)%18446744073709551616) (by omega);have sl:=Vw (18446744073709551616^k) (Ba o k) (T%18446744073709551616) b hu (Nat.mod_lt _ (by decide)) hb;generalize (if Ba o k<T%18446744073709551616+b then 1 else 0)=b' at *;generalize (Ba o k+18446744073709551616-T%18446744073709551616-b)%18446744073709551616=z at *
   generalize 18446744073709551616^k=p at *;have e:p*18446744073709551616*(T/18446744073709551616)+p*(T%18446744073709551616)=p*T:=by
    rw [Nat.mul_assoc,<-Nat.mul_add,Nat.div_add_mod]
   have e2:p*T=x*(p*Ba vs k)+p*c:=by rw [<-hT,Nat.mul_add,Nat.mul_left_comm]
   rw [Nat.mul_add x,Nat.mul_add (p*18446744073709551616)];rw [Nat.mul_add] at ih;omega
theorem Zo (wl vs:List Nat)(n:Nat)(hl:wl.length=n+1)(hv:vs.length=n):Bq (Ej wl vs n).1+18446744073709551616^n*(Ej wl vs n).2=Bq wl+Bq vs:=by
 have:=Ty wl vs n (by omega);rwa [Fq (by omega)] at this
theorem cN (wl vs:List Nat)(x n:Nat)(h:Small wl)(hl:wl.length=n+1)(hv:vs.length=n)(hx:x=Bq wl/Bq vs)(hc:(F9 wl x vs n).2.1<18446744073709551616) :
 Bq ((F9 wl x vs n).1.set n ((Ba (F9 wl x vs n).1 n+18446744073709551616-(F9 wl x vs n).2.1-(F9 wl x vs n).2.2)%18446744073709551616))=Bq wl%Bq vs /\
 (if Ba (F9 wl x vs n).1 n<(F9 wl x vs n).2.1+(F9 wl x vs n).2.2 then 1 else 0)=0:=by
 have a:=Yw wl x vs h n (by omega);rw [Fq (by omega)] at a;have b:=Hl (F9 wl x vs n).1 n ((Ba (F9 wl x vs n).1 n+18446744073709551616-(F9 wl x vs n).2.1-(F9 wl x vs n).2.2)%18446744073709551616) (by rw [Iz];omega);have sm:=Ef (Kk wl x vs h n) n ((Ba (F9 wl x vs n).1 n+18446744073709551616-(F9 wl x vs n).2.1-(F9 wl x vs n).2.2)%18446744073709551616) (Nat.mod_lt _ (by decide));have lt:=G8 _ sm;rw [List.length_set,Iz,hl,Nat.pow_succ] at lt;have sl:=Vw (18446744073709551616^n) (Ba (F9 wl x vs n).1 n) (F9 wl x vs n).2.1 (F9 wl x vs n).2.2 (Cc (Kk wl x vs h n) n) hc (M9 wl x vs n)
 have dm:=Nat.div_add_mod (Bq wl) (Bq vs);rw [<-hx,Nat.mul_comm] at dm;generalize (Ba (F9 wl x vs n).1 n+18446744073709551616-(F9 wl x vs n).2.1-(F9 wl x vs n).2.2)%18446744073709551616=z at *;generalize Bq ((F9 wl x vs n).1.set n z)=V' at *;rw [Nat.mul_add] at a;by_cases hlt:Ba (F9 wl x vs n).1 n<(F9 wl x vs n).2.1+(F9 wl x vs n).2.2
 ·rw [Ak hlt,Nat.mul_one] at sl;exfalso;generalize 18446744073709551616^n=p at *;omega
 ·rw [Af hlt,Nat.mul_zero,Nat.add_zero] at sl;refine ⟨?_,Af hlt⟩;generalize 18446744073709551616^n=p at *;omega
theorem cO (wl vs:List Nat)(x n:Nat)(h:Small wl)(hl:wl.length=n+1)(hv:vs.length=n)(hV:0<Bq vs)(hx:x=Bq wl/Bq vs+1)(hc:(F9 wl x vs n).2.1<18446744073709551616) :
 Bq ((F9 wl x vs n).1.set n ((Ba (F9 wl x vs n).1 n+18446744073709551616-(F9 wl x vs n).2.1-(F9 wl x vs n).2.2)%18446744073709551616))+Bq vs=Bq wl%Bq vs+18446744073709551616^n*18446744073709551616 /\
 (if Ba (F9 wl x vs n).1 n<(F9 wl x vs n).2.1+(F9 wl x vs n).2.2 then 1 else 0)=1:=by
 have a:=Yw wl x vs h n (by omega);rw [Fq (by omega)] at a;have b:=Hl (F9 wl x vs n).1 n ((Ba (F9 wl x vs n).1 n+18446744073709551616-(F9 wl x vs n).2.1-(F9 wl x vs n).2.2)%18446744073709551616) (by rw [Iz];omega);have sl:=Vw (18446744073709551616^n) (Ba (F9 wl x vs n).1 n) (F9 wl x vs n).2.1 (F9 wl x vs n).2.2 (Cc (Kk wl x vs h n) n) hc (M9 wl x vs n);have dm:=Nat.div_add_mod (Bq wl) (Bq vs);have ml:=Nat.mod_lt (Bq wl) hV;rw [hx,Nat.add_mul,Nat.one_mul,<-hx,Nat.mul_comm (Bq wl/Bq vs)] at a;generalize (Ba (F9 wl x vs n).1 n+18446744073709551616-(F9 wl x vs n).2.1-(F9 wl x vs n).2.2)%18446744073709551616=z at *
 generalize Bq ((F9 wl x vs n).1.set n z)=V' at *;rw [Nat.mul_add] at a;by_cases hlt:Ba (F9 wl x vs n).1 n<(F9 wl x vs n).2.1+(F9 wl x vs n).2.2
 ·rw [Ak hlt,Nat.mul_one] at sl;refine ⟨?_,Ak hlt⟩;generalize 18446744073709551616^n=p at *;omega
 ·rw [Af hlt,Nat.mul_zero,Nat.add_zero] at sl;exfalso;generalize 18446744073709551616^n=p at *;omega
theorem cM (w2 vs:List Nat)(n r:Nat)(h:Small w2)(h':Small vs)(hl:w2.length=n+1)(hv:vs.length=n)(_hr:r<Bq vs)(he:Bq w2+Bq vs=r+18446744073709551616^n*18446744073709551616) :
 Bq ((Ej w2 vs n).1.set n ((Ba (Ej w2 vs n).1 n+(Ej w2 vs n).2)%18446744073709551616))=r:=by
 have a:=Zo w2 vs n hl hv;have b:=Hl (Ej w2 vs n).1 n ((Ba (Ej w2 vs n).1 n+(Ej w2 vs n).2)%18446744073709551616) (by rw [Gj];omega);have sm:=Ef (Ho w2 vs h n) n ((Ba (Ej w2 vs n).1 n+(Ej w2 vs n).2)%18446744073709551616) (Nat.mod_lt _ (by decide));have lt:=G8 _ sm;have ltv:=G8 vs h';rw [hv] at ltv;rw [List.length_set,Gj,hl,Nat.pow_succ] at lt;generalize hT:Ba (Ej w2 vs n).1 n+(Ej w2 vs n).2=T at *;generalize Bq ((Ej w2 vs n).1.set n (T%18446744073709551616))=V' at *;have e:18446744073709551616^n*T=18446744073709551616^n*18446744073709551616*(T/18446744073709551616)+18446744073709551616^n*(T%18446744073709551616):=by
  rw [Nat.mul_assoc,<-Nat.mul_add,Nat.div_add_mod]
 rw [<-hT,Nat.mul_add,hT] at e;have ht:T/18446744073709551616<=1:=by
  have:=Cc (Ho w2 vs h n) n;have:=Ms w2 vs h h' n;omega
 generalize 18446744073709551616^n=p at *;generalize T/18446744073709551616=q at *;have hq:q=0\/q=1:=by omega
 rcases hq with rfl | rfl
 ·rw [Nat.mul_zero] at e;omega
 ·rw [Nat.mul_one] at e;omega
end Go.Proofs.YtabjjdicffcolaaGreatDoor
namespace Go.Proofs.YtabjjdicffcolaaGreatDoor
variable {vs wl:List Nat} {n r x:Nat}
structure DigIn (wl vs:List Nat) (n:Nat):Prop where
 n2:2<=n
 wlen:wl.length=n+1
 vlen:vs.length=n
 ws:Small wl
 vsm:Small vs
 top:9223372036854775808<=Ba vs (n-1)
 lt:Bq wl<Bq vs*18446744073709551616
def aa (wl:List Nat) (n:Nat):Nat:=(Ba wl n*18446744073709551616+Ba wl (n-1))*18446744073709551616+Ba wl (n-2)
def Uf (vs:List Nat) (n:Nat):Nat:=Ba vs (n-1)*18446744073709551616+Ba vs (n-2)
theorem DigIn.U (h:DigIn wl vs n):Bq wl=aa wl n*18446744073709551616^(n-2)+Bq (wl.take (n-2)):=by
 have h2:=h.n2;have e:=Fq (Nat.le_of_eq h.wlen);have a:=Co wl n (by rw [h.wlen];omega);have b:=Co wl (n-1) (by rw [h.wlen];omega);have c:=Co wl (n-2) (by rw [h.wlen];omega);rw [show n-1+1=n by omega] at b;rw [show n-2+1=n-1 by omega] at c;rw [e] at a;rw [a,b,c];have p1:18446744073709551616^n=18446744073709551616^(n-2)*18446744073709551616*18446744073709551616:=by
  rw [Nat.mul_assoc,<-Nat.pow_two,<-Nat.pow_add];congr 1;omega
 have p2:18446744073709551616^(n-1)=18446744073709551616^(n-2)*18446744073709551616:=by
  rw [<-Nat.pow_succ];congr 1;omega
 rw [p1,p2];unfold aa;generalize 18446744073709551616^(n-2)=P;generalize Ba wl n=x;generalize Ba wl (n-1)=y;generalize Ba wl (n-2)=z;have e1:P*18446744073709551616*18446744073709551616*x=x*18446744073709551616*18446744073709551616*P:=by
  rw [Nat.mul_comm _ x,<-Nat.mul_assoc,<-Nat.mul_assoc,Nat.mul_right_comm x P,Nat.mul_right_comm (x*18446744073709551616) P]
 have e2:P*18446744073709551616*y=y*18446744073709551616*P:=by
  rw [Nat.mul_comm _ y,<-Nat.mul_assoc,Nat.mul_right_comm y P]
 rw [e1,e2,Nat.mul_comm P z,Nat.add_mul,Nat.add_mul,Nat.add_mul];omega
theorem DigIn.V (h:DigIn wl vs n):Bq vs=Uf vs n*18446744073709551616^(n-2)+Bq (vs.take (n-2)):=by
 have h2:=h.n2;have e:=Fq (Nat.le_of_eq h.vlen);have b:=Co vs (n-1) (by rw [h.vlen];omega);have c:=Co vs (n-2) (by rw [h.vlen];omega);rw [show n-1+1=n by omega,e] at b;rw [show n-2+1=n-1 by omega] at c;rw [b,c];have p2:18446744073709551616^(n-1)=18446744073709551616^(n-2)*18446744073709551616:=by
  rw [<-Nat.pow_succ];congr 1;omega
 rw [p2];unfold Uf;generalize 18446744073709551616^(n-2)=P;generalize Ba vs (n-1)=y;generalize Ba vs (n-2)=z;have e2:P*18446744073709551616*y=y*18446744073709551616*P:=by
  rw [Nat.mul_comm _ y,<-Nat.mul_assoc,Nat.mul_right_comm y P]
 rw [e2,Nat.mul_comm P z,Nat.add_mul];omega
theorem DigIn.ulow (h:DigIn wl vs n):Bq (wl.take (n-2))<18446744073709551616^(n-2):=by
 have:=G8 _ (F5 h.ws (n-2));rwa [List.length_take,Nat.min_eq_left (by rw [h.wlen];omega)] at this
theorem DigIn.vlow (h:DigIn wl vs n):Bq (vs.take (n-2))<18446744073709551616^(n-2):=by
 have:=G8 _ (F5 h.vsm (n-2));rwa [List.length_take,Nat.min_eq_left (by rw [h.vlen];omega)] at this
theorem DigIn.v2pos (h:DigIn wl vs n):18446744073709551616<=Uf vs n:=by
 have:=h.top;unfold Uf;omega
theorem DigIn.vpos (h:DigIn wl vs n):0<Bq vs:=by
 have a:=h.V;have b:=Nat.mul_pos (show 0<Uf vs n by have:=h.v2pos;omega) (Nat.pow_pos (n:=n-2) (show 0<18446744073709551616 by decide));omega
theorem lj (M N A Q T P v':Nat)(h1:M<=N)(h2:M=A+Q*18446744073709551616)(h3:T+P<=Q)(h4:v'<P)(h5:N<A+T*18446744073709551616+v'*18446744073709551616):False:=by omega
theorem DigIn.tops (h:DigIn wl vs n):Ba wl n<=Ba vs (n-1):=by
 have a:=h.U;have b:=h.V;have c:=h.lt;have d:=h.vlow;have v2:=Cc h.vsm (n-2);rw [a,b] at c;unfold aa Uf at c;generalize 18446744073709551616^(n-2)=P at *;generalize Bq (wl.take (n-2))=u' at *;generalize Bq (vs.take (n-2))=v' at *;generalize Ba wl n=x at *;generalize Ba wl (n-1)=y at *;generalize Ba wl (n-2)=z at *;generalize Ba vs (n-1)=s at *;generalize Ba vs (n-2)=t at *;by_cases hle:x<=s
 ·exact hle
 ·exfalso;have e1:((s+1)*18446744073709551616*18446744073709551616)*P≤((x*18446744073709551616+y)*18446744073709551616+z)*P:=Fh _ (by omega);have e2:(t+1)*P≤18446744073709551616*P:=Fh _ v2;have e3:((s*18446744073709551616+t)*P+v')*18446744073709551616=s*18446744073709551616*18446744073709551616*P+t*P*18446744073709551616+v'*18446744073709551616:=by
   rw [Nat.add_mul,Nat.add_mul (s*18446744073709551616),Nat.add_mul,Nat.mul_right_comm (s*18446744073709551616) P]
  have e4:(s+1)*18446744073709551616*18446744073709551616*P=s*18446744073709551616*18446744073709551616*P+18446744073709551616*P*18446744073709551616:=by
   rw [Nat.add_mul,Nat.add_mul,Nat.add_mul,Nat.one_mul,Nat.mul_right_comm 18446744073709551616 18446744073709551616 P]
  rw [Nat.add_mul,Nat.one_mul] at e2;rw [e3] at c;exact lj _ _ _ _ _ _ _ e1 e4 e2 d (Nat.lt_of_le_of_lt (Nat.le_add_right _ _) c)
theorem DigIn.qlt (h:DigIn wl vs n):Bq wl/Bq vs<18446744073709551616:=by
 rw [Nat.div_lt_iff_lt_mul h.vpos,Nat.mul_comm];exact h.lt
structure DigInv (wl vs:List Nat) (n x r:Nat):Prop where
 g:ej (aa wl n) (Uf vs n) (Ba vs (n-1)) (Ba vs (n-2)) (Ba wl (n-2)) x r
 ge:Bq wl/Bq vs<=x
 lt:x<18446744073709551616
theorem gZ (T s z:Nat):T*18446744073709551616+z=T/s*(s*18446744073709551616)+T%s*18446744073709551616+z:=by
 rw [<-Nat.mul_assoc,<-Nat.add_mul,Nat.mul_comm (T/s),Nat.div_add_mod]
theorem DigIn.start_lt (h:DigIn wl vs n)(hlt:Ba wl n<Ba vs (n-1)) :
 DigInv wl vs n ((Ba wl n*18446744073709551616+Ba wl (n-1))/Ba vs (n-1)) ((Ba wl n*18446744073709551616+Ba wl (n-1))%Ba vs (n-1)):=by
 have ht:=h.top;refine ⟨⟨?_,rfl⟩,?_,Qr _ _ _ hlt (Cc h.ws _)⟩
 ·exact gZ _ _ _
 ·have:=ao (Ba wl n*18446744073709551616+Ba wl (n-1)) (Ba wl (n-2)) (Ba vs (n-1)) (Ba vs (n-2)) (18446744073709551616^(n-2)) (Bq (wl.take (n-2))) (Bq (vs.take (n-2))) (Cc h.ws _) h.ulow (by omega);rw [h.U,h.V];exact this
theorem DigIn.start_eq (h:DigIn wl vs n)(he:¬Ba wl n<Ba vs (n-1)) :
 DigInv wl vs n 18446744073709551615 (Ba wl (n-1)+Ba vs (n-1)):=by
 have ht:=h.tops;have e:Ba wl n=Ba vs (n-1):=by omega
 refine ⟨⟨?_,rfl⟩,?_,by decide⟩
 ·unfold aa;rw [e];omega
 ·exact Nat.le_of_lt_succ h.qlt
theorem DigInv.less (h:DigInv wl vs n x r)(hi:DigIn wl vs n)(hc:r*18446744073709551616+Ba wl (n-2)<x*Ba vs (n-2)):1<=x/\DigInv wl vs n (x-1) (r+Ba vs (n-1)):=by
 have hx:1<=x:=by
  by_cases e:x=0
  ·subst e;omega
  ·omega
 obtain ⟨a,b⟩:=df h.g hc;have v2:=hi.v2pos;refine ⟨hx,b,?_,by have:=h.lt;omega⟩;rw [hi.U,hi.V];exact de _ _ _ _ _ _ hi.ulow a (by omega)
theorem DigInv.done (h:DigInv wl vs n x r)(hi:DigIn wl vs n)(hc:x*Ba vs (n-2)<=r*18446744073709551616+Ba wl (n-2)\/18446744073709551616<=r):x=Bq wl/Bq vs\/x=Bq wl/Bq vs+1:=by
 have a:=dg h.g h.lt (Cc hi.vsm _) hc;have b:=h.ge;rw [hi.U,hi.V] at b ⊢;exact fU _ _ _ _ _ _ hi.ulow hi.vlow h.lt a hi.v2pos b
theorem mY (p r u:Nat)(hu:u<18446744073709551616):p<=r*18446744073709551616+u↔(p/18446744073709551616<r\/p/18446744073709551616=r/\p%18446744073709551616<=u):=by
 omega
end Go.Proofs.YtabjjdicffcolaaGreatDoor
namespace Go.Proofs.YtabjjdicffcolaaGreatDoor
variable {qs us vs:List Nat} {N V j n:Nat}
structure LongInv (N V:Nat) (n:Nat) (us qs:List Nat) (k:Nat):Prop where
 us_small:Small us
 qs_small:Small qs
 lens:us.length=qs.length+n
 low:Bq (us.drop k)<V
 sum:Bq qs*V+Bq us=N
 zero:∀ i,i<k->Ba qs i=0
theorem LongInv.window (h:LongInv N V n us qs (j+1))(hj:j<qs.length)(hn:2<=n)(hV:V=Bq vs)(hvl:vs.length=n)(hvs:Small vs)(ht:9223372036854775808<=Ba vs (n-1)) :
 DigIn ((us.drop j).take (n+1)) vs n/\Bq (us.drop (j+(n+1)))=0:=by
 have hl:=h.lens;have e:us.drop j=Ba us j::us.drop (j+1):=af us j (by omega);have hlow:=h.low;have hx:=Cc h.us_small j;have hd:Bq (us.drop j)<V*18446744073709551616:=by
  rw [e,Bq];omega
 have hvlt:=G8 vs hvs;rw [hvl,<-hV] at hvlt;have sm:Small (us.drop j):=Nl h.us_small j;have ap:=Ex ((us.drop j).take (n+1)) ((us.drop j).drop (n+1));rw [List.take_append_drop,List.length_take,List.length_drop,Nat.min_eq_left (by omega),List.drop_drop] at ap;have hp:18446744073709551616^(n+1)=18446744073709551616^n*18446744073709551616:=Nat.pow_succ ..;have hz:Bq (us.drop (j+(n+1)))=0:=by
  by_cases hz:Bq (us.drop (j+(n+1)))=0
  ·exact hz
  ·exfalso;have:18446744073709551616^(n+1)*1<=18446744073709551616^(n+1)*Bq (us.drop (j+(n+1))):=Nat.mul_le_mul_left _ (by omega);rw [hp] at this ap;generalize 18446744073709551616^n=P at *;generalize P*18446744073709551616*Bq (us.drop (j+(n+1)))=T at *;omega
 refine ⟨⟨hn,?_,hvl,F5 sm _,hvs,ht,?_⟩,hz⟩
 ·rw [List.length_take,List.length_drop];omega
 ·rw [<-hV];rw [hz,Nat.mul_zero,Nat.add_zero] at ap;rw [<-ap];exact hd
theorem Sw (us:List Nat)(j m:Nat):us=us.take j++((us.drop j).take m++us.drop (j+m)):=by
 rw [<-List.drop_drop,List.take_append_drop,List.take_append_drop]
theorem LongInv.next {wl':List Nat}(h:LongInv N V n us qs (j+1))(hj:j<qs.length)(hV:V=Bq vs)(hz:Bq (us.drop (j+(n+1)))=0)
 (hq:Bq ((us.drop j).take (n+1))/Bq vs<18446744073709551616) (hV0:0<Bq vs) (hl':wl'.length=((us.drop j).take (n+1)).length) (hs':Small wl') (hv':Bq wl'=Bq ((us.drop j).take (n+1))%Bq vs) :
 LongInv N V n (us.take j++(wl'++us.drop (j+(n+1)))) (qs.set j (Bq ((us.drop j).take (n+1))/Bq vs)) j:=by
 have hl:=h.lens;have ht:(us.take j).length=j:=by rw [List.length_take];omega
 have e:=Sw us j (n+1);have lw:((us.drop j).take (n+1)).length=n+1:=by rw [List.length_take,List.length_drop];omega
 refine ⟨?_,Ef h.qs_small _ _ hq,?_,?_,?_,?_⟩
 ·intro x hx;rcases List.mem_append.1 hx with hx | hx
  ·exact F5 h.us_small j x hx
  ·rcases List.mem_append.1 hx with hx | hx
   ·exact hs' x hx
   ·exact Nl h.us_small _ x hx
 ·rw [List.length_set,List.length_append,List.length_append,hl',lw,List.length_drop,ht];omega
 ·rw [List.drop_append_of_le_length (by omega),List.drop_of_length_le (by omega),List.nil_append,Ex,hz,Nat.mul_zero,Nat.add_zero,hv',hV];exact Nat.mod_lt _ hV0
 ·have v:=Hl qs j (Bq ((us.drop j).take (n+1))/Bq vs) hj;rw [h.zero j (by omega),Nat.mul_zero,Nat.add_zero] at v;have s:=h.sum;have u1:Bq us=Bq (us.take j)+18446744073709551616^j*(Bq ((us.drop j).take (n+1))+18446744073709551616^(n+1)*Bq (us.drop (j+(n+1)))):=by
   conv=>lhs;rw [e]
   rw [Ex,Ex,ht,lw]
  have u2:Bq (us.take j++(wl'++us.drop (j+(n+1))))=Bq (us.take j)+18446744073709551616^j*(Bq wl'+18446744073709551616^(n+1)*Bq (us.drop (j+(n+1)))):=by
   rw [Ex,Ex,ht,hl',lw]
  rw [hz,Nat.mul_zero,Nat.add_zero (Bq ((us.drop j).take (n+1)))] at u1;rw [hz,Nat.mul_zero,Nat.add_zero (Bq wl')] at u2;rw [v,u2,hv',Nat.add_mul,hV];rw [u1,hV] at s;have dm:=Nat.div_add_mod (Bq ((us.drop j).take (n+1))) (Bq vs);generalize Bq ((us.drop j).take (n+1))/Bq vs=q at *;generalize Bq ((us.drop j).take (n+1))%Bq vs=r at *;generalize Bq ((us.drop j).take (n+1))=W at *;generalize 18446744073709551616^j=P at *;have e3:P*q*Bq vs+P*r=P*W:=by rw [Nat.mul_assoc,<-Nat.mul_add,Nat.mul_comm q,dm]
  omega
 ·intro i hi;rw [Kh _ _ _ _ hj,Af (by omega)];exact h.zero i (by omega)
theorem LongInv.finish (h:LongInv N V n us qs 0):Bq qs=N/V/\Bq us=N%V:=by
 have a:=h.low;have b:=h.sum;rw [List.drop_zero] at a;have hV:0<V:=by omega
 rw [<-b,Nat.add_comm];exact ⟨by rw [Nat.add_mul_div_right _ _ hV,Nat.div_eq_of_lt a,Nat.zero_add],by rw [Nat.add_mul_mod_self_right,Nat.mod_eq_of_lt a]⟩
theorem ig (us:List Nat)(h:Small us)(n:Nat)(hn:n<=us.length)(hV:Bq us<18446744073709551616^n):Bq (us.take n)=Bq us:=by
 have e:=Ex (us.take n) (us.drop n);rw [List.take_append_drop,List.length_take,Nat.min_eq_left hn] at e;have:Bq (us.drop n)=0:=by
  rw [Wb us h n,Nat.div_eq_of_lt hV]
 rw [this,Nat.mul_zero,Nat.add_zero] at e;exact e.symm
theorem fI (n:Nat)(k:Nat):Bq (Al n++List.replicate k 0)=n:=by
 rw [Ex,Hh,Nat.mul_zero,Nat.add_zero,Cq]
theorem Xn (n k:Nat):Small (Al n++List.replicate k 0):=by
 intro x hx;rcases List.mem_append.1 hx with hx | hx
 ·exact Hv n x hx
 ·exact E5 k x hx
theorem Dk (n k:Nat)(h:n<18446744073709551616^k):(Al n).length<=k:=by
 by_cases h0:n=0
 ·subst h0;rw [Be];exact Nat.zero_le _
 ·have a:=L3 n h0;by_cases hk:(Al n).length≤k
  ·exact hk
  ·have:18446744073709551616^k<=18446744073709551616^((Al n).length-1):=Ee (by decide) (by omega);omega
theorem S7 (n k:Nat)(h:18446744073709551616^k<=n):k<(Al n).length:=by
 have a:=Di n;by_cases hk:k<(Al n).length
 ·exact hk
 ·have:18446744073709551616^(Al n).length<=18446744073709551616^k:=Ee (by decide) (by omega);omega
theorem Y4 (m:Nat)(h:m≠0):m*2^(64-bl (Ba (Al m) ((Al m).length-1)))<18446744073709551616^(Al m).length /\
 18446744073709551616^((Al m).length-1)*9223372036854775808<=m*2^(64-bl (Ba (Al m) ((Al m).length-1))):=by
 have ht:=cE m h;have hp:=Br m h;have hb:=Qx _ (Cc (Hv m) ((Al m).length-1));have hb0:=Df _ (M7 m h);have a:=D9 m h;have b:=Bm m;rw [ht] at a b;generalize bl (Ba (Al m) ((Al m).length-1))=t at *;generalize (Al m).length=l at *;obtain ⟨i,rfl⟩:∃ i,l=i+1:=⟨l-1,by omega⟩;rw [Nat.add_sub_cancel] at *;have p:∀ q,(18446744073709551616:Nat)^q=2^(64*q):=λq=>by rw [Nat.pow_mul]
 constructor
 ·have:=Nat.mul_lt_mul_of_pos_right b (Nat.pow_pos (n:=64-t) (show 0<2 by decide));rw [<-Nat.pow_add,show 64*i+t+(64-t)=64*(i+1) by omega,<-p] at this;exact this
 ·have:=Fh (2^(64-t)) a;rw [<-Nat.pow_add,show 64*i+t-1+(64-t)=64*i+63 by omega,Nat.pow_add,<-p] at this;exact this
theorem lg (vs:List Nat)(h:Small vs)(n:Nat)(hn:vs.length=n)(h0:0<n)(hv:18446744073709551616^(n-1)*9223372036854775808<=Bq vs):9223372036854775808<=Ba vs (n-1):=by
 have e:=Co vs (n-1) (by omega);rw [show n-1+1=n by omega,Fq (by omega)] at e;have b:=G8 _ (F5 h (n-1));rw [List.length_take,Nat.min_eq_left (by omega)] at b;generalize 18446744073709551616^(n-1)=P at *;have:P*9223372036854775808<P*(Ba vs (n-1)+1):=by rw [Nat.mul_add];omega
 have:=Nat.lt_of_mul_lt_mul_left this;omega
theorem LongInv.start (n m s:Nat)(us vs:List Nat)(l d:Nat)(hs:Small us)(hl:us.length=l+2+d+1)(hv:Bq us=n*2^s)(hm:m≠0)(hml:(Al m).length=l+2)(hn:(Al n).length=l+2+d)(hV:Bq vs=m*2^s) :
 LongInv (n*2^s) (Bq vs) (l+2) us (List.replicate (d+1) 0) (d+1):=by
 refine ⟨hs,E5 _,by rw [hl,List.length_replicate];omega,?_,by rw [Hh,Nat.zero_mul,Nat.zero_add,hv],λi _=>Ga _ i⟩;rw [Wb us hs,hv,hV,Nat.div_lt_iff_lt_mul (Nat.pow_pos (by decide))];have a:=Di n;have b:=L3 m hm;rw [hn] at a;rw [hml,show l+2-1=l+1 by omega] at b;have c:18446744073709551616^(l+2+d)=18446744073709551616^(l+1)*18446744073709551616^(d+1):=by rw [<-Nat.pow_add];congr 1;omega
 rw [c] at a;have e:=Nat.mul_lt_mul_of_pos_right a (Nat.pow_pos (n:=s) (show 0<2 by decide));refine Dn e ?_;rw [Nat.mul_right_comm];exact Fh _ (Fh _ b)
end Go.Proofs.YtabjjdicffcolaaGreatDoor
namespace Go.Proofs.YtabjjdicffcolaaGreatDoor
def S6 (n:Nat):Nat->Nat->Nat
 | 0,x=>x
 | f+1,x=>if x<=(x+n/x)/2 then x else S6 n f ((x+n/x)/2)
def Kj (n:Nat):Nat:=if n=0 then 0 else S6 n (2^((bl n+1)/2)) (2^((bl n+1)/2))
theorem kJ {a b:Nat}(h:a*a<b*b):a<b:=by
 by_cases hab:a<b
 ·exact hab
 ·have:=Nat.mul_le_mul (show b<=a by omega) (show b<=a by omega);omega
theorem Vr (n x:Nat)(hx:0<x):n<((x+n/x)/2+1)*((x+n/x)/2+1):=by
 have a:=Nat.lt_mul_div_succ n hx;generalize n/x=q at *;generalize hy:(x+q)/2=y at *;have b:x+q+1<=2*(y+1):=by omega
 -- n < x (q + 1), and 4 x (q + 1) <= (x + q + 1)^2
 have c:4*(x*(q+1))<=(x+(q+1))*(x+(q+1)):=by
  rcases Nat.le_total x (q+1) with h | h
  ·obtain ⟨d,hd⟩:∃ d,q+1=x+d:=⟨q+1-x,by omega⟩;rw [hd];have e:(x+(x+d))*(x+(x+d))=4*(x*(x+d))+d*d:=by grind
   omega
  ·obtain ⟨d,hd⟩:∃ d,x=(q+1)+d:=⟨x-(q+1),by omega⟩;rw [hd];have e:(q+1+d+(q+1))*(q+1+d+(q+1))=4*((q+1+d)*(q+1))+d*d:=by grind
   omega
 have d:(x+(q+1))*(x+(q+1))<=(2*(y+1))*(2*(y+1)):=Nat.mul_le_mul (by omega) (by omega);have e:(2*(y+1))*(2*(y+1))=4*((y+1)*(y+1)):=by grind
 omega
theorem hQ (n x:Nat)(hx:0<x)(h:x<=(x+n/x)/2):x*x<=n:=by
 have:x<=n/x:=by omega
 rwa [Nat.le_div_iff_mul_le hx] at this
theorem bJ (n x:Nat)(hx:0<x)(hn:0<n):0<(x+n/x)/2:=by
 have:=Vr n x hx;by_cases h:(x+n/x)/2=0
 ·rw [h] at this;omega
 ·exact Nat.pos_of_ne_zero h
theorem Xb (n:Nat)(hn:0<n):∀ f x,0<x->x<=f->n<(x+1)*(x+1)->S6 n f x*S6 n f x<=n/\n<(S6 n f x+1)*(S6 n f x+1)
 | 0,x,hx,hf,_=>by omega
 | f + 1, x, hx, hf, h => by
   unfold S6;by_cases hd:x<=(x+n/x)/2
   ·rw [Ak hd];exact ⟨hQ n x hx hd,h⟩
   ·rw [Af hd];exact Xb n hn f _ (bJ n x hx hn) (by omega) (Vr n x hx)
theorem fW (n:Nat):n<(2^((bl n+1)/2)+1)*(2^((bl n+1)/2)+1):=by
 have a:=Bm n;have b:2^bl n<=2^((bl n+1)/2+(bl n+1)/2):=Ee (by decide) (by omega);rw [Nat.pow_add] at b;have c:=Nat.mul_le_mul (Nat.le_succ (2^((bl n+1)/2))) (Nat.le_succ (2^((bl n+1)/2)));exact Dn a (Bp b c)
theorem Ob (n:Nat):Kj n*Kj n<=n/\n<(Kj n+1)*(Kj n+1):=by
 unfold Kj;by_cases h:n=0
 ·subst h;simp
 ·rw [Af h];exact Xb n (by omega) _ _ (Nat.pow_pos (by decide)) (Aq _) (fW n)
end Go.Proofs.YtabjjdicffcolaaGreatDoor
namespace Go.Proofs.YtabjjdicffcolaaGreatDoor
variable {xs:List Nat}
structure Raw where
 neg:Bool
 m:List Nat
 e:Int
structure Dy where
 neg:Bool
 m:Nat
 e:Int
def Dy.raw (d:Dy):Raw:=⟨d.neg,Al d.m,d.e⟩
def dz:Dy:=⟨false,0,0⟩
def Raw.dy (r:Raw):Dy:=⟨r.neg,Bq r.m,r.e⟩
def Io (r:Raw):Bool :=
 if r.m.length=0 then (!r.neg&&r.e==0) else (Wk r.m&&Ba r.m 0%2==1&&decide (-1048576<=r.e)&&decide (r.e<=1048576))
structure Dy.Ok (d:Dy):Prop where
 len:(Al d.m).length<=64
 zero:d.m=0->d.neg=false/\d.e=0
 odd:d.m≠0->d.m%2=1
 lo:-1048576<=d.e
 hi:d.e<=1048576
theorem dn (h:Small xs)(hm:Wk xs=true):Al (Bq xs)=xs:=by
 rw [<-Zg xs h];unfold Wk at hm;by_cases h0:xs.length=0
 ·obtain rfl:=G9 h0;rfl
 ·simp [h0] at hm;have hm2:=hm;obtain ⟨k,hk⟩:∃ k,xs.length=k+1:=⟨xs.length-1,by omega⟩;have:tl xs=xs.length:=by
   unfold tl;rw [hk,Ju,Af];have:=hm2.2;rwa [hk,Nat.add_sub_cancel] at this
  rw [this,Fq (Aq _)]
theorem jJ (hm:Wk xs=true):xs.length<=64:=by
 unfold Wk at hm;by_cases h0:xs.length=0
 ·omega
 ·simp [h0] at hm;exact hm.1
theorem Oj (n:Nat):Ba (Al n) 0=n%18446744073709551616:=by
 by_cases h:n=0
 ·subst h;rw [Be];rfl
 ·rw [D7 n h];rfl
theorem Kt {r:Raw}(h:Small r.m)(hm:Io r=true):r.dy.raw=r/\r.dy.Ok:=by
 obtain ⟨neg,m,e⟩:=r;unfold Io at hm;simp only at hm h;by_cases h0:m.length=0
 ·obtain rfl:=G9 h0;simp at hm;obtain ⟨rfl,rfl⟩:=hm;refine ⟨by simp [Raw.dy,Dy.raw,Bq,Be],?_⟩;refine ⟨by simp [Raw.dy,Bq,Be],λ_=>⟨rfl,rfl⟩,λh=>absurd rfl h,by simp [Raw.dy],by simp [Raw.dy]⟩
 ·rw [Af h0] at hm;simp only [Bool.and_eq_true,beq_iff_eq,decide_eq_true_eq] at hm;obtain ⟨⟨⟨h1,h2⟩,h3⟩,h4⟩:=hm;have hl:=dn h h1;have hv:Bq m≠0:=by
   intro hv;rw [hv,Be] at hl;rw [<-hl] at h0;simp at h0
  refine ⟨by simp only [Raw.dy,Dy.raw];rw [hl],?_⟩;refine ⟨by simp only [Raw.dy];rw [hl];exact jJ h1,λh=>absurd h hv,λ_=>?_,h3,h4⟩;simp only [Raw.dy];rw [<-hl,Oj] at h2;omega
theorem Wl (n:Nat)(h:(Al n).length<=64):Wk (Al n)=true:=by
 by_cases h0:n=0
 ·subst h0;rw [Be];rfl
 ·unfold Wk;have:=M7 n h0;simp [h]
  right
  exact this
theorem Dy.Ok.may {d:Dy}(h:d.Ok):Io d.raw=true:=by
 unfold Io Dy.raw;simp only;by_cases h0:d.m=0
 ·obtain ⟨a,b⟩:=h.zero h0;rw [h0,Be,a,b];rfl
 ·rw [Af (by have:=Br d.m h0;omega),Wl d.m h.len,Oj];have h1:=h.odd h0;have h2:=h.lo;have h3:=h.hi;have h4:d.m%18446744073709551616%2=1:=by omega
  simp [h4,h2,h3]
theorem Dy.raw_dy (d:Dy):d.raw.dy=d:=by
 simp [Dy.raw,Raw.dy,Cq]
theorem Nq:dz.Ok:=⟨by simp [dz,Be],λ_=>⟨rfl,rfl⟩,λh=>absurd rfl h,by decide,by decide⟩
structure Outc (α:Type) where
 v:α
 k:Int
def good {α:Type} (a:α):Outc α:=⟨a,0⟩
def Wv (k:Int):Outc Dy:=⟨dz,k⟩
def Ck (neg:Bool) (n:Nat) (e:Int):Outc Dy :=
 if n=0 then good dz
 else if 64<(Al (n/2^tz n)).length then Wv 2
 else if 1048576<e\/e < -1048576-tz n then Wv 3
 else if 1048576<e+tz n then Wv 3
 else good ⟨neg,n/2^tz n,e+tz n⟩
theorem E6 (neg:Bool)(n:Nat)(e:Int):(Ck neg n e).v.Ok/\((Ck neg n e).k≠0->(Ck neg n e).v=dz):=by
 unfold Ck;by_cases h0:n=0
 ·rw [Ak h0];exact ⟨Nq,λ_=>rfl⟩
 ·rw [Af h0];by_cases h1:64<(Al (n/2^tz n)).length
  ·rw [Ak h1];exact ⟨Nq,λ_=>rfl⟩
  ·rw [Af h1];by_cases h2:1048576<e∨e < -1048576-tz n
   ·rw [Ak h2];exact ⟨Nq,λ_=>rfl⟩
   ·rw [Af h2];by_cases h3:1048576<e+tz n
    ·rw [Ak h3];exact ⟨Nq,λ_=>rfl⟩
    ·rw [Af h3];have ho:=Wa n h0;refine ⟨⟨by simp only [good];omega,λhz=>?_,λ_=>ho,by simp only [good];omega,by simp only [good];omega⟩,λh=>absurd rfl h⟩;simp only [good] at hz;rw [hz] at ho;omega
end Go.Proofs.YtabjjdicffcolaaGreatDoor
namespace Go.Proofs.YtabjjdicffcolaaGreatDoor
variable {rest up:Bool} {a b e f l:Int} {m m' n p:Nat} {M d d' x y:Rat}
def pw (e:Int):Rat:=(2:Rat)^e
theorem I6 (e:Int):0<pw e:=Rat.zpow_pos (by decide)
theorem Fz (a b:Int):pw (a+b)=pw a*pw b:=Rat.zpow_add (by decide) a b
theorem F3:pw 0=1:=Rat.zpow_zero _
theorem Sf:pw 1=2:=Rat.zpow_one _
theorem Jy (n:Nat):pw (n:Int)=((2^n:Nat):Rat):=by
 unfold pw;rw [Rat.zpow_natCast,Rat.natCast_pow];rfl
theorem Qn (e:Int):pw e*pw (-e)=1:=by rw [<-Fz,Int.add_right_neg,F3]
theorem Pm (y:Rat)(i:Int):y*pw (-i)*pw i=y:=by rw [Rat.mul_assoc,Rat.mul_comm (pw (-i)),Qn,Rat.mul_one]
theorem Dx (e:Int):0<=pw e:=Rat.le_of_lt (I6 e)
theorem rR (e:Int):pw e≠0:=by have:=I6 e;grind
theorem aN (h:a<=b):pw b=((2^(b-a).toNat:Nat):Rat)*pw a:=by
 rw [<-Jy,<-Fz];congr 1;omega
theorem Gz (h:a<=b):pw a<=pw b:=by
 rw [aN h];have h1:(1:Rat)<=((2^(b-a).toNat:Nat):Rat):=by
  have:=Rat.natCast_le_natCast.2 (Nat.one_le_two_pow (n:=(b-a).toNat));exact this
 have h2:=Rat.mul_le_mul_of_nonneg_right h1 (Dx a);grind
def sq (s:Bool) (m:Nat):Rat:=if s then -(m:Rat) else m
theorem Zc (s:Bool)(m:Nat):sq (!s) m=-sq s m:=by cases s<;>simp [sq]
theorem Rk (s:Bool):sq s 0=0:=by cases s<;>simp [sq]
theorem q8 (s t:Bool)(m n:Nat):sq (s != t) (m*n)=sq s m*sq t n:=by
 cases s<;>cases t<;>simp [sq,Rat.natCast_mul]<;>grind
def Dy.q (d:Dy):Rat:=sq d.neg d.m*pw d.e
theorem ah:dz.q=0:=by simp [Dy.q,dz,sq]
theorem Dq {a b:Nat}:(a:Rat)<(b:Rat)↔a<b:=Rat.natCast_lt_natCast
theorem Dd {a b:Nat}:(a:Rat)<=(b:Rat)↔a<=b:=Rat.natCast_le_natCast
theorem Yy (h:m≠0):0<(m:Rat):=by
 have:=Dq.2 (Nat.pos_of_ne_zero h);simpa using this
theorem U6 (h:m≠0)(e:Int):0<(m:Rat)*pw e:=Rat.mul_pos (Yy h) (I6 e)
theorem Pn {d:Dy}(hd:d.Ok):d.q=0↔d=dz:=by
 constructor
 ·intro h;by_cases h0:d.m=0
  ·obtain ⟨a,b⟩:=hd.zero h0;obtain ⟨n,m,e⟩:=d;simp only at h0 a b;subst h0 a b;rfl
  ·exfalso;have:=U6 h0 d.e;unfold Dy.q sq at h;cases hn:d.neg<;>rw [hn] at h<;>simp at h<;>grind
 ·rintro rfl;exact ah
theorem Jd (m:Nat)(h:l<=e):(m:Rat)*pw e=((m*2^(e-l).toNat:Nat):Rat)*pw l:=by
 rw [aN h,Rat.natCast_mul,Rat.mul_assoc]
theorem Xg {a b:Rat}(e:Int):a*pw e<b*pw e↔a<b:=Rat.mul_lt_mul_right (I6 e)
theorem Ht {a b:Rat}(e:Int):a*pw e<=b*pw e↔a<=b:=by
 constructor
 ·intro h;exact Rat.le_of_mul_le_mul_right h (I6 e)
 ·intro h;exact Rat.mul_le_mul_of_nonneg_right h (Dx e)
theorem jG (m n:Nat)(h:l<=e)(k:l<=f):(m:Rat)*pw e<=(n:Rat)*pw f↔m*2^(e-l).toNat<=n*2^(f-l).toNat:=by
 rw [Jd m h,Jd n k,Ht,Dd]
theorem pP (m n:Nat)(h:l<=e)(k:l<=f):(m:Rat)*pw e<(n:Rat)*pw f↔m*2^(e-l).toNat<n*2^(f-l).toNat:=by
 rw [Jd m h,Jd n k,Xg,Dq]
theorem dl (m n:Nat)(h:l<=e)(k:l<=f):(m:Rat)*pw e=(n:Rat)*pw f↔m*2^(e-l).toNat=n*2^(f-l).toNat:=by
 constructor
 ·intro he;have h1:=(jG m n h k).1 (by rw [he];exact Rat.le_refl);have h2:=(jG n m k h).1 (by rw [he];exact Rat.le_refl);omega
 ·intro he;rw [Jd m h,Jd n k,he]
theorem fm (hm:m%2=1)(hn:n%2=1)(h:(m:Rat)*pw e=(n:Rat)*pw f):m=n/\e=f:=by
 rcases Int.le_total e f with hl | hl
 ·have h1:=(dl m n (Int.le_refl e) hl).1 h;obtain ⟨a,b⟩:=Kw hm hn h1;exact ⟨b,by omega⟩
 ·have h1:=(dl m n hl (Int.le_refl f)).1 h;obtain ⟨a,b⟩:=Kw hm hn h1;exact ⟨b,by omega⟩
theorem kt {a b:Dy}(ha:a.Ok)(hb:b.Ok)(h:a.q=b.q):a=b:=by
 by_cases h0:a.m=0
 ·have ha0:a.q=0:=by unfold Dy.q;rw [h0,Rk,Rat.zero_mul]
  rw [(Pn ha).1 ha0,(Pn hb).1 (by rw [<-h,ha0])]
 ·by_cases h1:b.m=0
  ·have hb0:b.q=0:=by unfold Dy.q;rw [h1,Rk,Rat.zero_mul]
   rw [(Pn hb).1 hb0,(Pn ha).1 (by rw [h,hb0])]
  ·have pa:=U6 h0 a.e;have pb:=U6 h1 b.e;have oa:=ha.odd h0;have ob:=hb.odd h1;obtain ⟨n1,m1,e1⟩:=a;obtain ⟨n2,m2,e2⟩:=b;simp only [Dy.q,sq] at *;cases n1<;>cases n2<;>simp only [if_true,if_false,Bool.false_eq_true] at h
   ·obtain ⟨rfl,rfl⟩:=fm oa ob h;rfl
   ·grind
   ·grind
   ·have h':(m1:Rat)*pw e1=(m2:Rat)*pw e2:=by grind
    obtain ⟨rfl,rfl⟩:=fm oa ob h';rfl
def Dh (x y:Rat):Int:=if x<y then -1 else if x=y then 0 else 1
theorem Zx (x y:Rat):Dh (-x) (-y)=-Dh x y:=by
 unfold Dh;by_cases h:x<y
 ·rw [Ak h,Af (by grind),Af (by grind)];rfl
 ·by_cases h1:x=y
  ·rw [Af h,Ak h1,Af (by grind),Ak (by rw [h1])];rfl
  ·rw [Af h,Af h1,Ak (by grind)]
theorem Mv {x y:Rat}:Dh x y<=0↔x<=y:=by
 unfold Dh;by_cases h:x<y
 ·rw [Ak h];constructor<;>intro<;>first | grind | decide
 ·by_cases h1:x=y
  ·rw [Af h,Ak h1];constructor<;>intro<;>first | grind | decide
  ·rw [Af h,Af h1];constructor<;>intro h2
   ·exact absurd h2 (by decide)
   ·grind
theorem Ti {x y:Rat}:0<=Dh x y↔y<=x:=by
 unfold Dh;by_cases h:x<y
 ·rw [Ak h];constructor<;>intro h2
  ·exact absurd h2 (by decide)
  ·grind
 ·by_cases h1:x=y
  ·rw [Af h,Ak h1];constructor<;>intro<;>first | grind | decide
  ·rw [Af h,Af h1];constructor<;>intro<;>first | grind | decide
theorem Tj {x y:Rat}:Dh x y<0↔x<y:=by
 have:=@Ti x y;constructor
 ·intro h;by_cases hxy:x<y
  ·exact hxy
  ·exfalso;have:(0:Int)<=Dh x y:=this.2 (by grind);omega
 ·intro h;by_cases hc:Dh x y<0
  ·exact hc
  ·exfalso;have:=this.1 (by omega);grind
theorem eD {x y:Rat}:0<Dh x y↔y<x:=by
 have:=@Mv x y;constructor
 ·intro h;by_cases hxy:y<x
  ·exact hxy
  ·exfalso;have:Dh x y<=0:=this.2 (by grind);omega
 ·intro h;by_cases hc:0<Dh x y
  ·exact hc
  ·exfalso;have:=this.1 (by omega);grind
theorem Wx (x:Rat):Dh x x=0:=by
 unfold Dh;rw [Af (by grind),Ak rfl]
theorem iQ (m n:Nat)(h:l<=e)(k:l<=f):Dh ((m:Rat)*pw e) ((n:Rat)*pw f)=Fx (m*2^(e-l).toNat) (n*2^(f-l).toNat):=by
 unfold Dh Fx;simp only [pP m n h k,dl m n h k]
def Fits (p:Nat) (y:Rat):Prop:=∃ s k j,bl k<=p/\y=sq s k*pw j
theorem Fits.neg (h:Fits p y):Fits p (-y):=by
 obtain ⟨s,k,j,hk,rfl⟩:=h;exact ⟨!s,k,j,hk,by rw [Zc];grind⟩
theorem Fits.pw (h:Fits p y)(i:Int):Fits p (y*pw i):=by
 obtain ⟨s,k,j,hk,rfl⟩:=h;exact ⟨s,k,j+i,hk,by rw [Fz,Rat.mul_assoc]⟩
structure IsDown (p:Nat) (x d:Rat):Prop where
 fits:Fits p d
 le:d<=x
 best:∀ y,Fits p y->y<=x->y<=d
structure IsUp (p:Nat) (x d:Rat):Prop where
 fits:Fits p d
 le:x<=d
 best:∀ y,Fits p y->x<=y->d<=y
def Kn (up:Bool) (p:Nat) (x d:Rat):Prop:=if up then IsUp p x d else IsDown p x d
theorem IsDown.neg (h:IsDown p x d):IsUp p (-x) (-d) :=
 ⟨h.fits.neg,by have:=h.le;grind,λy hy hx=>by have:=h.best (-y) hy.neg (by grind);grind⟩
theorem IsUp.neg (h:IsUp p x d):IsDown p (-x) (-d) :=
 ⟨h.fits.neg,by have:=h.le;grind,λy hy hx=>by have:=h.best (-y) hy.neg (by grind);grind⟩
theorem IsDown.unique (h:IsDown p x d)(h':IsDown p x d'):d=d':=by
 have a:=h.best _ h'.fits h'.le;have b:=h'.best _ h.fits h.le;grind
theorem IsUp.unique (h:IsUp p x d)(h':IsUp p x d'):d=d':=by
 have a:=h.best _ h'.fits h'.le;have b:=h'.best _ h.fits h.le;grind
theorem IsDown.of_fits (h:Fits p x):IsDown p x x:=⟨h,Rat.le_refl,λ_ _ h=>h⟩
theorem IsUp.of_fits (h:Fits p x):IsUp p x x:=⟨h,Rat.le_refl,λ_ _ h=>h⟩
theorem IsDown.pw (h:IsDown p x d)(i:Int):IsDown p (x*pw i) (d*pw i):=by
 refine ⟨h.fits.pw i,(Ht i).2 h.le,λy hy hx=>?_⟩;have h2:=h.best (y*Go.Proofs.YtabjjdicffcolaaGreatDoor.pw (-i)) (hy.pw (-i)) (by rw [<-Ht i,Pm];exact hx);rw [<-Ht i,Pm] at h2;exact h2
theorem IsUp.pw (h:IsUp p x d)(i:Int):IsUp p (x*pw i) (d*pw i):=by
 have:=(h.neg.pw i).neg;simpa [Rat.neg_mul] using this
theorem Py (hm:2^(p-1)<=m')(hp:1<=p)(hx:x<(m':Rat)+1)(hy:Fits p y)(hyx:y<=x):y<=m':=by
 obtain ⟨s,k,j,hk,rfl⟩:=hy;have hm0:(0:Rat)<=m':=Dd.2 (Nat.zero_le m');cases s
 case true =>
  have:sq true k*pw j<=0:=by
   have h1:(0:Rat)<=k:=Dd.2 (Nat.zero_le k);have h2:=Rat.mul_le_mul_of_nonneg_right h1 (Dx j);simp only [sq,if_true];grind
  grind
 case false =>
  simp only [sq,Bool.false_eq_true,if_false] at *;rcases Int.le_total 0 j with hj | hj
  ·have e:(k:Rat)*pw j=((k*2^j.toNat:Nat):Rat):=by
    have h:=Jd k hj;rw [F3] at h;simpa using h
   rw [e] at hyx ⊢;have h3:((k*2^j.toNat:Nat):Rat)<((m'+1:Nat):Rat):=by
    rw [Rat.natCast_add];have:((1:Nat):Rat)=1:=rfl;grind
   have:=Dq.1 h3;exact Dd.2 (by omega)
  ·by_cases hj0:j=0
   ·subst hj0;rw [F3,Rat.mul_one] at hyx ⊢;have h3:(k:Rat)<((m'+1:Nat):Rat):=by
     rw [Rat.natCast_add];have:((1:Nat):Rat)=1:=rfl;grind
    have:=Dq.1 h3;exact Dd.2 (by omega)
   ·have h1:(k:Rat)*pw j≤(k:Rat)*pw (-1):=by
     have h1:(0:Rat)<=k:=Dd.2 (Nat.zero_le k);exact Rat.mul_le_mul_of_nonneg_left (Gz (by omega)) h1
    have h2:k<=2*m':=by
     have h4:=Bm k;have h5:2^bl k<=2^p:=Ee (by decide) hk;have h6:2^p=2*2^(p-1):=by
      rw [<-Nat.pow_succ'];congr 1;omega
     omega
    have h3:(k:Rat)<=2*(m':Rat):=by
     have:=Dd.2 h2;rw [Rat.natCast_mul] at this;exact this
    have h4:=Qn (-1);have h5:pw (-(-1:Int))=2:=Sf;rw [h5] at h4;have h6:=I6 (-1);have h7:=Rat.mul_le_mul_of_nonneg_right h3 (Dx (-1));have h8:2*(m':Rat)*pw (-1)=m':=by
     rw [Rat.mul_comm 2,Rat.mul_assoc,Rat.mul_comm 2,h4,Rat.mul_one]
    rw [h8] at h7;exact Rat.le_trans h1 h7
theorem Ym (hm:2^(p-1)<=m')(hp:1<=p)(hx:(m':Rat)<x)(hy:Fits p y)(hyx:x<=y):(m':Rat)+1<=y:=by
 by_cases h:(m':Rat)+1<=y
 ·exact h
 ·exfalso;have:=Py hm hp (x:=y) (by grind) hy Rat.le_refl;grind
theorem pH (m n:Nat):((m/2^n:Nat):Rat)*((2^n:Nat):Rat)<=m/\(m:Rat)<(((m/2^n:Nat):Rat)+1)*((2^n:Nat):Rat):=by
 have h0:0<2^n:=Nat.two_pow_pos n;have h1:=Nat.div_add_mod m (2^n);have h2:=Nat.mod_lt m h0;constructor
 ·rw [<-Rat.natCast_mul,Dd];rw [Nat.mul_comm] at h1;omega
 ·have:(((m/2^n:Nat):Rat)+1)*((2^n:Nat):Rat)=(((m/2^n+1)*2^n:Nat):Rat):=by
   rw [Rat.natCast_mul,Rat.natCast_add];rfl
  rw [this,Dq,Nat.add_mul,Nat.one_mul];rw [Nat.mul_comm] at h1;omega
theorem Xw (m n:Nat)(h:m≠0):tz m<n↔m%2^n≠0:=by
 constructor
 ·intro hlt hz;have hd:2^n ∣ m:=Nat.dvd_of_mod_eq_zero hz;have h1:=V7 m h;have h2:=Wa m h;have h3:2^(tz m+1) ∣ m:=Nat.dvd_trans (Nat.pow_dvd_pow 2 hlt) hd;obtain ⟨c,hc⟩:=h3;have h4:m/2^tz m=2*c:=by
   apply Nat.div_eq_of_eq_mul_left (Nat.two_pow_pos _);have:2^(tz m+1)*c=2*c*2^tz m:=by rw [Nat.pow_succ,Nat.mul_assoc,Nat.mul_comm]
   omega
  omega
 ·intro hz;by_cases hc:tz m<n
  ·exact hc
  ·exfalso;apply hz;exact Nat.mod_eq_zero_of_dvd (Nat.dvd_trans (Nat.pow_dvd_pow 2 (by omega)) (Zj m h))
def Jx (m:Nat) (rest:Bool) (p:Nat):Bool × Nat × Nat :=
 let n:=bl m-p
 (rest||(decide (0<n)&&decide (tz m<n)),m/2^n,n)
theorem N1 (m n:Nat):bl (m/2^n)=bl m-n:=by
 by_cases h:m=0
 ·subst h;simp [bl]
 ·by_cases hn:n<bl m
  ·have h1:=D9 m h;have h2:=Bm m;have e:bl m-n=(bl m-n-1)+1:=by omega
   rw [e];refine i9 _ _ ?_ ?_
   ·rw [Nat.le_div_iff_mul_le (Nat.two_pow_pos n),←Nat.pow_add];have:bl m-n-1+n=bl m-1:=by omega
    rw [this];exact h1
   ·rw [Nat.div_lt_iff_lt_mul (Nat.two_pow_pos n),←Nat.pow_add];have:bl m-n-1+1+n=bl m:=by omega
    rw [this];exact h2
  ·have h2:=Bm m;have:m/2^n=0:=Nat.div_eq_of_lt (Dn h2 (Ee (by decide) (by omega)));rw [this,Hi];omega
def Wd (m:Nat) (rest:Bool) (M:Rat):Prop:=if rest then (m:Rat)<M/\M<(m:Rat)+1 else M=m
theorem Z9 (h:Wd m rest M)(h0:rest=true->p<bl m)(h1p:1<=p) :
 Wd (Jx m rest p).2.1 (Jx m rest p).1 (M*pw (-((bl m-p:Nat):Int)))/\((Jx m rest p).1=true->2^(p-1)<=(Jx m rest p).2.1)/\bl (Jx m rest p).2.1<=p:=by
 obtain ⟨n,hn⟩:∃ n,bl m-p=n:=⟨_,rfl⟩;simp only [Jx,hn];have hbl:bl (m/2^n)<=p:=by rw [N1];omega
 have hbig:0<n->2^(p-1)<=m/2^n:=by
  intro hp;have hm:m≠0:=by rintro rfl;simp [bl] at hn;omega
  have h1:=D9 m hm;rw [Nat.le_div_iff_mul_le (Nat.two_pow_pos n),<-Nat.pow_add];refine Bp (Ee (by decide) ?_) h1;omega
 by_cases hp:0<n
 ·have hm:m≠0:=by rintro rfl;simp [bl] at hn;omega
  have hd:decide (0<n)=true:=by simp [hp]
  rw [hd,Bool.true_and];obtain ⟨d1,d2⟩:=pH m n;have e1:=Qn (n:Int);rw [Jy] at e1;have e2:=I6 (-(n:Int));have e3:0<((2^n:Nat):Rat):=by rw [<-Jy];exact I6 _
  refine ⟨?_,λ_=>hbig hp,hbl⟩;by_cases hr:(rest||decide (tz m<n))=true
  ·rw [hr];simp only [Wd ,if_true];have hstrict:((m/2^n:Nat):Rat)*((2^n:Nat):Rat)<M∧M<(((m/2^n:Nat):Rat)+1)*((2^n:Nat):Rat):=by
    cases rest
    ·simp only [Wd,Bool.false_eq_true,if_false] at h;simp only [Bool.false_or,decide_eq_true_eq] at hr;have hz:=(Xw m n hm).1 hr;subst h;refine ⟨?_,d2⟩;rw [<-Rat.natCast_mul,Dq];have h1:=Nat.div_add_mod m (2^n);rw [Nat.mul_comm] at h1;omega
    ·simp only [Wd,if_true] at h;refine ⟨by grind,?_⟩;have:(((m/2^n:Nat):Rat)+1)*((2^n:Nat):Rat)=(((m/2^n+1)*2^n:Nat):Rat):=by
      rw [Rat.natCast_mul,Rat.natCast_add];rfl
     rw [this] at d2 ⊢;have d3:=Dq.1 d2;have d4:((m+1:Nat):Rat)<=(((m/2^n+1)*2^n:Nat):Rat):=Dd.2 d3;rw [Rat.natCast_add] at d4;have:((1:Nat):Rat)=1:=rfl;grind
   generalize ((m/2^n:Nat):Rat)=A at *;generalize ((2^n:Nat):Rat)=B at *;generalize pw (-(n:Int))=C at *;obtain ⟨s1,s2⟩:=hstrict;have t1:=(Rat.mul_lt_mul_right e2).2 s1;have t2:=(Rat.mul_lt_mul_right e2).2 s2;rw [Rat.mul_assoc,e1,Rat.mul_one] at t1 t2;exact ⟨t1,t2⟩
  ·have hr':(rest||decide (tz m<n))=false:=by simpa using hr
   rw [hr'];simp only [Bool.or_eq_false_iff,decide_eq_false_iff_not] at hr';obtain ⟨r1,r2⟩:=hr';subst r1;simp only [Wd,Bool.false_eq_true,if_false] at h ⊢;have hz:m%2^n=0:=by
    by_cases hz:m%2^n=0
    ·exact hz
    ·exact absurd ((Xw m n hm).2 hz) r2
   have h1:=Nat.div_add_mod m (2^n);rw [hz,Nat.add_zero,Nat.mul_comm] at h1;have h2:((m/2^n:Nat):Rat)*((2^n:Nat):Rat)=m:=by rw [<-Rat.natCast_mul,h1]
   subst h;rw [<-h2,Rat.mul_assoc,e1,Rat.mul_one]
 ·have hn0:n=0:=by omega
  subst hn0;have hr:rest=false:=by
   cases rest
   ·rfl
   ·have:=h0 rfl;omega
  subst hr;have e:pw (-((0:Nat):Int))=1:=F3;refine ⟨?_,λh=>?_,hbl⟩
  ·rw [e,Rat.mul_one];simpa [Wd] using h
  ·simp at h
def Fd (m:Nat) (rest:Bool) (p:Nat) (away:Bool):Nat:=if (Jx m rest p).1&&away then (Jx m rest p).2.1+1 else (Jx m rest p).2.1
theorem L8 (h:bl m<=p):Fits p (m:Rat):=⟨false,m,0,h,by simp [sq,F3]⟩
theorem fT (h:bl m<=p)(hp:1<=p):Fits p ((m:Rat)+1):=by
 have e:(m:Rat)+1=((m+1:Nat):Rat):=by rw [Rat.natCast_add];rfl
 rw [e];by_cases hb:bl (m+1)<=p
 ·exact L8 hb
 ·have h1:=Bm m;have h2:2^bl m≤2^p:=Ee (by decide) h;have h3:m+1=2^p:=by
   by_cases h4:m+1<2^p
   ·exact absurd (Gl _ _ h4) hb
   ·omega
  rw [h3];refine ⟨false,1,p,?_,?_⟩
  ·have:bl 1=1:=by decide
   omega
  ·rw [Jy];simp only [sq,Bool.false_eq_true,if_false];exact (Rat.one_mul _).symm
theorem Pb (h:Wd m rest M)(h0:rest=true->p<bl m)(hp:1<=p) :
 IsDown p M ((Fd m rest p false:Rat)*pw ((bl m-p:Nat):Int)):=by
 obtain ⟨hm,hb,hl⟩:=Z9 h h0 hp;have e1:=Qn (((bl m-p:Nat):Int));have key:IsDown p (M*pw (-((bl m-p:Nat):Int))) (Fd m rest p false:Rat):=by
  unfold Fd;rw [Bool.and_false];simp only [Bool.false_eq_true,if_false];generalize (Jx m rest p).2.1=m' at *;generalize (Jx m rest p).1=r' at *;generalize M*pw (-((bl m-p:Nat):Int))=x at *;cases r'
  ·simp only [Wd,Bool.false_eq_true,if_false] at hm;subst hm;exact .of_fits (L8 hl)
  ·simp only [Wd,if_true] at hm;exact ⟨L8 hl,by grind,λy hy hx=>Py (hb rfl) hp hm.2 hy hx⟩
 have:=key.pw ((bl m-p:Nat):Int);rw [Rat.mul_assoc,Rat.mul_comm (pw _),e1,Rat.mul_one] at this;exact this
theorem Tl (h:Wd m rest M)(h0:rest=true->p<bl m)(hp:1<=p) :
 IsUp p M ((Fd m rest p true:Rat)*pw ((bl m-p:Nat):Int)):=by
 obtain ⟨hm,hb,hl⟩:=Z9 h h0 hp;have e1:=Qn (((bl m-p:Nat):Int));have key:IsUp p (M*pw (-((bl m-p:Nat):Int))) (Fd m rest p true:Rat):=by
  unfold Fd;rw [Bool.and_true];generalize (Jx m rest p).2.1=m' at *;generalize (Jx m rest p).1=r' at *;generalize M*pw (-((bl m-p:Nat):Int))=x at *;cases r'
  ·simp only [Wd,Bool.false_eq_true,if_false] at hm ⊢;subst hm;exact .of_fits (L8 hl)
  ·simp only [Wd,if_true] at hm ⊢;have e:((m'+1:Nat):Rat)=(m':Rat)+1:=by rw [Rat.natCast_add];rfl
   rw [e];exact ⟨fT hl hp,by grind,λy hy hx=>Ym (hb rfl) hp hm.1 hy hx⟩
 have:=key.pw ((bl m-p:Nat):Int);rw [Rat.mul_assoc,Rat.mul_comm (pw _),e1,Rat.mul_one] at this;exact this
def Kc (neg:Bool) (m:Nat) (e:Int) (rest:Bool) (p:Nat) (up:Bool):Outc Dy :=
 Ck neg (Fd m rest p (up != neg)) (e+((bl m-p:Nat):Int))
theorem Lx {neg:Bool}(h:(Ck neg n e).k=0):(Ck neg n e).v.q=sq neg n*pw e:=by
 unfold Ck at *;by_cases h0:n=0
 ·rw [Ak h0];subst h0;rw [Rk,Rat.zero_mul];exact ah
 ·rw [Af    h0] at h ⊢;by_cases h1:64<(Al    (n/2^tz n)).length
  ·rw [Ak h1] at h;exact absurd h (by decide)
  ·rw [Af h1] at h ⊢;by_cases h2:1048576<e∨e < -1048576-tz n
   ·rw [Ak h2] at h;exact absurd h (by decide)
   ·rw [Af h2] at h ⊢;by_cases h3:1048576<e+tz n
    ·rw [Ak h3] at h;exact absurd h (by decide)
    ·rw [Af h3];simp only [good,Dy.q];rw [Int.add_comm,Fz,Jy,←Rat.mul_assoc]
     congr 1
     have:=V7 n h0;unfold sq;cases neg
     ·simp only [Bool.false_eq_true,if_false];rw [<-Rat.natCast_mul,this]
     ·simp only [if_true];rw [Rat.neg_mul,<-Rat.natCast_mul,this]
theorem Z8 {neg:Bool}(h:Wd m rest M)(h0:rest=true->p<bl m)(hp:1<=p)
 (hk:(Kc neg m e rest p up).k=0):Kn up p ((if neg then -M else M)*pw e) (Kc neg m e rest p up).v.q:=by
 unfold Kc at *;rw [Lx hk,Int.add_comm,Fz,<-Rat.mul_assoc];unfold Kn;cases neg<;>cases up
 ·exact ((Pb h h0 hp).pw e)
 ·exact ((Tl h h0 hp).pw e)
 ·have e1:(false != true)=true:=rfl;have:=((Tl h h0 hp).neg).pw e;simpa only [e1,Bool.false_eq_true,if_false,if_true,sq,Rat.neg_mul] using this
 ·have e1:(true != true)=false:=rfl;have:=((Pb h h0 hp).neg).pw e;simpa only [e1,Bool.false_eq_true,if_false,if_true,sq,Rat.neg_mul] using this
end Go.Proofs.YtabjjdicffcolaaGreatDoor
namespace Go.Proofs.YtabjjdicffcolaaGreatDoor
variable {up:Bool} {a b d x y:Dy} {p:Nat}
def Ff (d:Dy):Dy:=if d.m=0 then d else ⟨!d.neg,d.m,d.e⟩
theorem dv (d:Dy):(Ff d).q=-d.q:=by
 unfold Ff Dy.q;by_cases h:d.m=0
 ·rw [Ak h,h,Rk,Rat.zero_mul];rfl
 ·rw [Af h];simp only [Zc,Rat.neg_mul]
theorem Kg (h:d.Ok):(Ff d).Ok:=by
 unfold Ff;by_cases h0:d.m=0
 ·rw [Ak h0];exact h
 ·rw [Af h0];exact ⟨h.len,λhz=>absurd hz h0,h.odd,h.lo,h.hi⟩
def Oz (a b:Dy):Outc Dy :=
 if ¬a.e=b.e/\4097-(bl a.m:Int)<a.e-b.e then Wv 2
 else if a.neg=b.neg then Ck a.neg (a.m*2^(a.e-b.e).toNat+b.m) b.e
 else if b.m<=a.m*2^(a.e-b.e).toNat then Ck a.neg (a.m*2^(a.e-b.e).toNat-b.m) b.e
 else Ck b.neg (b.m-a.m*2^(a.e-b.e).toNat) b.e
def Ey (x y:Dy):Outc Dy :=
 if x.m=0 then good y else if y.m=0 then good x else if x.e<y.e then Oz y x else Oz x y
theorem kR (h:b.e<=a.e)(hk:(Oz a b).k=0):(Oz a b).v.q=a.q+b.q:=by
 have e1:sq a.neg (a.m*2^(a.e-b.e).toNat)*pw b.e=a.q:=by
  unfold Dy.q;have:=Jd a.m h;unfold sq;cases a.neg
  ·simp only [Bool.false_eq_true,if_false];exact this.symm
  ·simp only [if_true,Rat.neg_mul];rw [this]
 unfold Oz at *;by_cases h1:¬a.e=b.e/\4097-(bl a.m:Int)<a.e-b.e
 ·rw [Ak h1] at hk;exact absurd hk (by decide)
 ·rw [Af h1] at hk ⊢;generalize a.m*2^(a.e-b.e).toNat=X at *;by_cases h2:a.neg=b.neg
  ·rw [Ak h2] at hk ⊢;rw [Lx hk,←e1];unfold Dy.q;rw [h2];unfold sq;cases b.neg
   ·simp only [Bool.false_eq_true,if_false,Rat.natCast_add,Rat.add_mul]
   ·simp only [if_true,Rat.natCast_add,Rat.neg_mul,Rat.add_mul];grind
  ·rw [Af h2] at hk ⊢;have e2:b.neg=!a.neg:=by cases ha:a.neg<;>cases hb:b.neg<;>simp_all
   by_cases h3:b.m<=X
   ·rw [Ak h3] at hk ⊢;rw [Lx hk,←e1];unfold Dy.q;rw [e2,Zc];obtain ⟨c,rfl⟩:∃ c,X=b.m+c:=⟨X-b.m,by omega⟩;rw [Nat.add_sub_cancel_left];unfold sq;cases a.neg
    ·simp only [Bool.false_eq_true,if_false,Rat.natCast_add,Rat.add_mul,Rat.neg_mul];grind
    ·simp only [if_true,Rat.natCast_add,Rat.neg_mul,Rat.add_mul];grind
   ·rw [Af h3] at hk ⊢;rw [Lx hk,←e1];unfold Dy.q;rw [e2,Zc];obtain ⟨c,hc⟩:∃ c,b.m=X+c:=⟨b.m-X,by omega⟩;rw [hc,Nat.add_sub_cancel_left];unfold sq;cases a.neg
    ·simp only [Bool.false_eq_true,if_false,Rat.natCast_add,Rat.neg_mul];grind
    ·simp only [if_true,Rat.natCast_add,Rat.neg_mul];grind
theorem Qt (h:d.m=0):d.q=0:=by unfold Dy.q;rw [h,Rk,Rat.zero_mul]
theorem Qs (hk:(Ey x y).k=0):(Ey x y).v.q=x.q+y.q:=by
 unfold Ey at *;by_cases h0:x.m=0
 ·rw [Ak h0,Qt h0,Rat.zero_add];rfl
 ·rw [Af h0] at hk ⊢;by_cases h1:y.m=0
  ·rw [Ak h1,Qt h1,Rat.add_zero];rfl
  ·rw [Af h1] at hk ⊢;by_cases h2:x.e<y.e
   ·rw [Ak h2] at hk ⊢;rw [kR (by omega) hk,Rat.add_comm]
   ·rw [Af h2] at hk ⊢;exact kR (by omega) hk
def Outc.Ok (o:Outc Dy):Prop:=o.v.Ok/\(o.k≠0->o.v=dz)
theorem Q7 (h:d.Ok):(good d).Ok:=⟨h,λh=>absurd rfl h⟩
theorem Nz (k:Int):(Wv k).Ok:=⟨Nq,λ_=>rfl⟩
theorem Zf (a b:Dy):(Oz a b).Ok:=by
 unfold Oz;split
 ·exact Nz _
 ·split
  ·exact E6 _ _ _
  ·split<;>exact E6 _ _ _
theorem Ls (hx:x.Ok)(hy:y.Ok):(Ey x y).Ok:=by
 unfold Ey;split
 ·exact Q7 hy
 ·split
  ·exact Q7 hx
  ·split<;>exact Zf _ _
def Ch (x y:Dy):Outc Dy:=Ck (x.neg != y.neg) (x.m*y.m) (x.e+y.e)
theorem Na (hk:(Ch x y).k=0):(Ch x y).v.q=x.q*y.q:=by
 unfold Ch at *;rw [Lx hk,q8,Fz];unfold Dy.q;grind
theorem Kf (x y:Dy):(Ch x y).Ok:=E6 _ _ _
def Hp (d:Dy) (n:Int):Outc Dy :=
 if d.m=0 then good d else if 2097152<n\/n < -2097152 then Wv 3 else Ck d.neg d.m (d.e+n)
theorem kG {n:Int}(hk:(Hp d n).k=0):(Hp d n).v.q=d.q*pw n:=by
 unfold Hp at *;by_cases h:d.m=0
 ·rw [Ak h];simp only [good];rw [Qt h,Rat.zero_mul]
 ·rw [Af h] at hk ⊢;by_cases h1:2097152<n∨n < -2097152
  ·rw [Ak h1] at hk;exact absurd hk (by decide)
  ·rw [Af h1] at hk ⊢;rw [Lx hk,Fz,<-Rat.mul_assoc];rfl
theorem Xm (h:d.Ok)(n:Int):(Hp d n).Ok:=by
 unfold Hp;split
 ·exact Q7 h
 ·split
  ·exact Nz _
  ·exact E6 _ _ _
def Dj (d:Dy) (p:Nat) (up:Bool):Outc Dy:=Kc d.neg d.m d.e false p up
theorem Ia (d:Dy)(p:Nat)(up:Bool):(Dj d p up).Ok:=E6 _ _ _
theorem Ug (hp:1<=p)(hk:(Dj d p up).k=0):Kn up p d.q (Dj d p up).v.q:=by
 have h:=Z8 (neg:=d.neg) (m:=d.m) (e:=d.e) (rest:=false) (p:=p) (up:=up) (M:=d.m) (by simp [Wd]) (by simp) hp hk;have e:(if d.neg then -(d.m:Rat) else d.m)*pw d.e=d.q:=rfl;rw [e] at h;exact h
def Ce (a b:Dy) (p:Nat):Nat:=p+1+bl b.m-bl a.m
def Bg (a b:Dy) (p:Nat) (up:Bool):Outc Dy :=
 Kc (a.neg != b.neg) (a.m*2^Ce a b p/b.m) (a.e-b.e-Ce a b p) (decide (¬a.m*2^Ce a b p%b.m=0)) p up
theorem aC (n m:Nat)(h:m≠0):Wd (n/m) (decide (¬n%m=0)) ((n:Rat)/m):=by
 have hm:0<(m:Rat):=Yy h;have h1:=Nat.div_add_mod n m;have h2:=Nat.mod_lt n (Nat.pos_of_ne_zero h);rw [Nat.mul_comm] at h1;by_cases hr:n%m=0
 ·have:decide (¬n%m=0)=false:=by simp [hr]
  rw [this];simp only [Wd,Bool.false_eq_true,if_false];rw [hr,Nat.add_zero] at h1;have h3:(n:Rat)=((n/m:Nat):Rat)*m:=by rw [<-Rat.natCast_mul,h1]
  rw [h3];generalize ((n/m:Nat):Rat)=A;rw [Rat.mul_div_cancel (by grind)]
 ·have:decide (¬n%m=0)=true:=by simp [hr]
  rw [this];simp only [Wd,if_true];rw [Rat.lt_div_iff hm,Rat.div_lt_iff hm,<-Rat.natCast_mul];have e:((n/m:Nat):Rat)+1=((n/m+1:Nat):Rat):=by rw [Rat.natCast_add];rfl
  rw [e,<-Rat.natCast_mul,Dq,Dq,Nat.add_mul,Nat.one_mul];omega
theorem Ri (a b p:Nat)(ha:a≠0)(hb:b≠0)(k:Nat)(hk:p+1+bl b<=bl a+k):p<bl (a*2^k/b):=by
 apply jE;rw [Nat.le_div_iff_mul_le (Nat.pos_of_ne_zero hb)];have h1:=D9 a ha;have h2:=Bm b;have h3:2^p*b<=2^p*2^bl b:=Nat.mul_le_mul_left _ (by omega);have h4:2^(bl a-1)*2^k<=a*2^k:=Fh _ h1;rw [<-Nat.pow_add] at h3 h4;refine Bp h3 (Bp (Ee (by decide) ?_) h4);have:=Df a ha;omega
theorem qx (s t:Bool)(x:Rat)(m n:Nat)(hx:(m:Rat)=x*n):(if (s != t) then -x else x)*sq t n=sq s m:=by
 cases s<;>cases t<;>simp [sq,hx]<;>grind
theorem Po (hp:1<=p)(hb:b.m≠0)(hk:(Bg a b p up).k=0):Kn up p (a.q/b.q) (Bg a b p up).v.q:=by
 unfold Bg at *;have hm:=aC (a.m*2^Ce a b p) b.m hb;have h:=Z8 hm ?_ hp hk
 ·have e:(if (a.neg != b.neg) then -(((a.m*2^Ce a b p:Nat):Rat)/b.m) else ((a.m*2^Ce a b p:Nat):Rat)/b.m)*pw (a.e-b.e-Ce a b p)=a.q/b.q:=by
   have hbq:b.q≠0:=by
    have:=U6 hb b.e;unfold Dy.q sq;cases b.neg<;>simp<;>grind
   have hb0:=Yy hb;rw [Rat.div_def a.q];have key:(if (a.neg != b.neg) then -(((a.m*2^Ce a b p:Nat):Rat)/b.m) else ((a.m*2^Ce a b p:Nat):Rat)/b.m)*pw (a.e-b.e-Ce a b p)*b.q=a.q:=by
    unfold Dy.q;have h1:=qx a.neg b.neg (((a.m*2^Ce a b p:Nat):Rat)/b.m) (a.m*2^Ce a b p) b.m (by rw [Rat.div_mul_cancel (by grind)]);have h2:pw (a.e-b.e-Ce a b p)*pw b.e*pw (Ce a b p)=pw a.e:=by
     rw [<-Fz,<-Fz];congr 1;omega
    have h3:sq a.neg (a.m*2^Ce a b p)=sq a.neg a.m*pw (Ce a b p):=by
     rw [Jy];unfold sq;cases a.neg<;>simp [Rat.natCast_mul,Rat.neg_mul]
    rw [h3] at h1;generalize (if (a.neg != b.neg) then -(((a.m*2^Ce a b p:Nat):Rat)/b.m) else ((a.m*2^Ce a b p:Nat):Rat)/b.m)=A at *;generalize sq a.neg a.m=B at *;generalize sq b.neg b.m=C at *;have h4:=I6 (Ce a b p);have h5:=rR (Ce a b p);generalize pw (a.e-b.e-Ce a b p)=D at *;generalize pw (Ce a b p)=E at *;generalize pw b.e=F at *;generalize pw a.e=G at *;have h6:A*D*(C*F)=B*(D*F*E):=by
     have:A*D*(C*F)=(A*C)*(D*F):=by grind
     rw [this,h1];grind
    rw [h6,h2]
   rw [<-key,Rat.mul_assoc,Rat.mul_inv_cancel _ hbq,Rat.mul_one]
  rw [e] at h;exact h
 ·intro hr;have ha:a.m≠0:=by
   intro ha;rw [ha,Nat.zero_mul,Nat.zero_mod] at hr;simp at hr
  exact Ri a.m b.m p ha hb (Ce a b p) (by unfold Ce;omega)
theorem Fo (a b:Dy)(p:Nat)(up:Bool):(Bg a b p up).Ok:=E6 _ _ _
end Go.Proofs.YtabjjdicffcolaaGreatDoor
namespace Go.Proofs.YtabjjdicffcolaaGreatDoor
variable {m p x:Nat} {a b:Rat}
def L4 (d:Dy) (p:Nat):Nat:=2*p+2-bl d.m
def Oq (d:Dy) (p:Nat):Nat:=if (d.e-L4 d p)%2=0 then L4 d p else L4 d p+1
def Jm (d:Dy) (p:Nat) (up:Bool):Outc Dy :=
 Kc false (Kj (d.m*2^Oq d p)) ((d.e-Oq d p)/2) (decide (¬Kj (d.m*2^Oq d p)*Kj (d.m*2^Oq d p)=d.m*2^Oq d p)) p up
theorem Vc (d:Dy)(p:Nat)(up:Bool):(Jm d p up).Ok:=E6 _ _ _
theorem Vd (d:Dy)(p:Nat):(d.e-Oq d p)%2=0:=by
 unfold Oq;by_cases h:(d.e-L4 d p)%2=0
 ·rw [Ak h];exact h
 ·rw [Af h];omega
theorem ku (d:Dy)(p:Nat):L4 d p<=Oq d p:=by
 unfold Oq;split<;>omega
structure Qd (p:Nat) (x d:Rat):Prop where
 fits:Fits p d
 nonneg:0<=d
 le:d*d<=x
 best:∀ y,Fits p y->0<=y->y*y<=x->y<=d
structure Tv (p:Nat) (x d:Rat):Prop where
 fits:Fits p d
 nonneg:0<=d
 le:x<=d*d
 best:∀ y,Fits p y->0<=y->x<=y*y->d<=y
def Wr (up:Bool) (p:Nat) (x d:Rat):Prop:=if up then Tv p x d else Qd p x d
theorem Xo (ha:0<=a)(h:a<=b):a*a<=b*b:=by
 have h1:=Rat.mul_le_mul_of_nonneg_left h ha;have h2:=Rat.mul_le_mul_of_nonneg_right h (by grind:0<=b);grind
theorem oP (hb:0<=b)(h:a*a<b*b):a<b:=by
 by_cases hc:a<b
 ·exact hc
 ·have:=Xo hb (by grind:b<=a);grind
theorem jF (ha:0<=a)(h:a<b):a*a<b*b:=by
 have h1:=Xo ha (by grind:a<=b);by_cases hc:a*a<b*b
 ·exact hc
 ·exfalso;have h2:a*a=b*b:=by grind
  have h3:=(Rat.mul_lt_mul_right (by grind:0<b)).2 h;have h4:=Rat.mul_le_mul_of_nonneg_left (by grind:a<=b) ha;grind
theorem lP (x y:Rat):∃ M,x<M/\M<x+1/\(y<x+1->y<=M):=by
 by_cases h:x<y/\y<x+1
 ·exact ⟨y,h.1,h.2,λ_=>Rat.le_refl⟩
 ·refine ⟨x+1/2,by grind,by grind,fun hy=>?_⟩;have:¬x<y:=fun hx=>h ⟨hx,hy⟩
  grind
theorem i5 (x y:Rat):∃ M,x<M/\M<x+1/\(x<y->M<=y):=by
 by_cases h:x<y/\y<x+1
 ·exact ⟨y,h.1,h.2,λ_=>Rat.le_refl⟩
 ·refine ⟨x+1/2,by grind,by grind,fun hx=>?_⟩;have:¬y<x+1:=fun hy=>h ⟨hx,hy⟩
  grind
theorem Hk (n:Nat):(0:Rat)<=n:=Dd.2 (Nat.zero_le n)
theorem Wo (h1:x*x<=m)(h2:m<(x+1)*(x+1))(h0:¬x*x=m->p<bl x)(hp:1<=p) :
 Qd p m ((Fd x (decide (¬x*x=m)) p false:Rat)*pw ((bl x-p:Nat):Int)):=by
 have q1:((x:Rat))*x<=m:=by rw [<-Rat.natCast_mul];exact Dd.2 h1
 have q2:(m:Rat)<(x+1)*(x+1):=by
  have:=Dq.2 h2;rw [Rat.natCast_mul,Rat.natCast_add] at this;exact this
 have hx0:=Hk x;have hnn:(0:Rat)<=(Fd x (decide (¬x*x=m)) p false:Rat)*pw ((bl x-p:Nat):Int):=Rat.mul_nonneg (Hk _) (Dx _);by_cases he:x*x=m
 ·have hd:decide (¬x*x=m)=false:=by simp [he]
  rw [hd] at hnn ⊢;have k:=Pb (m:=x) (rest:=false) (p:=p) (M:=x) (by simp [Wd]) (by simp) hp;have q3:(m:Rat)=x*x:=by rw [<-Rat.natCast_mul,he]
  rw [q3];exact ⟨k.fits,hnn,Xo hnn k.le,λy hy hy0 hyx=>k.best y hy (by
   by_cases hc:y<=x
   ·exact hc
   ·have:=jF hx0 (by grind:(x:Rat)<y);grind)⟩
 ·have hd:decide (¬x*x=m)=true:=by simp [he]
  rw [hd] at hnn ⊢;have k:=λM (a:(x:Rat)<M) (b:M<x+1)=>Pb (m:=x) (rest:=true) (p:=p) (M:=M) (by simp only [Wd,if_true];exact ⟨a,b⟩) (λ_=>h0 he) hp
  generalize (Fd x true p false:Rat)*pw ((bl x-p:Nat):Int)=d at *;have k1:=k (x+1/2) (by grind) (by grind);have hdx:d<=x:=by
   by_cases hc:d<=x
   ·exact hc
   ·exfalso;have k2:=k (if d<x+1/2 then (x+d)/2 else x+1/4) (by split<;>grind) (by split<;>grind);have:=k2.le;split at this<;>grind
  refine ⟨k1.fits,hnn,Rat.le_trans (Xo hnn hdx) q1,λy hy hy0 hyx=>?_⟩;obtain ⟨M,a,b,c⟩:=lP x y;exact (k M a b).best y hy (c (oP (by grind) (by grind)))
theorem be (h1:x*x<=m)(h2:m<(x+1)*(x+1))(h0:¬x*x=m->p<bl x)(hp:1<=p) :
 Tv p m ((Fd x (decide (¬x*x=m)) p true:Rat)*pw ((bl x-p:Nat):Int)):=by
 have q1:((x:Rat))*x<=m:=by rw [<-Rat.natCast_mul];exact Dd.2 h1
 have q2:(m:Rat)<(x+1)*(x+1):=by
  have:=Dq.2 h2;rw [Rat.natCast_mul,Rat.natCast_add] at this;exact this
 have hx0:=Hk x;have hnn:(0:Rat)<=(Fd x (decide (¬x*x=m)) p true:Rat)*pw ((bl x-p:Nat):Int):=Rat.mul_nonneg (Hk _) (Dx _);by_cases he:x*x=m
 ·have hd:decide (¬x*x=m)=false:=by simp [he]
  rw [hd] at hnn ⊢;have k:=Tl (m:=x) (rest:=false) (p:=p) (M:=x) (by simp [Wd]) (by simp) hp;have q3:(m:Rat)=x*x:=by rw [<-Rat.natCast_mul,he]
  rw [q3];exact ⟨k.fits,hnn,Xo hx0 k.le,λy hy hy0 hyx=>k.best y hy (by
   by_cases hc:(x:Rat)<=y
   ·exact hc
   ·have:=jF hy0 (by grind:y<(x:Rat));grind)⟩
 ·have hd:decide (¬x*x=m)=true:=by simp [he]
  rw [hd] at hnn ⊢;have k:=λM (a:(x:Rat)<M) (b:M<x+1)=>Tl (m:=x) (rest:=true) (p:=p) (M:=M) (by simp only [Wd,if_true];exact ⟨a,b⟩) (λ_=>h0 he) hp
  have q4:(x:Rat)*x<m:=by rw [<-Rat.natCast_mul];exact Dq.2 (by omega)
  generalize (Fd x true p true:Rat)*pw ((bl x-p:Nat):Int)=d at *;have k1:=k (x+1/2) (by grind) (by grind);have hdx:(x:Rat)+1<=d:=by
   by_cases hc:(x:Rat)+1<=d
   ·exact hc
   ·exfalso;have k2:=k (if x+1/2<d then (x+1+d)/2 else x+3/4) (by split<;>grind) (by split<;>grind);have:=k2.le;split at this<;>grind
  refine ⟨k1.fits,hnn,?_,λy hy hy0 hyx=>?_⟩
  ·have:=Xo (by grind:(0:Rat)<=x+1) hdx;grind
  ·obtain ⟨M,a,b,c⟩:=i5 x y;exact (k M a b).best y hy (c (oP hy0 (by grind)))
theorem nK (a p:Nat)(ha:a≠0)(k:Nat)(hk:2*p+2<=bl a+k):p<bl (Kj (a*2^k)):=by
 apply jE;have h1:=D9 a ha;have h4:2^(bl a-1)*2^k<=a*2^k:=Fh _ h1;rw [<-Nat.pow_add] at h4;have h5:2^(2*p)<=a*2^k:=Bp (Ee (by decide) (by have:=Df a ha;omega)) h4;have h6:2^(2*p)=2^p*2^p:=by rw [<-Nat.pow_add];congr 1;omega
 have h7:=(Ob (a*2^k)).2;have h8:=kJ (a:=2^p) (b:=Kj (a*2^k)+1) (by omega);omega
theorem Xi {d:Dy}{up:Bool}(hp:1<=p)(hn:d.neg=false)(hk:(Jm d p up).k=0):Wr up p d.q (Jm d p up).v.q:=by
 unfold Jm Kc at *;rw [Lx hk];have hev:=Vd d p;have hle:=ku d p;have hk0:2*p+2<=bl d.m+L4 d p:=by unfold L4;omega
 clear hk;generalize Oq d p=k at *;obtain ⟨s1,s2⟩:=Ob (d.m*2^k);have h0:¬Kj (d.m*2^k)*Kj (d.m*2^k)=d.m*2^k->p<bl (Kj (d.m*2^k)):=by
  intro hne;have ha:d.m≠0:=by
   intro ha;rw [ha,Nat.zero_mul] at hne;exact hne rfl
  exact nK d.m p ha k (by omega)
 generalize Kj (d.m*2^k)=x at *;have hq:d.q=((d.m*2^k:Nat):Rat)*(pw ((d.e-k)/2)*pw ((d.e-k)/2)):=by
  unfold Dy.q;rw [hn,<-Fz];have:(d.e-k)/2+(d.e-k)/2=d.e-k:=by omega
  rw [this,Rat.natCast_mul,<-Jy,Rat.mul_assoc,<-Fz];simp only [sq,Bool.false_eq_true,if_false]
  congr 2;omega
 have hup:(up != false)=up:=by cases up<;>rfl
 rw [hq,hup];generalize (d.e-k)/2=h at *;have hh:=I6 h;have hh2:=Rat.mul_pos hh hh;have hc:=Qn h;have e0:sq false (Fd x (decide (¬x*x=d.m*2^k)) p up)*pw (h+((bl x-p:Nat):Int))=((Fd x (decide (¬x*x=d.m*2^k)) p up:Rat)*pw ((bl x-p:Nat):Int))*pw h:=by
  simp only [sq,Bool.false_eq_true,if_false];rw [Fz,Rat.mul_comm (pw h),Rat.mul_assoc]
 rw [e0];have ypos:∀ y:Rat,0<=y->0<=y*pw (-h):=λy hy=>Rat.mul_nonneg hy (Dx _)
 have yy:∀ y:Rat,(y*pw (-h))*(y*pw (-h))*(pw h*pw h)=y*y:=by
  intro y;have:(y*pw (-h))*(y*pw (-h))*(pw h*pw h)=(y*y)*((pw h*pw (-h))*(pw h*pw (-h))):=by grind
  rw [this,hc];grind
 unfold Wr;cases up
 ·simp only [Bool.false_eq_true,if_false];have k1:=Wo s1 s2 h0 hp;generalize (Fd x (decide (¬x*x=d.m*2^k)) p false:Rat)*pw ((bl x-p:Nat):Int)=r at *;refine ⟨k1.fits.pw h,Rat.mul_nonneg k1.nonneg (Dx h),?_,fun y hy hy0 hyx=>?_⟩
  ·have:=Rat.mul_le_mul_of_nonneg_right k1.le (Rat.le_of_lt hh2);grind
  ·have:=k1.best (y*pw (-h)) (hy.pw (-h)) (ypos y hy0) (by
    apply Rat.le_of_mul_le_mul_right _ hh2;rw [yy];exact hyx)
   rw [<-Ht h,Pm] at this;exact this
 ·simp only [if_true];have k1:=be s1 s2 h0 hp;generalize (Fd x (decide (¬x*x=d.m*2^k)) p true:Rat)*pw ((bl x-p:Nat):Int)=r at *;refine ⟨k1.fits.pw h,Rat.mul_nonneg k1.nonneg (Dx h),?_,fun y hy hy0 hyx=>?_⟩
  ·have:=Rat.mul_le_mul_of_nonneg_right k1.le (Rat.le_of_lt hh2);grind
  ·have:=k1.best (y*pw (-h)) (hy.pw (-h)) (ypos y hy0) (by
    apply Rat.le_of_mul_le_mul_right _ hh2;rw [yy];exact hyx)
   rw [<-Ht h,Pm] at this;exact this
end Go.Proofs.YtabjjdicffcolaaGreatDoor
namespace Go.Proofs.YtabjjdicffcolaaGreatDoor
variable {α β:Type} {d:Dy} {x y:Rat}
def Ns (a b:Dy):Int :=
 if (bl a.m:Int)+a.e<bl b.m+b.e then -1 else if (bl b.m:Int)+b.e<bl a.m+a.e then 1
 else Fx (a.m*2^(a.e-min a.e b.e).toNat) (b.m*2^(b.e-min a.e b.e).toNat)
theorem Yu {m:Nat}(h:m≠0)(e:Int):pw (bl m+e-1)<=(m:Rat)*pw e/\(m:Rat)*pw e<pw (bl m+e):=by
 have h1:=D9 m h;have h2:=Bm m;have h3:=Df m h;constructor
 ·have e1:pw (bl m+e-1)=((2^(bl m-1):Nat):Rat)*pw e:=by
   rw [<-Jy,<-Fz];congr 1;omega
  rw [e1,Ht,Dd];exact h1
 ·have e1:pw (bl m+e)=((2^bl m:Nat):Rat)*pw e:=by
   rw [<-Jy,<-Fz]
  rw [e1,Xg,Dq];exact h2
theorem Mw (h:x<y):Dh x y=-1:=by unfold Dh;rw [Ak h]
theorem Qe (h:y<x):Dh x y=1:=by unfold Dh;rw [Af (by grind),Af (by grind)]
theorem fB {a b:Dy}(ha:a.m≠0)(hb:b.m≠0):Ns a b=Dh ((a.m:Rat)*pw a.e) ((b.m:Rat)*pw b.e):=by
 obtain ⟨a1,a2⟩:=Yu ha a.e;obtain ⟨b1,b2⟩:=Yu hb b.e;unfold Ns;by_cases h1:(bl a.m:Int)+a.e<bl b.m+b.e
 ·rw [Ak h1,Mw];have:=Gz (show (bl a.m:Int)+a.e<=bl b.m+b.e-1 by omega);grind
 ·rw [Af h1];by_cases h2:(bl b.m:Int)+b.e<bl a.m+a.e
  ·rw [Ak h2,Qe];have:=Gz (show (bl b.m:Int)+b.e<=bl a.m+a.e-1 by omega);grind
  ·rw [Af h2];exact (iQ a.m b.m (Int.min_le_left _ _) (Int.min_le_right _ _)).symm
def sg (d:Dy):Int:=if d.m=0 then 0 else if d.neg then -1 else 1
theorem dM (h:sg d=1):0<d.q/\d.q=(d.m:Rat)*pw d.e/\d.m≠0:=by
 unfold sg at h;by_cases h0:d.m=0
 ·rw [Ak h0] at h;exact absurd h (by decide)
 ·rw [Af h0] at h;unfold Dy.q sq;cases hn:d.neg
  ·simp only [Bool.false_eq_true,if_false];exact ⟨U6 h0 _,trivial,h0⟩
  ·rw [hn] at h;exact absurd h (by decide)
theorem Vi (h:sg d=-1):d.q<0/\d.q=-((d.m:Rat)*pw d.e)/\d.m≠0:=by
 unfold sg at h;by_cases h0:d.m=0
 ·rw [Ak h0] at h;exact absurd h (by decide)
 ·rw [Af h0] at h;unfold Dy.q sq;cases hn:d.neg
  ·rw [hn] at h;exact absurd h (by decide)
  ·simp only [if_true,Rat.neg_mul];have:=U6 h0 d.e;exact ⟨by grind,trivial,h0⟩
theorem Zb (h:sg d=0):d.q=0:=by
 unfold sg at h;by_cases h0:d.m=0
 ·exact Qt h0
 ·rw [Af h0] at h;split at h<;>exact absurd h (by decide)
theorem Ml (d:Dy):sg d=-1\/sg d=0\/sg d=1:=by
 unfold sg;split
 ·exact .inr (.inl rfl)
 ·split
  ·exact .inl rfl
  ·exact .inr (.inr rfl)
theorem kE (d:Dy):sg d=Dh d.q 0:=by
 rcases Ml d with h | h | h
 ·rw [h,Mw (Vi h).1]
 ·rw [h,Zb h,Wx]
 ·rw [h,Qe (dM h).1]
theorem iR {a b:Dy}(h:sg a<sg b):Dh a.q b.q=-1:=by
 apply Mw;rw [kE,kE] at h;have h1:=@Tj a.q 0;have h2:=@eD b.q 0;have h3:=@Mv a.q 0;have h4:=@Ti b.q 0;rcases Ml a with ha | ha | ha<;>rcases Ml b with hb | hb | hb<;>rw [kE] at ha hb<;>rw [ha,hb] at h<;>first | (exact absurd h (by decide)) | skip
 all_goals (rw [ha] at h1 h3;rw [hb] at h2 h4;simp at h1 h2 h3 h4;grind)
theorem pE {a b:Dy}(h:sg b<sg a):Dh a.q b.q=1:=by
 have h1:=iR h;have h2:=Zx b.q a.q;have h3:=@Tj b.q a.q;rw [h1] at h3;exact Qe (h3.1 (by decide))
theorem iS {a b:Dy}(h:sg a=sg b):Dh a.q b.q=if sg a=0 then 0 else sg a*Ns a b:=by
 rcases Ml a with ha | ha | ha
 ·rw [ha,Af (by decide)];obtain ⟨_,a1,a2⟩:=Vi ha;obtain ⟨_,b1,b2⟩:=Vi (h▸ha);rw [a1,b1,Zx,fB a2 b2];omega
 ·rw [ha,Ak rfl,Zb ha,Zb (h▸ha),Wx]
 ·rw [ha,Af (by decide)];obtain ⟨_,a1,a2⟩:=dM ha;obtain ⟨_,b1,b2⟩:=dM (h▸ha);rw [a1,b1,fB a2 b2];omega
structure Iv where
 lo:Dy
 hi:Dy
def iz:Iv:=⟨dz,dz⟩
structure RawI where
 lo:Raw
 hi:Raw
def Iv.raw (a:Iv):RawI:=⟨a.lo.raw,a.hi.raw⟩
structure Iv.Ok (a:Iv):Prop where
 lo:a.lo.Ok
 hi:a.hi.Ok
 le:a.lo.q<=a.hi.q
def Dl (a:RawI):Bool:=Io a.lo&&Io a.hi&&decide (Dh a.lo.dy.q a.hi.dy.q<=0)
theorem Ev {a:Iv}(h:a.Ok):Dl a.raw=true:=by
 unfold Dl Iv.raw;simp only [h.lo.may,h.hi.may,Dy.raw_dy,Bool.true_and,decide_eq_true_eq];exact Mv.2 h.le
def Outc.bind {α β:Type} (o:Outc α) (z:β) (f:α->Outc β):Outc β:=if o.k=0 then f o.v else ⟨z,o.k⟩
theorem Outc.bind_ok {o:Outc α}{z:β}{f:α->Outc β}(h:(o.bind z f).k=0):o.k=0/\o.bind z f=f o.v:=by
 unfold Outc.bind at *;by_cases hk:o.k=0
 ·rw [Ak hk] at h ⊢;exact ⟨hk,rfl⟩
 ·rw [Af hk] at h;exact absurd h hk
theorem Outc.bind_of {o:Outc α}(z:β)(f:α->Outc β)(h:o.k=0):o.bind z f=f o.v:=by unfold Outc.bind;rw [Ak h]
def Gp (lo hi:Outc Dy):Outc Iv:=lo.bind iz λl=>hi.bind iz λh=>⟨⟨l,h⟩,0⟩
theorem Mz {lo hi:Outc Dy}(h:(Gp lo hi).k=0):lo.k=0/\hi.k=0/\(Gp lo hi).v=⟨lo.v,hi.v⟩:=by
 unfold Gp at *;obtain ⟨h1,h2⟩:=Outc.bind_ok h;rw [h2] at h ⊢;obtain ⟨h3,h4⟩:=Outc.bind_ok h;rw [h4];exact ⟨h1,h3,rfl⟩
def Wn (o:Outc Dy) (p:Nat) (up:Bool):Outc Dy:=o.bind dz λd=>Dj d p up
def Gc (a b:Iv) (p:Nat):Outc Iv:=Gp (Wn (Ey a.lo b.lo) p false) (Wn (Ey a.hi b.hi) p true)
def I8 (a b:Iv) (p:Nat):Outc Iv:=Gp (Wn (Ey a.lo (Ff b.hi)) p false) (Wn (Ey a.hi (Ff b.lo)) p true)
def Oi (a:Iv) (p:Nat):Outc Iv:=Gp (Dj (Ff a.hi) p false) (Dj (Ff a.lo) p true)
def Ci (d:Dy):List Dy->Dy
 | []=>d
 | x::l=>Ci (if Dh x.q d.q<0 then x else d) l
def Bd (d:Dy):List Dy->Dy
 | []=>d
 | x::l=>Bd (if 0<Dh x.q d.q then x else d) l
def Oa (a b c d:Outc Dy) (f:Dy->Dy->Dy->Dy->Outc Iv):Outc Iv :=
 a.bind iz λx=>b.bind iz λy=>c.bind iz λz=>d.bind iz λu=>f x y z u
def Ew (a b:Iv) (p:Nat):Outc Iv :=
 Oa (Ch a.lo b.lo) (Ch a.lo b.hi) (Ch a.hi b.lo) (Ch a.hi b.hi) λx y z u =>
  Gp (Dj (Ci x [x,y,z,u]) p false) (Dj (Bd x [x,y,z,u]) p true)
def D4 (b:Iv):Bool:=decide (Dh b.lo.q 0<=0)&&decide (Dh 0 b.hi.q<=0)
def Cm (a b:Iv) (p:Nat):Outc Iv :=
 if D4 b then ⟨iz,4⟩ else
 Oa (Bg a.lo b.lo p false) (Bg a.lo b.hi p false) (Bg a.hi b.lo p false) (Bg a.hi b.hi p false) λx y z u =>
 Oa (Bg a.lo b.lo p true) (Bg a.lo b.hi p true) (Bg a.hi b.lo p true) (Bg a.hi b.hi p true) λx' y' z' u' =>
  ⟨⟨Ci x [x,y,z,u],Bd x' [x',y',z',u']⟩,0⟩
def Lb (a:Iv) (p:Nat):Outc Iv :=
 (Ch a.lo a.lo).bind iz λx=>(Ch a.hi a.hi).bind iz λy =>
   Gp (Dj (if D4 a then dz else Ci x [x,y]) p false) (Dj (Bd x [x,y]) p true)
def Gh (a:Iv) (p:Nat):Outc Iv :=
 if sg a.lo<0 then ⟨iz,4⟩ else Gp (Jm a.lo p false) (Jm a.hi p true)
end Go.Proofs.YtabjjdicffcolaaGreatDoor
namespace Go.Proofs.YtabjjdicffcolaaGreatDoor
variable {d u x y z:Dy} {a b:Iv} {l:List Dy} {p:Nat}
theorem Uy {a b c:Rat}(h:a<=b)(hc:0<=c):c*a<=c*b:=Rat.mul_le_mul_of_nonneg_left h hc
theorem o7 {u a b v c d L:Rat}(hu:a<=u)(hu':u<=b)(hv:c<=v)(hv':v<=d)(h1:L<=a*c)(h2:L<=a*d)(h3:L<=b*c)(h4:L<=b*d):L<=u*v:=by
 have key:∀ x,L<=x*c->L<=x*d->L<=x*v:=by
  intro x hc hd;by_cases hx:0<=x
  ·have:=Uy hv hx;grind
  ·have:=Uy hv' (show 0<=-x by grind);grind
 have ka:=key a h1 h2;have kb:=key b h3 h4;by_cases hv0:0<=v
 ·have:=Rat.mul_le_mul_of_nonneg_right hu hv0;grind
 ·have:=Rat.mul_le_mul_of_nonneg_right hu' (show 0<=-v by grind);grind
theorem pe {u a b v c d L:Rat}(hu:a<=u)(hu':u<=b)(hv:c<=v)(hv':v<=d)(h1:a*c<=L)(h2:a*d<=L)(h3:b*c<=L)(h4:b*d<=L):u*v<=L:=by
 have:=o7 (u:=-u) (a:=-b) (b:=-a) (v:=v) (c:=c) (d:=d) (L:=-L) (by grind) (by grind) hv hv' (by grind) (by grind) (by grind) (by grind);grind
theorem Xc (l:List Dy):∀ d:Dy,(Ci d l).q<=d.q/\∀ x∈l,(Ci d l).q<=x.q:=by
 induction l with
 | nil=>intro d;exact ⟨Rat.le_refl,λx hx=>by cases hx⟩
 | cons y l ih =>
   intro d;unfold Ci;obtain ⟨h1,h2⟩:=ih (if Dh y.q d.q<0 then y else d);have hc:=@Tj y.q d.q;have h3:(if Dh y.q d.q<0 then y else d).q<=d.q/\(if Dh y.q d.q<0 then y else d).q<=y.q:=by
    by_cases h:Dh y.q d.q<0
    ·rw [Ak h];have:=hc.1 h;constructor<;>grind
    ·rw [Af h];have:¬y.q<d.q:=λhh=>h (hc.2 hh);constructor<;>grind
   refine ⟨by grind,λx hx=>?_⟩;rcases List.mem_cons.1 hx with rfl | hx
   ·grind
   ·exact h2 x hx
theorem Qj (l:List Dy):∀ d:Dy,Ci d l=d\/Ci d l∈l:=by
 induction l with
 | nil=>intro d;exact .inl rfl
 | cons y l ih =>
   intro d;unfold Ci;rcases ih (if Dh y.q d.q<0 then y else d) with h | h
   ·rw [h];split
    ·exact .inr (List.mem_cons_self ..)
    ·exact .inl rfl
   ·exact .inr (List.mem_cons_of_mem _ h)
theorem Q8 (l:List Dy):∀ d:Dy,d.q<=(Bd d l).q/\∀ x∈l,x.q<=(Bd d l).q:=by
 induction l with
 | nil=>intro d;exact ⟨Rat.le_refl,λx hx=>by cases hx⟩
 | cons y l ih =>
   intro d;unfold Bd;obtain ⟨h1,h2⟩:=ih (if 0<Dh y.q d.q then y else d);have hc:=@eD y.q d.q;have h3:d.q<=(if 0<Dh y.q d.q then y else d).q/\y.q<=(if 0<Dh y.q d.q then y else d).q:=by
    by_cases h:0<Dh y.q d.q
    ·rw [Ak h];have:=hc.1 h;constructor<;>grind
    ·rw [Af h];have:¬d.q<y.q:=λhh=>h (hc.2 hh);constructor<;>grind
   refine ⟨by grind,λx hx=>?_⟩;rcases List.mem_cons.1 hx with rfl | hx
   ·grind
   ·exact h2 x hx
theorem Lz (l:List Dy):∀ d:Dy,Bd d l=d\/Bd d l∈l:=by
 induction l with
 | nil=>intro d;exact .inl rfl
 | cons y l ih =>
   intro d;unfold Bd;rcases ih (if 0<Dh y.q d.q then y else d) with h | h
   ·rw [h];split
    ·exact .inr (List.mem_cons_self ..)
    ·exact .inl rfl
   ·exact .inr (List.mem_cons_of_mem _ h)
theorem R8 (hd:d.Ok)(hl:∀ x∈l,Dy.Ok x):(Ci d l).Ok:=by
 rcases Qj l d with h | h
 ·rw [h];exact hd
 ·exact hl _ h
theorem M3 (hd:d.Ok)(hl:∀ x∈l,Dy.Ok x):(Bd d l).Ok:=by
 rcases Lz l d with h | h
 ·rw [h];exact hd
 ·exact hl _ h
theorem Ur :(Ci x [x,y,z,u]).q<=x.q/\(Ci x [x,y,z,u]).q<=y.q/\(Ci x [x,y,z,u]).q<=z.q/\(Ci x [x,y,z,u]).q<=u.q:=by
 obtain ⟨a,b⟩:=Xc [x,y,z,u] x;exact ⟨a,b y (by simp),b z (by simp),b u (by simp)⟩
theorem L9 :x.q<=(Bd x [x,y,z,u]).q/\y.q<=(Bd x [x,y,z,u]).q/\z.q<=(Bd x [x,y,z,u]).q/\u.q<=(Bd x [x,y,z,u]).q:=by
 obtain ⟨a,b⟩:=Q8 [x,y,z,u] x;exact ⟨a,b y (by simp),b z (by simp),b u (by simp)⟩
theorem jt :(Ci x [x,y]).q<=x.q/\(Ci x [x,y]).q<=y.q:=by
 obtain ⟨a,b⟩:=Xc [x,y] x;exact ⟨a,b y (by simp)⟩
theorem W6 :x.q<=(Bd x [x,y]).q/\y.q<=(Bd x [x,y]).q:=by
 obtain ⟨a,b⟩:=Q8 [x,y] x;exact ⟨a,b y (by simp)⟩
theorem Qi :Ci x [x,y,z,u]=x\/Ci x [x,y,z,u]=y\/Ci x [x,y,z,u]=z\/Ci x [x,y,z,u]=u:=by
 rcases Qj [x,y,z,u] x with h | h
 ·exact .inl h
 ·simpa using h
theorem Ly :Bd x [x,y,z,u]=x\/Bd x [x,y,z,u]=y\/Bd x [x,y,z,u]=z\/Bd x [x,y,z,u]=u:=by
 rcases Lz [x,y,z,u] x with h | h
 ·exact .inl h
 ·simpa using h
theorem dh :Ci x [x,y]=x\/Ci x [x,y]=y:=by
 rcases Qj [x,y] x with h | h
 ·exact .inl h
 ·simpa using h
theorem Wh :Bd x [x,y]=x\/Bd x [x,y]=y:=by
 rcases Lz [x,y] x with h | h
 ·exact .inl h
 ·simpa using h
theorem Fi (hp:1<=p)(hk:(Dj d p false).k=0):IsDown p d.q (Dj d p false).v.q:=Ug hp hk
theorem Ib (hp:1<=p)(hk:(Dj d p true).k=0):IsUp p d.q (Dj d p true).v.q:=Ug hp hk
theorem Mj {o:Outc Dy}{up:Bool}(hk:(Wn o p up).k=0):o.k=0/\Wn o p up=Dj o.v p up:=Outc.bind_ok hk
theorem Wt (hp:1<=p)(hk:(Gc a b p).k=0) :
 IsDown p (a.lo.q+b.lo.q) (Gc a b p).v.lo.q/\IsUp p (a.hi.q+b.hi.q) (Gc a b p).v.hi.q:=by
 unfold Gc at *;obtain ⟨h1,h2,h3⟩:=Mz hk;obtain ⟨h4,h5⟩:=Mj h1;obtain ⟨h6,h7⟩:=Mj h2;rw [h3];simp only;rw [h5] at h1 ⊢;rw [h7] at h2 ⊢;rw [<-Qs h4,<-Qs h6];exact ⟨Fi hp h1,Ib hp h2⟩
theorem Xv (hp:1<=p)(hk:(I8 a b p).k=0) :
 IsDown p (a.lo.q-b.hi.q) (I8 a b p).v.lo.q/\IsUp p (a.hi.q-b.lo.q) (I8 a b p).v.hi.q:=by
 unfold I8 at *;obtain ⟨h1,h2,h3⟩:=Mz hk;obtain ⟨h4,h5⟩:=Mj h1;obtain ⟨h6,h7⟩:=Mj h2;rw [h3];simp only;rw [h5] at h1 ⊢;rw [h7] at h2 ⊢;have e1:=Qs h4;have e2:=Qs h6;rw [dv] at e1 e2;have d1:=Fi hp h1;have d2:=Ib hp h2;rw [e1] at d1;rw [e2] at d2;rw [Rat.sub_eq_add_neg,Rat.sub_eq_add_neg];exact ⟨d1,d2⟩
theorem Q0 {a b c d:Outc Dy}{f:Dy->Dy->Dy->Dy->Outc Iv}(hk:(Oa a b c d f).k=0) :
 a.k=0/\b.k=0/\c.k=0/\d.k=0/\Oa a b c d f=f a.v b.v c.v d.v:=by
 unfold Oa at *;obtain ⟨h1,e1⟩:=Outc.bind_ok hk;rw [e1] at hk ⊢;obtain ⟨h2,e2⟩:=Outc.bind_ok hk;rw [e2] at hk ⊢;obtain ⟨h3,e3⟩:=Outc.bind_ok hk;rw [e3] at hk ⊢;obtain ⟨h4,e4⟩:=Outc.bind_ok hk;rw [e4];exact ⟨h1,h2,h3,h4,rfl⟩
theorem gy (hp:1<=p)(hk:(Ew a b p).k=0) :
 ∃ L H : Rat, IsDown p L (Ew   a b p).v.lo.q ∧ IsUp p H (Ew   a b p).v.hi.q ∧
   (L<=a.lo.q*b.lo.q/\L<=a.lo.q*b.hi.q/\L<=a.hi.q*b.lo.q/\L<=a.hi.q*b.hi.q) /\
   (a.lo.q*b.lo.q<=H/\a.lo.q*b.hi.q<=H/\a.hi.q*b.lo.q<=H/\a.hi.q*b.hi.q<=H) /\
   (L=a.lo.q*b.lo.q\/L=a.lo.q*b.hi.q\/L=a.hi.q*b.lo.q\/L=a.hi.q*b.hi.q) /\
   (H=a.lo.q*b.lo.q\/H=a.lo.q*b.hi.q\/H=a.hi.q*b.lo.q\/H=a.hi.q*b.hi.q):=by
 unfold Ew at *;obtain ⟨k1,k2,k3,k4,e⟩:=Q0 hk;rw [e] at hk ⊢;obtain ⟨h1,h2,h3⟩:=Mz hk;rw [h3];simp only;rw [<-Na k1,<-Na k2,<-Na k3,<-Na k4];refine ⟨_,_,Fi hp h1,Ib hp h2,Ur,L9,?_,?_⟩
 ·rcases Qi (x:=(Ch a.lo b.lo).v) (y:=(Ch a.lo b.hi).v) (z:=(Ch a.hi b.lo).v) (u:=(Ch a.hi b.hi).v) with h | h | h | h<;>rw [h]<;>simp
 ·rcases Ly (x:=(Ch a.lo b.lo).v) (y:=(Ch a.lo b.hi).v) (z:=(Ch a.hi b.lo).v) (u:=(Ch a.hi b.hi).v) with h | h | h | h<;>rw [h]<;>simp
theorem Hs (b:Iv):D4 b=true↔b.lo.q<=0/\0<=b.hi.q:=by
 unfold D4;simp only [Bool.and_eq_true,decide_eq_true_eq];rw [Mv,Mv]
theorem gV (hp:1<=p)(hk:(Lb a p).k=0) :
 ∃ L H : Rat, IsDown p L (Lb   a p).v.lo.q ∧ IsUp p H (Lb   a p).v.hi.q ∧
   L<=a.lo.q*a.lo.q/\L<=a.hi.q*a.hi.q/\a.lo.q*a.lo.q<=H/\a.hi.q*a.hi.q<=H/\0<=L /\
   (H=a.lo.q*a.lo.q\/H=a.hi.q*a.hi.q)/\((L=0/\a.lo.q<=0/\0<=a.hi.q)\/(¬(a.lo.q<=0/\0<=a.hi.q)/\(L=a.lo.q*a.lo.q\/L=a.hi.q*a.hi.q))):=by
 have Wf:∀ x:Rat,0<=x*x:=λx=>by
  by_cases h:0<=x
  ·exact Rat.mul_nonneg h h
  ·have:=Rat.mul_nonneg (show 0<=-x by grind) (show 0<=-x by grind);grind
 unfold Lb at *;obtain ⟨k1,e1⟩:=Outc.bind_ok hk;rw [e1] at hk ⊢;obtain ⟨k2,e2⟩:=Outc.bind_ok hk;rw [e2] at hk ⊢;obtain ⟨h1,h2,h3⟩:=Mz hk;rw [h3];simp only;have hg:=W6 (x:=(Ch a.lo a.lo).v) (y:=(Ch a.hi a.hi).v);have hl:=jt (x:=(Ch a.lo a.lo).v) (y:=(Ch a.hi a.hi).v);have q1:=Na k1;have q2:=Na k2;have s1:=Wf a.lo.q;have s2:=Wf a.hi.q;refine ⟨_,_,Fi hp h1,Ib hp h2,?_⟩;rw [<-q1,<-q2] at *;have hH:((Bd (Ch a.lo a.lo).v [(Ch a.lo a.lo).v,(Ch a.hi a.hi).v]).q=(Ch a.lo a.lo).v.q\/(Bd (Ch a.lo a.lo).v [(Ch a.lo a.lo).v,(Ch a.hi a.hi).v]).q=(Ch a.hi a.hi).v.q):=by
  rcases Wh (x:=(Ch a.lo a.lo).v) (y:=(Ch a.hi a.hi).v) with h | h<;>rw [h]<;>simp
 have hL:((Ci (Ch a.lo a.lo).v [(Ch a.lo a.lo).v,(Ch a.hi a.hi).v]).q=(Ch a.lo a.lo).v.q\/(Ci (Ch a.lo a.lo).v [(Ch a.lo a.lo).v,(Ch a.hi a.hi).v]).q=(Ch a.hi a.hi).v.q):=by
  rcases dh (x:=(Ch a.lo a.lo).v) (y:=(Ch a.hi a.hi).v) with h | h<;>rw [h]<;>simp
 by_cases hz:D4 a=true
 ·have hz':=(Hs a).1 hz;rw [Ak hz,ah];exact ⟨s1,s2,hg.1,hg.2,Rat.le_refl,hH,.inl ⟨rfl,hz'.1,hz'.2⟩⟩
 ·rw [Af hz];have hz':¬(a.lo.q≤0∧0≤a.hi.q):=fun h=>hz ((Hs a).2 h)
  refine ⟨hl.1,hl.2,hg.1,hg.2,?_,hH,.inr ⟨hz',hL⟩⟩;rcases hL with h | h<;>rw [h]<;>assumption
end Go.Proofs.YtabjjdicffcolaaGreatDoor
namespace Go.Proofs.YtabjjdicffcolaaGreatDoor
variable {d:Dy} {f:Dy->Dy->Dy->Dy->Outc Iv} {a b:Iv} {p:Nat}
def We (o:Outc Iv):Prop:=o.v.Ok/\(o.k≠0->o.v=iz)
theorem Ss:iz.Ok:=⟨Nq,Nq,Rat.le_refl⟩
theorem Jb (k:Int):We ⟨iz,k⟩:=⟨Ss,λ_=>rfl⟩
theorem L7 {lo hi:Outc Dy}(h1:lo.Ok)(h2:hi.Ok)(h:lo.k=0->hi.k=0->lo.v.q<=hi.v.q):We (Gp lo hi):=by
 unfold Gp Outc.bind;by_cases k1:lo.k=0
 ·simp only [Ak k1];by_cases k2:hi.k=0
  ·simp only [Ak k2];exact ⟨⟨h1.1,h2.1,h k1 k2⟩,λh=>absurd rfl h⟩
  ·simp only [Af k2];exact Jb _
 ·simp only [Af k1];exact Jb _
theorem fz (o:Outc Dy)(p:Nat)(up:Bool):(Wn o p up).Ok:=by
 unfold Wn Outc.bind;by_cases k1:o.k=0
 ·simp only [Ak k1];exact Ia _ _ _
 ·simp only [Af k1];exact Nz _
theorem Ul {a b c d:Outc Dy}(h:a.k=0->b.k=0->c.k=0->d.k=0->We (f a.v b.v c.v d.v)):We (Oa a b c d f):=by
 unfold Oa Outc.bind;by_cases k1:a.k=0
 ·simp only [Ak k1];by_cases k2:b.k=0
  ·simp only [Ak k2];by_cases k3:c.k=0
   ·simp only [Ak k3];by_cases k4:d.k=0
    ·simp only [Ak k4];exact h k1 k2 k3 k4
    ·simp only [Af k4];exact Jb _
   ·simp only [Af k3];exact Jb _
  ·simp only [Af k2];exact Jb _
 ·simp only [Af k1];exact Jb _
theorem J9 (ha:a.Ok)(hb:b.Ok)(hp:1<=p):We (Gc a b p):=by
 unfold Gc;refine L7 (fz _ _ _) (fz _ _ _) λk1 k2=>?_
 obtain ⟨h4,h5⟩:=Mj k1;obtain ⟨h6,h7⟩:=Mj k2;rw [h5] at k1 ⊢;rw [h7] at k2 ⊢;have d1:=(Fi hp k1).le;have d2:=(Ib hp k2).le;rw [Qs h4] at d1;rw [Qs h6] at d2;have:=ha.le;have:=hb.le;grind
theorem jW (hb:b.Ok):(Iv.mk (Ff b.hi) (Ff b.lo)).Ok :=
 ⟨Kg hb.hi,Kg hb.lo,by simp only [dv];have:=hb.le;grind⟩
theorem kP (a b:Iv)(p:Nat):I8 a b p=Gc a ⟨Ff b.hi,Ff b.lo⟩ p:=rfl
theorem Rm (ha:a.Ok)(hb:b.Ok)(hp:1<=p):We (I8 a b p):=by
 rw [kP];exact J9 ha (jW hb) hp
theorem Y2 (ha:a.Ok)(hp:1<=p):We (Oi a p):=by
 unfold Oi;refine L7 (Ia _ _ _) (Ia _ _ _) λk1 k2=>?_
 have d1:=(Fi hp k1).le;have d2:=(Ib hp k2).le;have:=(jW ha).le;simp only at this;grind
theorem Ll (hp:1<=p):We (Ew a b p):=by
 unfold Ew;refine Ul λh1 h2 h3 h4=>L7 (Ia _ _ _) (Ia _ _ _) λk1 k2=>?_
 have d1:=(Fi hp k1).le;have d2:=(Ib hp k2).le;have l:=(Ur (x:=(Ch a.lo b.lo).v) (y:=(Ch a.lo b.hi).v) (z:=(Ch a.hi b.lo).v) (u:=(Ch a.hi b.hi).v)).1;have g:=(L9 (x:=(Ch a.lo b.lo).v) (y:=(Ch a.lo b.hi).v) (z:=(Ch a.hi b.lo).v) (u:=(Ch a.hi b.hi).v)).1;grind
theorem Kq (hb:b.Ok)(h:¬D4 b=true):¬b.lo.m=0/\¬b.hi.m=0:=by
 have hz:=λx=>h ((Hs b).2 x)
 have:=hb.le;constructor
 ·intro h0;have:=Qt h0;exact hz ⟨by grind,by grind⟩
 ·intro h0;have:=Qt h0;exact hz ⟨by grind,by grind⟩
theorem F4 {a b:Dy}(hp:1<=p)(hb:¬b.m=0)(hk:(Bg a b p false).k=0):IsDown p (a.q/b.q) (Bg a b p false).v.q:=Po hp hb hk
theorem Ig {a b:Dy}(hp:1<=p)(hb:¬b.m=0)(hk:(Bg a b p true).k=0):IsUp p (a.q/b.q) (Bg a b p true).v.q:=Po hp hb hk
theorem Kd (hb:b.Ok)(hp:1<=p):We (Cm a b p):=by
 unfold Cm;by_cases hz:D4 b=true
 ·rw [Ak hz];exact Jb _
 ·rw [Af hz];obtain ⟨n1,n2⟩:=Kq hb hz;refine Ul fun h1 h2 h3 h4=>Ul fun k1 k2 k3 k4=>⟨⟨?_,?_,?_⟩,fun h=>absurd rfl h⟩
  ·refine R8 (Fo _ _ _ _).1 fun x hx=>?_
   simp only [List.mem_cons,List.not_mem_nil,or_false] at hx;rcases hx with rfl | rfl | rfl | rfl<;>exact (Fo _ _ _ _).1
  ·refine M3 (Fo _ _ _ _).1 fun x hx=>?_
   simp only [List.mem_cons,List.not_mem_nil,or_false] at hx;rcases hx with rfl | rfl | rfl | rfl<;>exact (Fo _ _ _ _).1
  ·have d1:=(F4 hp n1 h1).le;have d2:=(Ig hp n1 k1).le;have l:=(Ur (x:=(Bg a.lo b.lo p false).v) (y:=(Bg a.lo b.hi p false).v) (z:=(Bg a.hi b.lo p false).v) (u:=(Bg a.hi b.hi p false).v)).1;have g:=(L9 (x:=(Bg a.lo b.lo p true).v) (y:=(Bg a.lo b.hi p true).v) (z:=(Bg a.hi b.lo p true).v) (u:=(Bg a.hi b.hi p true).v)).1
   show (Ci _ _).q<=(Bd _ _).q
   grind
theorem Zd (hp:1<=p):We (Lb a p):=by
 have Wf:∀ x:Rat,0<=x*x:=λx=>by
  by_cases h:0<=x
  ·exact Rat.mul_nonneg h h
  ·have:=Rat.mul_nonneg (show 0<=-x by grind) (show 0<=-x by grind);grind
 unfold Lb Outc.bind;by_cases h1:(Ch a.lo a.lo).k=0
 ·simp only [Ak h1];by_cases h2:(Ch a.hi a.hi).k=0
  ·simp only [Ak h2];refine L7 (Ia _ _ _) (Ia _ _ _) fun k1 k2=>?_
   have d1:=(Fi hp k1).le;have d2:=(Ib hp k2).le;have l:=(jt (x:=(Ch a.lo a.lo).v) (y:=(Ch a.hi a.hi).v)).1;have g:=(W6 (x:=(Ch a.lo a.lo).v) (y:=(Ch a.hi a.hi).v)).1;have q1:=Na h1;have:=Wf a.lo.q;have hl:(if D4 a=true then dz else Ci (Ch a.lo a.lo).v [(Ch a.lo a.lo).v,(Ch a.hi a.hi).v]).q<=(Ch a.lo a.lo).v.q:=by
    split
    ·rw [ah];grind
    ·exact l
   grind
  ·simp only [Af h2];exact Jb _
 ·simp only [Af h1];exact Jb _
theorem nL {x y d e:Rat}(hd:d*d<=x)(hxy:x<=y)(he:0<=e)(hy:y<=e*e):d<=e:=by
 by_cases h:d<=e
 ·exact h
 ·have:=jF he (show e<d by grind);grind
theorem Xp (ha:a.Ok)(h:¬sg a.lo<0):a.lo.neg=false/\a.hi.neg=false:=by
 rw [kE] at h;have h0:0<=a.lo.q:=by
  have:=@Tj a.lo.q 0;grind
 have h1:0<=a.hi.q:=by have:=ha.le;grind
 have key:∀ d:Dy,d.Ok->0<=d.q->d.neg=false:=by
  intro d hd hq;by_cases hm:d.m=0
  ·exact (hd.zero hm).1
  ·cases hn:d.neg
   ·rfl
   ·have:sg d=-1:=by unfold sg;rw [Af hm,hn];rfl
    have:=(Vi this).1;grind
 exact ⟨key _ ha.lo h0,key _ ha.hi h1⟩
theorem Vb (hp:1<=p)(hn:d.neg=false)(hk:(Jm d p false).k=0):Qd p d.q (Jm d p false).v.q:=Xi hp hn hk
theorem aZ (hp:1<=p)(hn:d.neg=false)(hk:(Jm d p true).k=0):Tv p d.q (Jm d p true).v.q:=Xi hp hn hk
theorem Vn (ha:a.Ok)(hp:1<=p):We (Gh a p):=by
 unfold Gh;by_cases hs:sg a.lo<0
 ·rw [Ak hs];exact Jb _
 ·rw [Af hs];obtain ⟨n1,n2⟩:=Xp ha hs;refine L7 (Vc _ _ _) (Vc _ _ _) fun k1 k2=>?_
  have d1:=Vb hp n1 k1;have d2:=aZ hp n2 k2;exact nL d1.le ha.le d2.nonneg d2.le
theorem ak {a b c d:Outc Dy}(h1:a.k=0)(h2:b.k=0)(h3:c.k=0)(h4:d.k=0):Oa a b c d f=f a.v b.v c.v d.v:=by
 unfold Oa;rw [Outc.bind_of _ _ h1,Outc.bind_of _ _ h2,Outc.bind_of _ _ h3,Outc.bind_of _ _ h4]
theorem Ph {n k:Nat}(h:bl n<=64*k):(Al n).length<=k:=by
 apply Dk;have h1:=Bm n;have h2:2^bl n<=2^(64*k):=Ee (by decide) h;rw [Nat.pow_mul 2 64 k] at h2;exact Dn h1 h2
end Go.Proofs.YtabjjdicffcolaaGreatDoor
namespace Go.Proofs.YtabjjdicffcolaaGreatDoor
variable {d:Dy} {n:Nat}
theorem fH (h:n%2=1):tz n=0:=I9 n 0 n h (by simp)
theorem fS (h:d.Ok):Ck d.neg d.m d.e=⟨d,0⟩:=by
 unfold Ck;by_cases h0:d.m=0
 ·rw [Ak h0];obtain ⟨a,b⟩:=h.zero h0;cases d with | mk n m e =>
   simp only at a b h0;subst a b h0;rfl
 ·rw [Af h0,fH (h.odd h0)];have hl:=h.len;have h1:=h.lo;have h2:=h.hi;rw [Af (by simpa using hl),Af (by simp;omega),Af (by simp;omega)];simp [good]
structure Few (d:Dy) (b:Nat) (e:Int):Prop where
 ok:d.Ok
 bl:bl d.m<=b
 lo:-e<=d.e
 hi:d.e<=e
theorem cV {neg:Bool}{e:Int}(h:bl n<=1000)(e1:-1000<=e)(e2:e<=1000):(Ck neg n e).k=0/\bl (Ck neg n e).v.m<=bl n:=by
 have hb:bl (n/2^tz n)<=bl n:=Ka (Nat.div_le_self _ _);have hl:(Al (n/2^tz n)).length<=64:=Ph (k:=64) (by omega);by_cases h0:n=0
 ·subst h0;refine ⟨rfl,?_⟩
  show bl dz.m<=_
  simp [dz]
 ·have ht:tz n<bl n:=O0 n (bl n) h0 (Bm n);unfold Ck;rw [Af h0,Af (by omega),Af (by omega),Af (by omega)];exact ⟨rfl,hb⟩
theorem I0 {m a b:Nat}(hm:bl m<=a)(hn:bl n<=b):bl (m*n)<=a+b:=by
 apply Gl;rw [Nat.pow_add];have h1:=Bm m;have h2:=Bm n;have h3:2^bl m<=2^a:=Ee (by decide) hm;have h4:2^bl n<=2^b:=Ee (by decide) hn;exact Nat.mul_lt_mul'' (by omega) (by omega)
def pt (d:Dy):Iv:=⟨d,d⟩
theorem P5 (h:d.Ok):(pt d).Ok:=⟨h,h,Rat.le_refl⟩
end Go.Proofs.YtabjjdicffcolaaGreatDoor
