/- Words and contracts, part 2. -/
set_option maxRecDepth 100000
set_option maxHeartbeats 0
namespace Go.Proofs.YtabjjdicffcolaaGreatDoor
def nth (xs:List Nat) (i:Nat):Nat:=xs.getD i 0
def val:List Nat→Nat
 | []=>0
 | x::xs=>x+18446744073709551616*val xs
def Small (xs:List Nat):Prop:=∀ x∈xs,x<18446744073709551616
def Ai (n:Nat):List Nat:=if _h:n=0 then [] else (n%18446744073709551616)::Ai (n/18446744073709551616)
termination_by n
decreasing_by exact Nat.div_lt_self (by omega) (by decide)
theorem Aw:Ai 0=[]:=by rw [Ai];simp
theorem Df (n:Nat)(h:n≠0):Ai n=(n%18446744073709551616)::Ai (n/18446744073709551616):=by rw [Ai];simp [h]
theorem Bz (n:Nat):val (Ai n)=n:=by
 induction n using Nat.strongRecOn with
 | _ n ih =>
   by_cases h:n=0
   ·subst h;rw [Aw];rfl
   ·rw [Df n h,val,ih (n/18446744073709551616) (Nat.div_lt_self (by omega) (by decide))];exact Nat.mod_add_div n 18446744073709551616
theorem Fd (n:Nat):Small (Ai n):=by
 induction n using Nat.strongRecOn with
 | _ n ih =>
   by_cases h:n=0
   ·subst h;rw [Aw];intro x hx;cases hx
   ·rw [Df n h];intro x hx;rcases List.mem_cons.1 hx with rfl | hx
    ·exact Nat.mod_lt _ (by decide)
    ·exact ih (n/18446744073709551616) (Nat.div_lt_self (by omega) (by decide)) x hx
def Hv (xs:List Nat):Nat→Nat
 | 0=>0
 | k+1=>if nth xs k=0 then Hv xs k else k+1
def tl (xs:List Nat):Nat:=Hv xs xs.length
theorem Xi (xs:List Nat):∀ k,Hv xs k≤k
 | 0=>Nat.le_refl _
 | k + 1 => by
   unfold Hv;split
   ·exact Nat.le_succ_of_le (Xi xs k)
   ·exact Nat.le_refl _
theorem Aif (xs:List Nat):tl xs≤xs.length:=Xi xs _
theorem Hh (x:Nat)(xs:List Nat)(i:Nat):nth (x::xs) (i+1)=nth xs i:=rfl
theorem Bo {xs:List Nat}(h:Small xs)(i:Nat):nth xs i<18446744073709551616:=by
 unfold nth;by_cases hi:i<xs.length
 ·rw [List.getD_eq_getElem?_getD,List.getElem?_eq_getElem hi];exact h _ (List.getElem_mem hi)
 ·rw [List.getD_eq_getElem?_getD,List.getElem?_eq_none (by omega)];decide
theorem Sc (x:Nat)(xs:List Nat):∀ k,Hv (x::xs) (k+1)=if Hv xs k=0 then (if x=0 then 0 else 1) else Hv xs k+1
 | 0=>by simp [Hv,nth]
 | k + 1 => by
   rw [Hv,Hh,Sc x xs k,Hv];by_cases h:nth xs k=0
   ·simp [h]
   ·simp [h]
theorem U7 (xs:List Nat)(h:Small xs):xs.take (tl xs)=Ai (val xs):=by
 induction xs with
 | nil=>simp [tl,Hv,val,Aw]
 | cons x xs ih =>
   have hx:x<18446744073709551616:=h x (List.mem_cons_self);have hs:Small xs:=fun y hy=>h y (List.mem_cons_of_mem _ hy)
   have ih':=ih hs;have ht:tl (x::xs)=if tl xs=0 then (if x=0 then 0 else 1) else tl xs+1:=Sc x xs xs.length
   have hv:tl xs=0↔val xs=0:=by
    constructor
    ·intro h0;rw [h0] at ih';have:=Bz (val xs);rw [←ih'] at this;simpa [val] using this.symm
    ·intro h0;rw [h0,Aw] at ih';have h1:=congrArg List.length ih';have h2:=Aif xs;rw [List.length_take,List.length_nil] at h1;omega
   by_cases h0:val xs=0
   ·rw [ht,if_pos (hv.2 h0)];by_cases hx0:x=0
    ·simp [hx0,val,h0,Aw]
    ·rw [if_neg hx0,val,h0];have e1:(x+18446744073709551616*0)%18446744073709551616=x:=by omega
     have e2:(x+18446744073709551616*0)/18446744073709551616=0:=by omega
     rw [Df _ (by omega),e1,e2,Aw];simp
   ·rw [ht,if_neg (fun h=>h0 (hv.1 h)),List.take_succ_cons,ih',val];rw [Df (x+18446744073709551616*val xs) (by omega)];have e1:(x+18446744073709551616*val xs)%18446744073709551616=x:=by omega
    have e2:(x+18446744073709551616*val xs)/18446744073709551616=val xs:=by omega
    rw [e1,e2]
def Sk (xs:List Nat):Bool:=xs.length==0||(decide (xs.length≤64)&&nth xs (xs.length-1) != 0)
def Em (n m:Nat):Int:=if n<m then -1 else if n=m then 0 else 1
def Kf (xs ys:List Nat):Nat→Int
 | 0=>0
 | k+1=>if nth xs k=nth ys k then Kf xs ys k else if nth xs k<nth ys k then -1 else 1
theorem Du (xs ys:List Nat):val (xs++ys)=val xs+18446744073709551616^xs.length*val ys:=by
 induction xs with
 | nil=>simp [val]
 | cons x xs ih =>
   rw [List.cons_append,val,ih,val,List.length_cons,Nat.pow_succ];generalize 18446744073709551616^xs.length=p;rw [Nat.mul_add,Nat.add_assoc]
   congr 2
   rw [←Nat.mul_assoc,Nat.mul_comm p]
theorem Fp (xs:List Nat)(h:Small xs):val xs<18446744073709551616^xs.length:=by
 induction xs with
 | nil=>simp [val]
 | cons x xs ih =>
   have hx:x<18446744073709551616:=h x (List.mem_cons_self);have:=ih (fun y hy=>h y (List.mem_cons_of_mem _ hy));rw [val,List.length_cons,Nat.pow_succ];generalize 18446744073709551616^xs.length=p at *;omega
theorem Er {xs:List Nat}(h:Small xs)(k:Nat):Small (xs.take k):=fun x hx=>h x (List.mem_of_mem_take hx)
theorem Ky {xs:List Nat}(h:Small xs)(k:Nat):Small (xs.drop k):=fun x hx=>h x (List.mem_of_mem_drop hx)
theorem Sp (xs:List Nat)(k:Nat)(h:k<xs.length):xs.take (k+1)=xs.take k++[nth xs k]:=by
 rw [List.take_succ_eq_append_getElem h,nth,List.getD_eq_getElem?_getD,List.getElem?_eq_getElem h];rfl
theorem Bx (xs:List Nat)(k:Nat)(h:k<xs.length):val (xs.take (k+1))=val (xs.take k)+18446744073709551616^k*nth xs k:=by
 rw [Sp xs k h,Du,List.length_take,Nat.min_eq_left (by omega)];simp [val]
theorem Qn (xs ys:List Nat)(hx:Small xs)(hy:Small ys):∀ k,k≤xs.length→k≤ys.length→Kf xs ys k=Em (val (xs.take k)) (val (ys.take k))
 | 0,_,_=>by simp [Kf,Em]
 | k + 1, h1, h2 => by
   have ih:=Qn xs ys hx hy k (by omega) (by omega);rw [Kf,Bx xs k (by omega),Bx ys k (by omega),ih];have a:=Fp _ (Er hx k);have b:=Fp _ (Er hy k);rw [List.length_take,Nat.min_eq_left (by omega)] at a b;generalize 18446744073709551616^k=p at *;generalize val (xs.take k)=u at *;generalize val (ys.take k)=v at *;generalize nth xs k=x;generalize nth ys k=y;by_cases e:x=y
   ·subst e;rw [if_pos rfl];unfold Em;simp only [Nat.add_lt_add_iff_right,Nat.add_right_cancel_iff]
   ·rw [if_neg e];by_cases l:x<y
    ·rw [if_pos l];have:p*(x+1)≤p*y:=Nat.mul_le_mul_left _ l;rw [Nat.mul_add] at this;unfold Em;rw [if_pos (by omega)]
    ·rw [if_neg l];have:p*(y+1)≤p*x:=Nat.mul_le_mul_left _ (by omega);rw [Nat.mul_add] at this;unfold Em;rw [if_neg (by omega),if_neg (by omega)]
theorem Cp (n:Nat):n<18446744073709551616^(Ai n).length:=by
 have:=Fp _ (Fd n);rwa [Bz] at this
theorem Jm (n:Nat)(h:n≠0):18446744073709551616^((Ai n).length-1)≤n:=by
 induction n using Nat.strongRecOn with
 | _ n ih =>
   rw [Df n h,List.length_cons,Nat.add_sub_cancel];by_cases h1:n/18446744073709551616=0
   ·rw [h1,Aw];simp;omega
   ·have:=ih _ (Nat.div_lt_self (by omega) (by decide)) h1;have hl:0<(Ai (n/18446744073709551616)).length:=by rw [Df _ h1];simp
    obtain ⟨l,hl⟩:∃ l,(Ai (n/18446744073709551616)).length=l+1:=⟨_,(Nat.succ_pred_eq_of_pos hl).symm⟩;rw [hl] at this ⊢;rw [Nat.add_sub_cancel] at this;rw [Nat.pow_succ];generalize 18446744073709551616^l=p at *;omega
theorem I9 (n m:Nat)(h:(Ai n).length<(Ai m).length):n<m:=by
 have a:=Cp n;have hm:m≠0:=by rintro rfl;rw [Aw] at h;simp at h
 have b:=Jm m hm;have c:18446744073709551616^(Ai n).length≤18446744073709551616^((Ai m).length-1):=Nat.pow_le_pow_right (by decide) (by omega);omega
theorem Ua (n m:Nat)(h:(Ai n).length=(Ai m).length):Kf (Ai n) (Ai m) (Ai n).length=Em n m:=by
 rw [Qn _ _ (Fd n) (Fd m) _ (Nat.le_refl _) (by omega),List.take_of_length_le (Nat.le_refl _),List.take_of_length_le (by omega),Bz,Bz]
theorem Ko (n:Nat)(h:n≠0):nth (Ai n) ((Ai n).length-1)≠0:=by
 induction n using Nat.strongRecOn with
 | _ n ih =>
   rw [Df n h,List.length_cons,Nat.add_sub_cancel];by_cases h1:n/18446744073709551616=0
   ·rw [h1,Aw];simp [nth];omega
   ·have hl:0<(Ai (n/18446744073709551616)).length:=by rw [Df _ h1];simp
    have:=ih _ (Nat.div_lt_self (by omega) (by decide)) h1;obtain ⟨l,hl⟩:∃ l,(Ai (n/18446744073709551616)).length=l+1:=⟨_,(Nat.succ_pred_eq_of_pos hl).symm⟩;rw [hl] at this ⊢;rw [Hh];exact this
theorem Bj (n:Nat)(h:n≠0):0<(Ai n).length:=by rw [Df n h];simp
def bl (n:Nat):Nat:=if n=0 then 0 else Nat.log2 n+1
theorem Gg:bl 0=0:=rfl
theorem Bc (n:Nat):n<2^bl n:=by
 unfold bl;split
 ·omega
 ·exact Nat.lt_log2_self
theorem Dg (n:Nat)(h:n≠0):2^(bl n-1)≤n:=by
 unfold bl;rw [if_neg h,Nat.add_sub_cancel];exact Nat.log2_self_le h
theorem Ct (n:Nat)(h:n≠0):0<bl n:=by unfold bl;rw [if_neg h];omega
theorem E7 (n k:Nat)(h:n<2^k):bl n≤k:=by
 by_cases h0:n=0
 ·subst h0;exact Nat.zero_le _
 ·have:=Dg n h0;have p:=Ct n h0;by_cases hk:bl n≤k
  ·exact hk
  ·have:2^k≤2^(bl n-1):=Nat.pow_le_pow_right (by decide) (by omega);omega
theorem Ads (n k:Nat)(h:2^k≤n):k<bl n:=by
 by_cases hk:k<bl n
 ·exact hk
 ·have:2^bl n≤2^k:=Nat.pow_le_pow_right (by decide) (by omega);have:=Bc n;omega
theorem Acs (n k:Nat)(h1:2^k≤n)(h2:n<2^(k+1)):bl n=k+1:=by
 have:=E7 n _ h2;have:=Ads n _ h1;omega
theorem Nr (n:Nat)(h:n<18446744073709551616):bl n≤64:=E7 n 64 h
theorem Fw {n m:Nat}(h:n≤m):bl n≤bl m:=E7 n _ (Nat.lt_of_le_of_lt h (Bc m))
theorem Gs (n k:Nat)(h:n≠0):bl (n*2^k)=bl n+k:=by
 obtain ⟨l,hl⟩:∃ l,bl n=l+1:=⟨bl n-1,by have:=Ct n h;omega⟩;have a:=Dg n h;have b:=Bc n;rw [hl] at a b ⊢;rw [Nat.add_sub_cancel] at a;have:=Acs (n*2^k) (l+k) (by rw [Nat.pow_add];exact Nat.mul_le_mul_right _ a) (by rw [show l+k+1=(l+1)+k by omega,Nat.pow_add];exact Nat.mul_lt_mul_of_pos_right b (Nat.pow_pos (by decide)));omega
theorem Xs     (n : Nat) (h : n ≠ 0) : bl n = 64 * ((Ai    n).length - 1) + bl (nth (Ai    n) ((Ai    n).length - 1)) := by
 induction n using Nat.strongRecOn with
 | _ n ih =>
   rw [Df n h,List.length_cons,Nat.add_sub_cancel];by_cases h1:n/18446744073709551616=0
   ·rw [h1,Aw];have:n%18446744073709551616=n:=by omega
    simp [nth,this]
   ·have hl:0<(Ai (n/18446744073709551616)).length:=by rw [Df _ h1];simp
    have IH:=ih _ (Nat.div_lt_self (by omega) (by decide)) h1;obtain ⟨l,hl⟩:∃ l,(Ai (n/18446744073709551616)).length=l+1:=⟨_,(Nat.succ_pred_eq_of_pos hl).symm⟩;rw [hl,Nat.add_sub_cancel] at IH;rw [hl,Hh];have key:bl n=bl (n/18446744073709551616)+64:=by
     obtain ⟨q,hq⟩:∃ q,bl (n/18446744073709551616)=q+1:=⟨bl (n/18446744073709551616)-1,by have:=Ct _ h1;omega⟩;have a:=Dg _ h1;have b:=Bc (n/18446744073709551616);rw [hq] at a b ⊢;rw [Nat.add_sub_cancel] at a
     have := Acs   n (q + 64) (by rw [Nat.pow_add]; have : (2:Nat) ^ 64 = 18446744073709551616 := by decide
                                  rw [this]; omega) (by rw [show q + 64 + 1 = (q + 1) + 64 by omega, Nat.pow_add]; have : (2:Nat) ^ 64 = 18446744073709551616 := by decide
                                                        rw [this];omega)
     omega
    omega
def tzF:Nat→Nat→Nat
 | 0,_=>0
 | f+1,n=>if n%2=1 then 0 else tzF f (n/2)+1
def tz (n:Nat):Nat:=tzF (bl n) n
theorem Sd:∀ (f n:Nat),n≠0→n<2^f→2^tzF f n ∣ n∧n/2^tzF f n%2=1
 | 0,n,h,hf=>by simp at hf;omega
 | f + 1, n, h, hf => by
   rw [tzF];by_cases e:n%2=1
   ·rw [if_pos e];simp [e]
   ·rw [if_neg e];have hh:n/2≠0:=by omega
    obtain ⟨a,b⟩:=Sd f (n/2) hh (by rw [Nat.pow_succ] at hf;omega);obtain ⟨q,hq⟩:=a;refine ⟨⟨q,by rw [Nat.pow_succ,Nat.mul_right_comm,←hq];omega⟩,?_⟩;rw [Nat.pow_succ,Nat.mul_comm,←Nat.div_div_eq_div_mul];exact b
theorem U9 (n:Nat)(h:n≠0):2^tz n ∣ n:=(Sd _ n h (Bc n)).1
theorem Sf (n:Nat)(h:n≠0):n/2^tz n%2=1:=(Sd _ n h (Bc n)).2
theorem Se (n:Nat)(h:n≠0):n/2^tz n*2^tz n=n:=Nat.div_mul_cancel (U9 n h)
theorem Ix {a b x y:Nat}(hx:x%2=1)(hy:y%2=1)(h:x*2^a=y*2^b):a=b∧x=y:=by
 have key:∀ {a b x y:Nat},x%2=1→x*2^a=y*2^b→b≤a:=by
  intro a b x y hx h;by_cases hab:b≤a
  ·exact hab
  ·obtain ⟨d,rfl⟩:∃ d,b=a+(d+1):=⟨b-a-1,by omega⟩;rw [Nat.pow_add,←Nat.mul_assoc,Nat.mul_right_comm] at h;have:=Nat.eq_of_mul_eq_mul_right (Nat.pow_pos (by decide)) h;rw [Nat.pow_succ,←Nat.mul_assoc] at this;omega
 have e:a=b:=Nat.le_antisymm (key hy h.symm) (key hx h);subst e;exact ⟨rfl,Nat.eq_of_mul_eq_mul_right (Nat.pow_pos (by decide)) h⟩
theorem Ge (n k q:Nat)(hq:q%2=1)(h:n=q*2^k):tz n=k:=by
 have hn:n≠0:=by
  rintro rfl;have:0<q*2^k:=Nat.mul_pos (by omega) (Nat.pow_pos (by decide));omega
 exact (Ix (Sf n hn) hq ((Se n hn).trans h)).1
def tzL:List Nat→Nat
 | []=>0
 | x::xs=>if x=0 then 64+tzL xs else tz x
theorem Ace (n:Nat)(h:n≠0):tzL (Ai n)=tz n:=by
 induction n using Nat.strongRecOn with
 | _ n ih =>
   rw [Df n h,tzL];have p:(2:Nat)^64=18446744073709551616:=by decide
   by_cases hx:n%18446744073709551616=0
   ·rw [if_pos hx];have h1:n/18446744073709551616≠0:=by omega
    rw [ih _ (Nat.div_lt_self (by omega) (by decide)) h1];have a:=Sf _ h1;have b:=Se _ h1;refine (Ge n _ _ a ?_).symm;rw [Nat.add_comm,Nat.pow_add,←Nat.mul_assoc,b,p];omega
   ·rw [if_neg hx];have a:=Sf _ hx;have b:=Se _ hx;have c:tz (n%18446744073709551616)<64:=by
     by_cases hc:tz (n%18446744073709551616)<64
     ·exact hc
     ·have d:=U9 _ hx;have:=Nat.le_of_dvd (by omega) d;have e:2^64≤2^tz (n%18446744073709551616):=Nat.pow_le_pow_right (by decide) (by omega);omega
    obtain ⟨d,hd⟩:∃ d,64=tz (n%18446744073709551616)+(d+1):=⟨64-tz (n%18446744073709551616)-1,by omega⟩;refine (Ge n _ (n%18446744073709551616/2^tz (n%18446744073709551616)+2^(d+1)*(n/18446744073709551616)) ?_ ?_).symm
    ·rw [Nat.pow_succ,Nat.mul_comm (2^d) 2,Nat.mul_assoc];omega
    ·rw [Nat.add_mul,b,Nat.mul_right_comm,←Nat.pow_add,Nat.add_comm (d+1),←hd,p];omega
theorem Vq (xs:List Nat)(k:Nat)(h:k<xs.length):xs.drop k=nth xs k::xs.drop (k+1):=by
 rw [List.drop_eq_getElem_cons h,nth,List.getD_eq_getElem?_getD,List.getElem?_eq_getElem h];rfl
theorem Afm (xs:List Nat)(k:Nat)(h:k<xs.length):tzL (xs.drop k)=if nth xs k=0 then 64+tzL (xs.drop (k+1)) else tz (nth xs k):=by
 rw [Vq xs k h,tzL]
theorem Ma (n k:Nat)(h:n≠0)(hk:n<2^k):tz n<k:=by
 have:=Nat.le_of_dvd (Nat.pos_of_ne_zero h) (U9 n h);exact (Nat.pow_lt_pow_iff_right (by decide)).1 (Nat.lt_of_le_of_lt this hk)
end Go.Proofs.YtabjjdicffcolaaGreatDoor
namespace Go.Proofs.YtabjjdicffcolaaGreatDoor
structure Raw where
 neg:Bool
 m:List Nat
 e:Int
structure Dy where
 neg:Bool
 m:Nat
 e:Int
def Dy.raw (d:Dy):Raw:=⟨d.neg,Ai d.m,d.e⟩
def dz:Dy:=⟨false,0,0⟩
def Raw.dy (r:Raw):Dy:=⟨r.neg,val r.m,r.e⟩
def Gp (r:Raw):Bool :=
 if r.m.length=0 then (!r.neg&&r.e==0) else (Sk r.m&&nth r.m 0%2==1&&decide (-1048576≤r.e)&&decide (r.e≤1048576))
structure Dy.Ok (d:Dy):Prop where
 len:(Ai d.m).length≤64
 zero:d.m=0→d.neg=false∧d.e=0
 odd:d.m≠0→d.m%2=1
 lo:-1048576≤d.e
 hi:d.e≤1048576
theorem Ym {xs:List Nat}(h:Small xs)(hm:Sk xs=true):Ai (val xs)=xs:=by
 rw [←U7 xs h];unfold Sk at hm;by_cases h0:xs.length=0
 ·obtain rfl:=List.eq_nil_of_length_eq_zero h0;rfl
 ·simp [h0] at hm;have hm2:=hm;obtain ⟨k,hk⟩:∃ k,xs.length=k+1:=⟨xs.length-1,by omega⟩;have:tl xs=xs.length:=by
   unfold tl;rw [hk,Hv,if_neg];have:=hm2.2;rwa [hk,Nat.add_sub_cancel] at this
  rw [this,List.take_of_length_le (Nat.le_refl _)]
theorem Ady {xs:List Nat}(hm:Sk xs=true):xs.length≤64:=by
 unfold Sk at hm;by_cases h0:xs.length=0
 ·omega
 ·simp [h0] at hm;exact hm.1
theorem Lw (n:Nat):nth (Ai n) 0=n%18446744073709551616:=by
 by_cases h:n=0
 ·subst h;rw [Aw];rfl
 ·rw [Df n h];rfl
theorem It {r:Raw}(h:Small r.m)(hm:Gp r=true):r.dy.raw=r∧r.dy.Ok:=by
 obtain ⟨neg,m,e⟩:=r;unfold Gp at hm;simp only at hm h;by_cases h0:m.length=0
 ·obtain rfl:=List.eq_nil_of_length_eq_zero h0;simp at hm;obtain ⟨rfl,rfl⟩:=hm;refine ⟨by simp [Raw.dy,Dy.raw,val,Aw],?_⟩;refine ⟨by simp [Raw.dy,val,Aw],fun _=>⟨rfl,rfl⟩,fun h=>absurd rfl h,by simp [Raw.dy],by simp [Raw.dy]⟩
 ·rw [if_neg h0] at hm;simp only [Bool.and_eq_true,beq_iff_eq,decide_eq_true_eq] at hm;obtain ⟨⟨⟨h1,h2⟩,h3⟩,h4⟩:=hm;have hl:=Ym h h1;have hv:val m≠0:=by
   intro hv;rw [hv,Aw] at hl;rw [←hl] at h0;simp at h0
  refine ⟨by simp only [Raw.dy,Dy.raw];rw [hl],?_⟩;refine ⟨by simp only [Raw.dy];rw [hl];exact Ady h1,fun h=>absurd h hv,fun _=>?_,h3,h4⟩;simp only [Raw.dy];rw [←hl,Lw] at h2;omega
theorem Sl (n:Nat)(h:(Ai n).length≤64):Sk (Ai n)=true:=by
 by_cases h0:n=0
 ·subst h0;rw [Aw];rfl
 ·unfold Sk;have:=Ko n h0;simp [h]
  right
  exact this
theorem Dy.Ok.may {d:Dy}(h:d.Ok):Gp d.raw=true:=by
 unfold Gp Dy.raw;simp only;by_cases h0:d.m=0
 ·obtain ⟨a,b⟩:=h.zero h0;rw [h0,Aw,a,b];rfl
 ·rw [if_neg (by have:=Bj d.m h0;omega),Sl d.m h.len,Lw];have h1:=h.odd h0;have h2:=h.lo;have h3:=h.hi;have h4:d.m%18446744073709551616%2=1:=by omega
  simp [h4,h2,h3]
theorem Dy.raw_dy (d:Dy):d.raw.dy=d:=by
 simp [Dy.raw,Raw.dy,Bz]
theorem Dy.small (d:Dy):Small d.raw.m:=Fd _
theorem K8:dz.Ok:=⟨by simp [dz,Aw],fun _=>⟨rfl,rfl⟩,fun h=>absurd rfl h,by decide,by decide⟩
structure Outc (α:Type) where
 v:α
 k:Int
def good {α:Type} (a:α):Outc α:=⟨a,0⟩
def bad (k:Int):Outc Dy:=⟨dz,k⟩
def Bt (neg:Bool) (n:Nat) (e:Int):Outc Dy :=
 if n=0 then good dz
 else if 64<(Ai (n/2^tz n)).length then bad 2
 else if 1048576<e∨e < -1048576-tz n then bad 3
 else if 1048576<e+tz n then bad 3
 else good ⟨neg,n/2^tz n,e+tz n⟩
theorem Ha (neg:Bool)(n:Nat)(e:Int):(Bt neg n e).v.Ok∧((Bt neg n e).k≠0→(Bt neg n e).v=dz):=by
 unfold Bt;by_cases h0:n=0
 ·rw [if_pos h0];exact ⟨K8,fun _=>rfl⟩
 ·rw [if_neg h0];by_cases h1:64<(Ai (n/2^tz n)).length
  ·rw [if_pos h1];exact ⟨K8,fun _=>rfl⟩
  ·rw [if_neg h1];by_cases h2:1048576<e∨e < -1048576-tz n
   ·rw [if_pos h2];exact ⟨K8,fun _=>rfl⟩
   ·rw [if_neg h2];by_cases h3:1048576<e+tz n
    ·rw [if_pos h3];exact ⟨K8,fun _=>rfl⟩
    ·rw [if_neg h3];have ho:=Sf n h0;refine ⟨⟨by simp only [good];omega,fun hz=>?_,fun _=>ho,by simp only [good];omega,by simp only [good];omega⟩,fun h=>absurd rfl h⟩;simp only [good] at hz;rw [hz] at ho;omega
end Go.Proofs.YtabjjdicffcolaaGreatDoor
namespace Go.Proofs.YtabjjdicffcolaaGreatDoor
def pw (e:Int):Rat:=(2:Rat)^e
theorem G0 (e:Int):0<pw e:=Rat.zpow_pos (by decide)
theorem Ef (a b:Int):pw (a+b)=pw a*pw b:=Rat.zpow_add (by decide) a b
theorem F1:pw 0=1:=Rat.zpow_zero _
theorem O7:pw 1=2:=Rat.zpow_one _
theorem Hz (n:Nat):pw (n:Int)=((2^n:Nat):Rat):=by
 unfold pw;rw [Rat.zpow_natCast,Rat.natCast_pow];rfl
theorem Ng (e:Int):pw e*pw (-e)=1:=by rw [←Ef,Int.add_right_neg,F1]
theorem Mk (y:Rat)(i:Int):y*pw (-i)*pw i=y:=by rw [Rat.mul_assoc,Rat.mul_comm (pw (-i)),Ng,Rat.mul_one]
theorem Db (e:Int):0≤pw e:=Rat.le_of_lt (G0 e)
theorem Akz (e:Int):pw e≠0:=by have:=G0 e;grind
theorem Wm {a b:Int}(h:a≤b):pw b=((2^(b-a).toNat:Nat):Rat)*pw a:=by
 rw [←Hz,←Ef];congr 1;omega
theorem Fj {a b:Int}(h:a≤b):pw a≤pw b:=by
 rw [Wm h];have h1:(1:Rat)≤((2^(b-a).toNat:Nat):Rat):=by
  have:=Rat.natCast_le_natCast.2 (Nat.one_le_two_pow (n:=(b-a).toNat));exact this
 have h2:=Rat.mul_le_mul_of_nonneg_right h1 (Db a);grind
def sq (s:Bool) (m:Nat):Rat:=if s then -(m:Rat) else m
theorem U0 (s:Bool)(m:Nat):sq (!s) m=-sq s m:=by cases s<;>simp [sq]
theorem Mp (s:Bool):sq s 0=0:=by cases s<;>simp [sq]
theorem Aju (s t:Bool)(m n:Nat):sq (s != t) (m*n)=sq s m*sq t n:=by
 cases s<;>cases t<;>simp [sq,Rat.natCast_mul]<;>grind
def Dy.q (d:Dy):Rat:=sq d.neg d.m*pw d.e
theorem X8:dz.q=0:=by simp [Dy.q,dz,sq]
theorem Cs {a b:Nat}:(a:Rat)<(b:Rat)↔a<b:=Rat.natCast_lt_natCast
theorem Cj {a b:Nat}:(a:Rat)≤(b:Rat)↔a≤b:=Rat.natCast_le_natCast
theorem Uq {m:Nat}(h:m≠0):0<(m:Rat):=by
 have:=Cs.2 (Nat.pos_of_ne_zero h);simpa using this
theorem Ri {m:Nat}(h:m≠0)(e:Int):0<(m:Rat)*pw e:=Rat.mul_pos (Uq h) (G0 e)
theorem Ml {d:Dy}(hd:d.Ok):d.q=0↔d=dz:=by
 constructor
 ·intro h;by_cases h0:d.m=0
  ·obtain ⟨a,b⟩:=hd.zero h0;obtain ⟨n,m,e⟩:=d;simp only at h0 a b;subst h0 a b;rfl
  ·exfalso;have:=Ri h0 d.e;unfold Dy.q sq at h;cases hn:d.neg<;>rw [hn] at h<;>simp at h<;>grind
 ·rintro rfl;exact X8
theorem Hc (m:Nat){e l:Int}(h:l≤e):(m:Rat)*pw e=((m*2^(e-l).toNat:Nat):Rat)*pw l:=by
 rw [Wm h,Rat.natCast_mul,Rat.mul_assoc]
theorem Td {a b:Rat}(e:Int):a*pw e<b*pw e↔a<b:=Rat.mul_lt_mul_right (G0 e)
theorem Gb {a b:Rat}(e:Int):a*pw e≤b*pw e↔a≤b:=by
 constructor
 ·intro h;exact Rat.le_of_mul_le_mul_right h (G0 e)
 ·intro h;exact Rat.mul_le_mul_of_nonneg_right h (Db e)
theorem Adu (m n:Nat){e f l:Int}(h:l≤e)(k:l≤f):(m:Rat)*pw e≤(n:Rat)*pw f↔m*2^(e-l).toNat≤n*2^(f-l).toNat:=by
 rw [Hc m h,Hc n k,Gb,Cj]
theorem Ajd (m n:Nat){e f l:Int}(h:l≤e)(k:l≤f):(m:Rat)*pw e<(n:Rat)*pw f↔m*2^(e-l).toNat<n*2^(f-l).toNat:=by
 rw [Hc m h,Hc n k,Td,Cs]
theorem Yk (m n:Nat){e f l:Int}(h:l≤e)(k:l≤f):(m:Rat)*pw e=(n:Rat)*pw f↔m*2^(e-l).toNat=n*2^(f-l).toNat:=by
 constructor
 ·intro he;have h1:=(Adu m n h k).1 (by rw [he];exact Rat.le_refl);have h2:=(Adu n m k h).1 (by rw [he];exact Rat.le_refl);omega
 ·intro he;rw [Hc m h,Hc n k,he]
theorem Z0 {m n:Nat}{e f:Int}(hm:m%2=1)(hn:n%2=1)(h:(m:Rat)*pw e=(n:Rat)*pw f):m=n∧e=f:=by
 rcases Int.le_total e f with hl | hl
 ·have h1:=(Yk m n (Int.le_refl e) hl).1 h;obtain ⟨a,b⟩:=Ix hm hn h1;exact ⟨b,by omega⟩
 ·have h1:=(Yk m n hl (Int.le_refl f)).1 h;obtain ⟨a,b⟩:=Ix hm hn h1;exact ⟨b,by omega⟩
theorem Ak0 {a b:Dy}(ha:a.Ok)(hb:b.Ok)(h:a.q=b.q):a=b:=by
 by_cases h0:a.m=0
 ·have ha0:a.q=0:=by unfold Dy.q;rw [h0,Mp,Rat.zero_mul]
  rw [(Ml ha).1 ha0,(Ml hb).1 (by rw [←h,ha0])]
 ·by_cases h1:b.m=0
  ·have hb0:b.q=0:=by unfold Dy.q;rw [h1,Mp,Rat.zero_mul]
   rw [(Ml hb).1 hb0,(Ml ha).1 (by rw [h,hb0])]
  ·have pa:=Ri h0 a.e;have pb:=Ri h1 b.e;have oa:=ha.odd h0;have ob:=hb.odd h1;obtain ⟨n1,m1,e1⟩:=a;obtain ⟨n2,m2,e2⟩:=b;simp only [Dy.q,sq] at *;cases n1<;>cases n2<;>simp only [if_true,if_false,Bool.false_eq_true] at h
   ·obtain ⟨rfl,rfl⟩:=Z0 oa ob h;rfl
   ·grind
   ·grind
   ·have h':(m1:Rat)*pw e1=(m2:Rat)*pw e2:=by grind
    obtain ⟨rfl,rfl⟩:=Z0 oa ob h';rfl
def Co (x y:Rat):Int:=if x<y then -1 else if x=y then 0 else 1
theorem Vj (x y:Rat):Co (-x) (-y)=-Co x y:=by
 unfold Co;by_cases h:x<y
 ·rw [if_pos h,if_neg (by grind),if_neg (by grind)];rfl
 ·by_cases h1:x=y
  ·rw [if_neg h,if_pos h1,if_neg (by grind),if_pos (by rw [h1])];rfl
  ·rw [if_neg h,if_neg h1,if_pos (by grind)]
theorem Ke {x y:Rat}:Co x y≤0↔x≤y:=by
 unfold Co;by_cases h:x<y
 ·rw [if_pos h];constructor<;>intro<;>first | grind | decide
 ·by_cases h1:x=y
  ·rw [if_neg h,if_pos h1];constructor<;>intro<;>first | grind | decide
  ·rw [if_neg h,if_neg h1];constructor<;>intro h2
   ·exact absurd h2 (by decide)
   ·grind
theorem Pz {x y:Rat}:0≤Co x y↔y≤x:=by
 unfold Co;by_cases h:x<y
 ·rw [if_pos h];constructor<;>intro h2
  ·exact absurd h2 (by decide)
  ·grind
 ·by_cases h1:x=y
  ·rw [if_neg h,if_pos h1];constructor<;>intro<;>first | grind | decide
  ·rw [if_neg h,if_neg h1];constructor<;>intro<;>first | grind | decide
theorem P0 {x y:Rat}:Co x y<0↔x<y:=by
 have:=@Pz x y;constructor
 ·intro h;by_cases hxy:x<y
  ·exact hxy
  ·exfalso;have:(0:Int)≤Co x y:=this.2 (by grind);omega
 ·intro h;by_cases hc:Co x y<0
  ·exact hc
  ·exfalso;have:=this.1 (by omega);grind
theorem Zh {x y:Rat}:0<Co x y↔y<x:=by
 have:=@Ke x y;constructor
 ·intro h;by_cases hxy:y<x
  ·exact hxy
  ·exfalso;have:Co x y≤0:=this.2 (by grind);omega
 ·intro h;by_cases hc:0<Co x y
  ·exact hc
  ·exfalso;have:=this.1 (by omega);grind
theorem Sw (x:Rat):Co x x=0:=by
 unfold Co;rw [if_neg (by grind),if_pos rfl]
theorem Ac0 (m n:Nat){e f l:Int}(h:l≤e)(k:l≤f):Co ((m:Rat)*pw e) ((n:Rat)*pw f)=Em (m*2^(e-l).toNat) (n*2^(f-l).toNat):=by
 unfold Co Em;simp only [Ajd m n h k,Yk m n h k]
def Fits (p:Nat) (y:Rat):Prop:=∃ s k j,bl k≤p∧y=sq s k*pw j
theorem Fits.neg {p:Nat}{y:Rat}(h:Fits p y):Fits p (-y):=by
 obtain ⟨s,k,j,hk,rfl⟩:=h;exact ⟨!s,k,j,hk,by rw [U0];grind⟩
theorem Fits.mono {p p':Nat}{y:Rat}(h:Fits p y)(hp:p≤p'):Fits p' y:=by
 obtain ⟨s,k,j,hk,rfl⟩:=h;exact ⟨s,k,j,by omega,rfl⟩
theorem Fits.pw {p:Nat}{y:Rat}(h:Fits p y)(i:Int):Fits p (y*pw i):=by
 obtain ⟨s,k,j,hk,rfl⟩:=h;exact ⟨s,k,j+i,hk,by rw [Ef,Rat.mul_assoc]⟩
theorem Fits.zero (p:Nat):Fits p 0:=⟨false,0,0,by simp [bl],by rw [Mp,Rat.zero_mul]⟩
structure IsDown (p:Nat) (x d:Rat):Prop where
 fits:Fits p d
 le:d≤x
 best:∀ y,Fits p y→y≤x→y≤d
structure IsUp (p:Nat) (x d:Rat):Prop where
 fits:Fits p d
 le:x≤d
 best:∀ y,Fits p y→x≤y→d≤y
def Il (up:Bool) (p:Nat) (x d:Rat):Prop:=if up then IsUp p x d else IsDown p x d
theorem IsDown.neg {p:Nat}{x d:Rat}(h:IsDown p x d):IsUp p (-x) (-d) :=
 ⟨h.fits.neg,by have:=h.le;grind,fun y hy hx=>by have:=h.best (-y) hy.neg (by grind);grind⟩
theorem IsUp.neg {p:Nat}{x d:Rat}(h:IsUp p x d):IsDown p (-x) (-d) :=
 ⟨h.fits.neg,by have:=h.le;grind,fun y hy hx=>by have:=h.best (-y) hy.neg (by grind);grind⟩
theorem IsDown.mono {p p':Nat}{x x' d d':Rat}(h:IsDown p x d)(h':IsDown p' x' d')(hp:p≤p')(hx:x≤x'):d≤d' :=
 h'.best d (h.fits.mono hp) (by have:=h.le;grind)
theorem IsUp.mono {p p':Nat}{x x' d d':Rat}(h:IsUp p x d)(h':IsUp p' x' d')(hp:p≤p')(hx:x'≤x):d'≤d :=
 h'.best d (h.fits.mono hp) (by have:=h.le;grind)
theorem IsDown.of_fits {p:Nat}{x:Rat}(h:Fits p x):IsDown p x x:=⟨h,Rat.le_refl,fun _ _ h=>h⟩
theorem IsUp.of_fits {p:Nat}{x:Rat}(h:Fits p x):IsUp p x x:=⟨h,Rat.le_refl,fun _ _ h=>h⟩
theorem IsDown.pw {p:Nat}{x d:Rat}(h:IsDown p x d)(i:Int):IsDown p (x*pw i) (d*pw i):=by
 refine ⟨h.fits.pw i,(Gb i).2 h.le,fun y hy hx=>?_⟩;have h2:=h.best (y*Go.Proofs.YtabjjdicffcolaaGreatDoor.pw (-i)) (hy.pw (-i)) (by rw [←Gb i,Mk];exact hx);rw [←Gb i,Mk] at h2;exact h2
theorem IsUp.pw {p:Nat}{x d:Rat}(h:IsUp p x d)(i:Int):IsUp p (x*pw i) (d*pw i):=by
 have:=(h.neg.pw i).neg;simpa [Rat.neg_mul] using this
theorem Mu {p m':Nat}{x y:Rat}(hm:2^(p-1)≤m')(hp:1≤p)(hx:x<(m':Rat)+1)(hy:Fits p y)(hyx:y≤x):y≤m':=by
 obtain ⟨s,k,j,hk,rfl⟩:=hy;have hm0:(0:Rat)≤m':=Cj.2 (Nat.zero_le m');cases s
 case true =>
  have:sq true k*pw j≤0:=by
   have h1:(0:Rat)≤k:=Cj.2 (Nat.zero_le k);have h2:=Rat.mul_le_mul_of_nonneg_right h1 (Db j);simp only [sq,if_true];grind
  grind
 case false =>
  simp only [sq,Bool.false_eq_true,if_false] at *;rcases Int.le_total 0 j with hj | hj
  ·have e:(k:Rat)*pw j=((k*2^j.toNat:Nat):Rat):=by
    have h:=Hc k hj;rw [F1] at h;simpa using h
   rw [e] at hyx ⊢;have h3:((k*2^j.toNat:Nat):Rat)<((m'+1:Nat):Rat):=by
    rw [Rat.natCast_add];have:((1:Nat):Rat)=1:=rfl;grind
   have:=Cs.1 h3;exact Cj.2 (by omega)
  ·by_cases hj0:j=0
   ·subst hj0;rw [F1,Rat.mul_one] at hyx ⊢;have h3:(k:Rat)<((m'+1:Nat):Rat):=by
     rw [Rat.natCast_add];have:((1:Nat):Rat)=1:=rfl;grind
    have:=Cs.1 h3;exact Cj.2 (by omega)
   ·have h1:(k:Rat)*pw j≤(k:Rat)*pw (-1):=by
     have h1:(0:Rat)≤k:=Cj.2 (Nat.zero_le k);exact Rat.mul_le_mul_of_nonneg_left (Fj (by omega)) h1
    have h2:k≤2*m':=by
     have h4:=Bc k;have h5:2^bl k≤2^p:=Nat.pow_le_pow_right (by decide) hk;have h6:2^p=2*2^(p-1):=by
      rw [←Nat.pow_succ'];congr 1;omega
     omega
    have h3:(k:Rat)≤2*(m':Rat):=by
     have:=Cj.2 h2;rw [Rat.natCast_mul] at this;exact this
    have h4:=Ng (-1);have h5:pw (-(-1:Int))=2:=O7;rw [h5] at h4;have h6:=G0 (-1);have h7:=Rat.mul_le_mul_of_nonneg_right h3 (Db (-1));have h8:2*(m':Rat)*pw (-1)=m':=by
     rw [Rat.mul_comm 2,Rat.mul_assoc,Rat.mul_comm 2,h4,Rat.mul_one]
    rw [h8] at h7;exact Rat.le_trans h1 h7
theorem Ug {p m':Nat}{x y:Rat}(hm:2^(p-1)≤m')(hp:1≤p)(hx:(m':Rat)<x)(hy:Fits p y)(hyx:x≤y):(m':Rat)+1≤y:=by
 by_cases h:(m':Rat)+1≤y
 ·exact h
 ·exfalso;have:=Mu hm hp (x:=y) (by grind) hy Rat.le_refl;grind
theorem Ai1 (m n:Nat):((m/2^n:Nat):Rat)*((2^n:Nat):Rat)≤m∧(m:Rat)<(((m/2^n:Nat):Rat)+1)*((2^n:Nat):Rat):=by
 have h0:0<2^n:=Nat.two_pow_pos n;have h1:=Nat.div_add_mod m (2^n);have h2:=Nat.mod_lt m h0;constructor
 ·rw [←Rat.natCast_mul,Cj];rw [Nat.mul_comm] at h1;omega
 ·have:(((m/2^n:Nat):Rat)+1)*((2^n:Nat):Rat)=(((m/2^n+1)*2^n:Nat):Rat):=by
   rw [Rat.natCast_mul,Rat.natCast_add];rfl
  rw [this,Cs,Nat.add_mul,Nat.one_mul];rw [Nat.mul_comm] at h1;omega
theorem Tp (m n:Nat)(h:m≠0):tz m<n↔m%2^n≠0:=by
 constructor
 ·intro hlt hz;have hd:2^n ∣ m:=Nat.dvd_of_mod_eq_zero hz;have h1:=Se m h;have h2:=Sf m h;have h3:2^(tz m+1) ∣ m:=Nat.dvd_trans (Nat.pow_dvd_pow 2 hlt) hd;obtain ⟨c,hc⟩:=h3;have h4:m/2^tz m=2*c:=by
   apply Nat.div_eq_of_eq_mul_left (Nat.two_pow_pos _);have:2^(tz m+1)*c=2*c*2^tz m:=by rw [Nat.pow_succ,Nat.mul_assoc,Nat.mul_comm]
   omega
  omega
 ·intro hz;by_cases hc:tz m<n
  ·exact hc
  ·exfalso;apply hz;exact Nat.mod_eq_zero_of_dvd (Nat.dvd_trans (Nat.pow_dvd_pow 2 (by omega)) (U9 m h))
def Ig (m:Nat) (rest:Bool) (p:Nat):Bool × Nat × Nat :=
 let n:=bl m-p
 (rest||(decide (0<n)&&decide (tz m<n)),m/2^n,n)
theorem On (m n:Nat):bl (m/2^n)=bl m-n:=by
 by_cases h:m=0
 ·subst h;simp [bl]
 ·by_cases hn:n<bl m
  ·have h1:=Dg m h;have h2:=Bc m;have e:bl m-n=(bl m-n-1)+1:=by omega
   rw [e];refine Acs _ _ ?_ ?_
   ·rw [Nat.le_div_iff_mul_le (Nat.two_pow_pos n),←Nat.pow_add];have:bl m-n-1+n=bl m-1:=by omega
    rw [this];exact h1
   ·rw [Nat.div_lt_iff_lt_mul (Nat.two_pow_pos n),←Nat.pow_add];have:bl m-n-1+1+n=bl m:=by omega
    rw [this];exact h2
  ·have h2:=Bc m;have:m/2^n=0:=Nat.div_eq_of_lt (Nat.lt_of_lt_of_le h2 (Nat.pow_le_pow_right (by decide) (by omega)));rw [this,Gg];omega
def Mag (m:Nat) (rest:Bool) (M:Rat):Prop:=if rest then (m:Rat)<M∧M<(m:Rat)+1 else M=m
theorem Vm {m:Nat}{rest:Bool}{p:Nat}{M:Rat}(h:Mag m rest M)(h0:rest=true→p<bl m)(h1p:1≤p) :
 Mag (Ig m rest p).2.1 (Ig m rest p).1 (M*pw (-((bl m-p:Nat):Int)))∧((Ig m rest p).1=true→2^(p-1)≤(Ig m rest p).2.1)∧bl (Ig m rest p).2.1≤p:=by
 obtain ⟨n,hn⟩:∃ n,bl m-p=n:=⟨_,rfl⟩;simp only [Ig,hn];have hbl:bl (m/2^n)≤p:=by rw [On];omega
 have hbig:0<n→2^(p-1)≤m/2^n:=by
  intro hp;have hm:m≠0:=by rintro rfl;simp [bl] at hn;omega
  have h1:=Dg m hm;rw [Nat.le_div_iff_mul_le (Nat.two_pow_pos n),←Nat.pow_add];refine Nat.le_trans (Nat.pow_le_pow_right (by decide) ?_) h1;omega
 by_cases hp:0<n
 ·have hm:m≠0:=by rintro rfl;simp [bl] at hn;omega
  have hd:decide (0<n)=true:=by simp [hp]
  rw [hd,Bool.true_and];obtain ⟨d1,d2⟩:=Ai1 m n;have e1:=Ng (n:Int);rw [Hz] at e1;have e2:=G0 (-(n:Int));have e3:0<((2^n:Nat):Rat):=by rw [←Hz];exact G0 _
  refine ⟨?_,fun _=>hbig hp,hbl⟩;by_cases hr:(rest||decide (tz m<n))=true
  ·rw [hr];simp only [Mag,if_true];have hstrict:((m/2^n:Nat):Rat)*((2^n:Nat):Rat)<M∧M<(((m/2^n:Nat):Rat)+1)*((2^n:Nat):Rat):=by
    cases rest
    ·simp only [Mag,Bool.false_eq_true,if_false] at h;simp only [Bool.false_or,decide_eq_true_eq] at hr;have hz:=(Tp m n hm).1 hr;subst h;refine ⟨?_,d2⟩;rw [←Rat.natCast_mul,Cs];have h1:=Nat.div_add_mod m (2^n);rw [Nat.mul_comm] at h1;omega
    ·simp only [Mag,if_true] at h;refine ⟨by grind,?_⟩;have:(((m/2^n:Nat):Rat)+1)*((2^n:Nat):Rat)=(((m/2^n+1)*2^n:Nat):Rat):=by
      rw [Rat.natCast_mul,Rat.natCast_add];rfl
     rw [this] at d2 ⊢;have d3:=Cs.1 d2;have d4:((m+1:Nat):Rat)≤(((m/2^n+1)*2^n:Nat):Rat):=Cj.2 d3;rw [Rat.natCast_add] at d4;have:((1:Nat):Rat)=1:=rfl;grind
   generalize ((m/2^n:Nat):Rat)=A at *;generalize ((2^n:Nat):Rat)=B at *;generalize pw (-(n:Int))=C at *;obtain ⟨s1,s2⟩:=hstrict;have t1:=(Rat.mul_lt_mul_right e2).2 s1;have t2:=(Rat.mul_lt_mul_right e2).2 s2;rw [Rat.mul_assoc,e1,Rat.mul_one] at t1 t2;exact ⟨t1,t2⟩
  ·have hr':(rest||decide (tz m<n))=false:=by simpa using hr
   rw [hr'];simp only [Bool.or_eq_false_iff,decide_eq_false_iff_not] at hr';obtain ⟨r1,r2⟩:=hr';subst r1;simp only [Mag,Bool.false_eq_true,if_false] at h ⊢;have hz:m%2^n=0:=by
    by_cases hz:m%2^n=0
    ·exact hz
    ·exact absurd ((Tp m n hm).2 hz) r2
   have h1:=Nat.div_add_mod m (2^n);rw [hz,Nat.add_zero,Nat.mul_comm] at h1;have h2:((m/2^n:Nat):Rat)*((2^n:Nat):Rat)=m:=by rw [←Rat.natCast_mul,h1]
   subst h;rw [←h2,Rat.mul_assoc,e1,Rat.mul_one]
 ·have hn0:n=0:=by omega
  subst hn0;have hr:rest=false:=by
   cases rest
   ·rfl
   ·have:=h0 rfl;omega
  subst hr;have e:pw (-((0:Nat):Int))=1:=F1;refine ⟨?_,fun h=>?_,hbl⟩
  ·rw [e,Rat.mul_one];simpa [Mag] using h
  ·simp at h
def Eo (m:Nat) (rest:Bool) (p:Nat) (away:Bool):Nat:=if (Ig m rest p).1&&away then (Ig m rest p).2.1+1 else (Ig m rest p).2.1
theorem Jr {p m:Nat}(h:bl m≤p):Fits p (m:Rat):=⟨false,m,0,h,by simp [sq,F1]⟩
theorem Aa8 {p m:Nat}(h:bl m≤p)(hp:1≤p):Fits p ((m:Rat)+1):=by
 have e:(m:Rat)+1=((m+1:Nat):Rat):=by rw [Rat.natCast_add];rfl
 rw [e];by_cases hb:bl (m+1)≤p
 ·exact Jr hb
 ·have h1:=Bc m;have h2:2^bl m≤2^p:=Nat.pow_le_pow_right (by decide) h;have h3:m+1=2^p:=by
   by_cases h4:m+1<2^p
   ·exact absurd (E7 _ _ h4) hb
   ·omega
  rw [h3];refine ⟨false,1,p,?_,?_⟩
  ·have:bl 1=1:=by decide
   omega
  ·rw [Hz];simp only [sq,Bool.false_eq_true,if_false];exact (Rat.one_mul _).symm
theorem Me {m:Nat}{rest:Bool}{p:Nat}{M:Rat}(h:Mag m rest M)(h0:rest=true→p<bl m)(hp:1≤p) :
 IsDown p M ((Eo m rest p false:Rat)*pw ((bl m-p:Nat):Int)):=by
 obtain ⟨hm,hb,hl⟩:=Vm h h0 hp;have e1:=Ng (((bl m-p:Nat):Int));have key:IsDown p (M*pw (-((bl m-p:Nat):Int))) (Eo m rest p false:Rat):=by
  unfold Eo;rw [Bool.and_false];simp only [Bool.false_eq_true,if_false];generalize (Ig m rest p).2.1=m' at *;generalize (Ig m rest p).1=r' at *;generalize M*pw (-((bl m-p:Nat):Int))=x at *;cases r'
  ·simp only [Mag,Bool.false_eq_true,if_false] at hm;subst hm;exact .of_fits (Jr hl)
  ·simp only [Mag,if_true] at hm;exact ⟨Jr hl,by grind,fun y hy hx=>Mu (hb rfl) hp hm.2 hy hx⟩
 have:=key.pw ((bl m-p:Nat):Int);rw [Rat.mul_assoc,Rat.mul_comm (pw _),e1,Rat.mul_one] at this;exact this
theorem P3 {m:Nat}{rest:Bool}{p:Nat}{M:Rat}(h:Mag m rest M)(h0:rest=true→p<bl m)(hp:1≤p) :
 IsUp p M ((Eo m rest p true:Rat)*pw ((bl m-p:Nat):Int)):=by
 obtain ⟨hm,hb,hl⟩:=Vm h h0 hp;have e1:=Ng (((bl m-p:Nat):Int));have key:IsUp p (M*pw (-((bl m-p:Nat):Int))) (Eo m rest p true:Rat):=by
  unfold Eo;rw [Bool.and_true];generalize (Ig m rest p).2.1=m' at *;generalize (Ig m rest p).1=r' at *;generalize M*pw (-((bl m-p:Nat):Int))=x at *;cases r'
  ·simp only [Mag,Bool.false_eq_true,if_false] at hm ⊢;subst hm;exact .of_fits (Jr hl)
  ·simp only [Mag,if_true] at hm ⊢;have e:((m'+1:Nat):Rat)=(m':Rat)+1:=by rw [Rat.natCast_add];rfl
   rw [e];exact ⟨Aa8 hl hp,by grind,fun y hy hx=>Ug (hb rfl) hp hm.1 hy hx⟩
 have:=key.pw ((bl m-p:Nat):Int);rw [Rat.mul_assoc,Rat.mul_comm (pw _),e1,Rat.mul_one] at this;exact this
def I5 (neg:Bool) (m:Nat) (e:Int) (rest:Bool) (p:Nat) (up:Bool):Outc Dy :=
 Bt neg (Eo m rest p (up != neg)) (e+((bl m-p:Nat):Int))
theorem Kj {neg:Bool}{n:Nat}{e:Int}(h:(Bt neg n e).k=0):(Bt neg n e).v.q=sq neg n*pw e:=by
 unfold Bt at *;by_cases h0:n=0
 ·rw [if_pos h0];subst h0;rw [Mp,Rat.zero_mul];exact X8
 ·rw [if_neg h0] at h ⊢;by_cases h1:64<(Ai    (n/2^tz n)).length
  ·rw [if_pos h1] at h;exact absurd h (by decide)
  ·rw [if_neg h1] at h ⊢;by_cases h2:1048576<e∨e < -1048576-tz n
   ·rw [if_pos h2] at h;exact absurd h (by decide)
   ·rw [if_neg h2] at h ⊢;by_cases h3:1048576<e+tz n
    ·rw [if_pos h3] at h;exact absurd h (by decide)
    ·rw [if_neg h3];simp only [good,Dy.q];rw [Int.add_comm,Ef,Hz,←Rat.mul_assoc]
     congr 1
     have:=Se n h0;unfold sq;cases neg
     ·simp only [Bool.false_eq_true,if_false];rw [←Rat.natCast_mul,this]
     ·simp only [if_true];rw [Rat.neg_mul,←Rat.natCast_mul,this]
theorem Vl {neg:Bool}{m:Nat}{e:Int}{rest:Bool}{p:Nat}{up:Bool}{M:Rat}(h:Mag m rest M)(h0:rest=true→p<bl m)(hp:1≤p)
 (hk:(I5 neg m e rest p up).k=0):Il up p ((if neg then -M else M)*pw e) (I5 neg m e rest p up).v.q:=by
 unfold I5 at *;rw [Kj hk,Int.add_comm,Ef,←Rat.mul_assoc];unfold Il;cases neg<;>cases up
 ·exact ((Me h h0 hp).pw e)
 ·exact ((P3 h h0 hp).pw e)
 ·have e1:(false != true)=true:=rfl;have:=((P3 h h0 hp).neg).pw e;simpa only [e1,Bool.false_eq_true,if_false,if_true,sq,Rat.neg_mul] using this
 ·have e1:(true != true)=false:=rfl;have:=((Me h h0 hp).neg).pw e;simpa only [e1,Bool.false_eq_true,if_false,if_true,sq,Rat.neg_mul] using this
end Go.Proofs.YtabjjdicffcolaaGreatDoor
