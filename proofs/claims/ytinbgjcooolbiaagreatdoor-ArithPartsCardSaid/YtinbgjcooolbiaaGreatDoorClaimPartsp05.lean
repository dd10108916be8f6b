/- Words and contracts, part 5. -/
import Derived.Test.YtinbgjcooolbiaaGreatDoorClaimPartsp02
set_option maxRecDepth 100000
set_option maxHeartbeats 0
namespace Go.Proofs.YtinbgjcooolbiaaGreatDoor.Dg
def val:List Nat→Nat
 | []=>0
 | x::xs=>x+65536*val xs
def Small (xs:List Nat):Prop:=∀ x∈xs,x<65536
def limbs (n:Nat):List Nat:=if _h:n=0 then [] else (n%65536)::limbs (n/65536)
termination_by n
decreasing_by exact Nat.div_lt_self (by omega) (by decide)
theorem limbs_zero:limbs 0=[]:=by rw [limbs];simp
theorem Bc (n:Nat)(h:n≠0):limbs n=(n%65536)::limbs (n/65536):=by rw [limbs];simp [h]
theorem val_limbs (n:Nat):val (limbs n)=n:=by
 induction n using Nat.strongRecOn with
 | _ n ih =>
   by_cases h:n=0
   ·subst h;rw [limbs_zero];rfl
   ·rw [Bc n h,val,ih (n/65536) (Nat.div_lt_self (by omega) (by decide))];exact Nat.mod_add_div n 65536
theorem Cf (n:Nat):Small (limbs n):=by
 induction n using Nat.strongRecOn with
 | _ n ih =>
   by_cases h:n=0
   ·subst h;rw [limbs_zero];intro x hx;cases hx
   ·rw [Bc n h];intro x hx;rcases List.mem_cons.1 hx with rfl | hx
    ·exact Nat.mod_lt _ (by decide)
    ·exact ih (n/65536) (Nat.div_lt_self (by omega) (by decide)) x hx
def Cn (xs:List Nat):Nat→Nat
 | 0=>0
 | k+1=>if nth xs k=0 then Cn xs k else k+1
def tl (xs:List Nat):Nat:=Cn xs xs.length
theorem It (xs:List Nat):∀ k,Cn xs k≤k
 | 0=>Nat.le_refl _
 | k + 1 => by
   unfold Cn;split
   ·exact Nat.le_succ_of_le (It xs k)
   ·exact Nat.le_refl _
theorem tl_le (xs:List Nat):tl xs≤xs.length:=It xs _
theorem nth_lt {xs:List Nat}(h:Small xs)(i:Nat):nth xs i<65536:=by
 unfold nth;by_cases hi:i<xs.length
 ·rw [List.getD_eq_getElem?_getD,List.getElem?_eq_getElem hi];exact h _ (List.getElem_mem hi)
 ·rw [List.getD_eq_getElem?_getD,List.getElem?_eq_none (by omega)];decide
theorem Gj (x:Nat)(xs:List Nat):∀ k,Cn (x::xs) (k+1)=if Cn xs k=0 then (if x=0 then 0 else 1) else Cn xs k+1
 | 0=>by simp [Cn,nth]
 | k + 1 => by
   rw [Cn,Bs,Gj x xs k,Cn];by_cases h:nth xs k=0
   ·simp [h]
   ·simp [h]
theorem take_tl (xs:List Nat)(h:Small xs):xs.take (tl xs)=limbs (val xs):=by
 induction xs with
 | nil=>simp [tl,Cn,val,limbs_zero]
 | cons x xs ih =>
   have hx:x<65536:=h x (List.mem_cons_self);have hs:Small xs:=fun y hy=>h y (List.mem_cons_of_mem _ hy)
   have ih':=ih hs;have ht:tl (x::xs)=if tl xs=0 then (if x=0 then 0 else 1) else tl xs+1:=Gj x xs xs.length
   have hv:tl xs=0↔val xs=0:=by
    constructor
    ·intro h0;rw [h0] at ih';have:=val_limbs (val xs);rw [←ih'] at this;simpa [val] using this.symm
    ·intro h0;rw [h0,limbs_zero] at ih';have h1:=congrArg List.length ih';have h2:=tl_le xs;rw [List.length_take,List.length_nil] at h1;omega
   by_cases h0:val xs=0
   ·rw [ht,if_pos (hv.2 h0)];by_cases hx0:x=0
    ·simp [hx0,val,h0,limbs_zero]
    ·rw [if_neg hx0,val,h0];have e1:(x+65536*0)%65536=x:=by omega
     have e2:(x+65536*0)/65536=0:=by omega
     rw [Bc _ (by omega),e1,e2,limbs_zero];simp
   ·rw [ht,if_neg (fun h=>h0 (hv.1 h)),List.take_succ_cons,ih',val];rw [Bc (x+65536*val xs) (by omega)];have e1:(x+65536*val xs)%65536=x:=by omega
    have e2:(x+65536*val xs)/65536=val xs:=by omega
    rw [e1,e2]
theorem length_limbs (n : Nat) : (limbs n).length = if n = 0 then 0 else Nat.log2 n / 16 + 1 := by
 induction n using Nat.strongRecOn with
 | _ n ih =>
   by_cases h:n=0
   ·subst h;simp [limbs_zero]
   ·rw [Bc        n h, List.length_cons, ih (n / 65536) (Nat.div_lt_self (by omega) (by decide)), if_neg h];by_cases h1:n/65536=0
    ·rw [if_pos h1];have:Nat.log2 n<16:=(Nat.log2_lt h).2 (by omega);omega
    ·rw [if_neg h1];have key:Nat.log2 n=Nat.log2 (n/65536)+16:=by
      have a1:=Nat.log2_self_le h1;have a2:=Nat.lt_log2_self (n:=n/65536);have b1:2^(Nat.log2 (n/65536)+16)≤n:=by
       rw [Nat.pow_add]
       calc 2^Nat.log2 (n/65536)*2^16≤(n/65536)*2^16:=Nat.mul_le_mul_right _ a1
        _≤n:=Nat.div_mul_le_self n 65536
      have b2:n<2^(Nat.log2 (n/65536)+16+1):=by
       have:n<(n/65536+1)*65536:=by
        have:=Nat.lt_mul_div_succ n (show 0<65536 by decide);rw [Nat.mul_comm] at this;exact this
       calc n<(n/65536+1)*65536:=this
        _≤2^(Nat.log2 (n/65536)+1)*65536:=Nat.mul_le_mul_right _ a2
        _=2^(Nat.log2 (n/65536)+16+1):=by rw [show Nat.log2 (n/65536)+16+1=(Nat.log2 (n/65536)+1)+16 by omega,Nat.pow_add _ _ 16]
      have c1:=(Nat.le_log2 h).2 b1;have c2:=(Nat.log2_lt h).2 b2;omega
     rw [key];omega
def Dh (xs ys:List Nat):Nat→Int
 | 0=>0
 | k+1=>if nth xs k=nth ys k then Dh xs ys k else if nth xs k<nth ys k then -1 else 1
theorem val_append (xs ys:List Nat):val (xs++ys)=val xs+65536^xs.length*val ys:=by
 induction xs with
 | nil=>simp [val]
 | cons x xs ih =>
   rw [List.cons_append,val,ih,val,List.length_cons,Nat.pow_succ];generalize 65536^xs.length=p;rw [Nat.mul_add,Nat.add_assoc]
   congr 2
   rw [←Nat.mul_assoc,Nat.mul_comm p]
theorem val_lt (xs:List Nat)(h:Small xs):val xs<65536^xs.length:=by
 induction xs with
 | nil=>simp [val]
 | cons x xs ih =>
   have hx:x<65536:=h x (List.mem_cons_self);have:=ih (fun y hy=>h y (List.mem_cons_of_mem _ hy));rw [val,List.length_cons,Nat.pow_succ];generalize 65536^xs.length=p at *;omega
theorem small_take {xs:List Nat}(h:Small xs)(k:Nat):Small (xs.take k):=fun x hx=>h x (List.mem_of_mem_take hx)
theorem Gi {xs:List Nat}(h:Small xs)(k:Nat):Small (xs.drop k):=fun x hx=>h x (List.mem_of_mem_drop hx)
theorem Bf (xs:List Nat)(k:Nat)(h:k<xs.length):val (xs.take (k+1))=val (xs.take k)+65536^k*nth xs k:=by
 rw [Fm xs k h,val_append,List.length_take,Nat.min_eq_left (by omega)];simp [val]
theorem Gd (xs ys:List Nat)(hx:Small xs)(hy:Small ys):∀ k,k≤xs.length→k≤ys.length→Dh xs ys k=Bp (val (xs.take k)) (val (ys.take k))
 | 0,_,_=>by simp [Dh,Bp]
 | k + 1, h1, h2 => by
   have ih:=Gd xs ys hx hy k (by omega) (by omega);rw [Dh,Bf xs k (by omega),Bf ys k (by omega),ih];have a:=val_lt _ (small_take hx k);have b:=val_lt _ (small_take hy k);rw [List.length_take,Nat.min_eq_left (by omega)] at a b;generalize 65536^k=p at *;generalize val (xs.take k)=u at *;generalize val (ys.take k)=v at *;generalize nth xs k=x;generalize nth ys k=y;by_cases e:x=y
   ·subst e;rw [if_pos rfl];unfold Bp;simp only [Nat.add_lt_add_iff_right,Nat.add_right_cancel_iff]
   ·rw [if_neg e];by_cases l:x<y
    ·rw [if_pos l];have:p*(x+1)≤p*y:=Nat.mul_le_mul_left _ l;rw [Nat.mul_add] at this;unfold Bp;rw [if_pos (by omega)]
    ·rw [if_neg l];have:p*(y+1)≤p*x:=Nat.mul_le_mul_left _ (by omega);rw [Nat.mul_add] at this;unfold Bp;rw [if_neg (by omega),if_neg (by omega)]
theorem lt_pow_length (n:Nat):n<65536^(limbs n).length:=by
 have:=val_lt _ (Cf n);rwa [val_limbs] at this
theorem Dp (n:Nat)(h:n≠0):65536^((limbs n).length-1)≤n:=by
 induction n using Nat.strongRecOn with
 | _ n ih =>
   rw [Bc n h,List.length_cons,Nat.add_sub_cancel];by_cases h1:n/65536=0
   ·rw [h1,limbs_zero];simp;omega
   ·have:=ih _ (Nat.div_lt_self (by omega) (by decide)) h1;have hl:0<(limbs (n/65536)).length:=by rw [Bc _ h1];simp
    obtain ⟨l,hl⟩:∃ l,(limbs (n/65536)).length=l+1:=⟨_,(Nat.succ_pred_eq_of_pos hl).symm⟩;rw [hl] at this ⊢;rw [Nat.add_sub_cancel] at this;rw [Nat.pow_succ];generalize 65536^l=p at *;omega
theorem C0 (n m:Nat)(h:(limbs n).length<(limbs m).length):n<m:=by
 have a:=lt_pow_length n;have hm:m≠0:=by rintro rfl;rw [limbs_zero] at h;simp at h
 have b:=Dp m hm;have c:65536^(limbs n).length≤65536^((limbs m).length-1):=Nat.pow_le_pow_right (by decide) (by omega);omega
theorem Hm (n m:Nat)(h:(limbs n).length=(limbs m).length):Dh (limbs n) (limbs m) (limbs n).length=Bp n m:=by
 rw [Gd _ _ (Cf n) (Cf m) _ (Nat.le_refl _) (by omega),List.take_of_length_le (Nat.le_refl _),List.take_of_length_le (by omega),val_limbs,val_limbs]
theorem Gf (n:Nat)(h:n≠0):nth (limbs n) ((limbs n).length-1)≠0:=by
 induction n using Nat.strongRecOn with
 | _ n ih =>
   rw [Bc n h,List.length_cons,Nat.add_sub_cancel];by_cases h1:n/65536=0
   ·rw [h1,limbs_zero];simp [nth];omega
   ·have hl:0<(limbs (n/65536)).length:=by rw [Bc _ h1];simp
    have:=ih _ (Nat.div_lt_self (by omega) (by decide)) h1;obtain ⟨l,hl⟩:∃ l,(limbs (n/65536)).length=l+1:=⟨_,(Nat.succ_pred_eq_of_pos hl).symm⟩;rw [hl] at this ⊢;rw [Bs];exact this
theorem length_limbs_pos (n:Nat)(h:n≠0):0<(limbs n).length:=by rw [Bc n h];simp
theorem L4     (n : Nat) (h : n ≠ 0) : bl n = 16 * ((limbs n).length - 1) + bl (nth (limbs n) ((limbs n).length - 1)) := by
 induction n using Nat.strongRecOn with
 | _ n ih =>
   rw [Bc n h,List.length_cons,Nat.add_sub_cancel];by_cases h1:n/65536=0
   ·rw [h1,limbs_zero];have:n%65536=n:=by omega
    simp [nth,this]
   ·have hl:0<(limbs (n/65536)).length:=by rw [Bc _ h1];simp
    have IH:=ih _ (Nat.div_lt_self (by omega) (by decide)) h1;obtain ⟨l,hl⟩:∃ l,(limbs (n/65536)).length=l+1:=⟨_,(Nat.succ_pred_eq_of_pos hl).symm⟩;rw [hl,Nat.add_sub_cancel] at IH;rw [hl,Bs];have key:bl n=bl (n/65536)+16:=by
     obtain ⟨q,hq⟩:∃ q,bl (n/65536)=q+1:=⟨bl (n/65536)-1,by have:=Gc _ h1;omega⟩;have a:=Cz _ h1;have b:=Bi (n/65536);rw [hq] at a b ⊢;rw [Nat.add_sub_cancel] at a
     have := Pv    n (q + 16) (by rw [Nat.pow_add]; have : (2:Nat) ^ 16 = 65536 := by decide
                                  rw [this]; omega) (by rw [show q + 16 + 1 = (q + 1) + 16 by omega, Nat.pow_add]; have : (2:Nat) ^ 16 = 65536 := by decide
                                                        rw [this];omega)
     omega
    omega
end Go.Proofs.YtinbgjcooolbiaaGreatDoor.Dg
namespace Go.Proofs.YtinbgjcooolbiaaGreatDoor.Dg
theorem Gq {xs:List Nat}{i:Nat}(h:xs.length≤i):nth xs i=0:=by
 unfold nth;rw [List.getD_eq_getElem?_getD,List.getElem?_eq_none h];rfl
theorem C9 (xs:List Nat)(i:Nat):val (xs.take (i+1))=val (xs.take i)+65536^i*nth xs i:=by
 by_cases h:i<xs.length
 ·exact Bf xs i h
 ·rw [Gq (by omega),Nat.mul_zero,List.take_of_length_le (by omega),List.take_of_length_le (by omega)];rfl
theorem Rq (xs:List Nat)(x:Nat):val (xs++[x])=val xs+65536^xs.length*x:=by rw [val_append];simp [val]
theorem Mv {xs:List Nat}{x:Nat}(h:Small xs)(hx:x<65536):Small (xs++[x]):=by
 intro y hy;rcases List.mem_append.1 hy with h1 | h1
 ·exact h y h1
 ·have:y=x:=by simpa using h1
  omega
def adS (xs ys:List Nat):Nat→List Nat × Nat
 | 0=>([],0)
 | i+1=>((adS xs ys i).1++[((adS xs ys i).2+nth xs i+nth ys i)%65536],((adS xs ys i).2+nth xs i+nth ys i)/65536)
theorem Jk (xs ys:List Nat):∀ i,(adS xs ys i).1.length=i
 | 0=>rfl
 | i+1=>by rw [adS,List.length_append,Jk xs ys i];rfl
theorem Nn (xs ys:List Nat):∀ i,Small (adS xs ys i).1
 | 0=>fun x hx=>by cases hx
 | i+1=>Mv (Nn xs ys i) (Nat.mod_lt _ (by decide))
theorem Kg {xs ys:List Nat}(hx:Small xs)(hy:Small ys):∀ i,(adS xs ys i).2≤1
 | 0=>Nat.zero_le _
 | i + 1 => by
   have h1:=nth_lt hx i;have h2:=nth_lt hy i;have h3:=Kg hx hy i
   show ((adS xs ys i).2+nth xs i+nth ys i)/65536≤1
   omega
theorem S9 (xs ys:List Nat):∀ i,val (adS xs ys i).1+65536^i*(adS xs ys i).2=val (xs.take i)+val (ys.take i)
 | 0=>by simp [adS,val]
 | i + 1 => by
   have ih:=S9 xs ys i;rw [adS,Rq,Jk,C9,C9,Nat.pow_succ];simp only;generalize (adS xs ys i).2=c at *;generalize val (adS xs ys i).1=o at *;have hd:=Nat.mod_add_div (c+nth xs i+nth ys i) 65536;rw [Nat.mul_assoc,Nat.add_assoc,←Nat.mul_add,hd,Nat.mul_add,Nat.mul_add];omega
theorem Zg {xs ys:List Nat}{i:Nat}(h1:xs.length≤i)(h2:ys.length≤i)(h0:(adS xs ys i).2=0):val (adS xs ys i).1=val xs+val ys:=by
 have:=S9 xs ys i;rwa [h0,Nat.mul_zero,Nat.add_zero,List.take_of_length_le h1,List.take_of_length_le h2] at this
theorem Vw {xs ys:List Nat}(hx:Small xs)(hy:Small ys){i:Nat}(h1:xs.length≤i)(h2:ys.length≤i):(adS xs ys (i+1)).2=0:=by
 have:=Kg hx hy i
 show ((adS xs ys i).2+nth xs i+nth ys i)/65536=0
 rw [Gq h1,Gq h2];omega
def sbS (xs ys:List Nat):Nat→List Nat × Nat
 | 0=>([],0)
 | i + 1 => ((sbS xs ys i).1 ++ [if nth xs i < nth ys i + (sbS xs ys i).2 then nth xs i + 65536 - (nth ys i + (sbS xs ys i).2) else nth xs i - (nth ys i + (sbS xs ys i).2)],
     if nth xs i<nth ys i+(sbS xs ys i).2 then 1 else 0)
theorem H6 (xs ys:List Nat):∀ i,(sbS xs ys i).1.length=i
 | 0=>rfl
 | i+1=>by rw [sbS,List.length_append,H6 xs ys i];rfl
theorem Kt (xs ys:List Nat):∀ i,(sbS xs ys i).2≤1
 | 0=>Nat.zero_le _
 | i+1=>by rw [sbS];simp only;split<;>omega
theorem Ku {xs ys:List Nat}(hx:Small xs)(hy:Small ys):∀ i,Small (sbS xs ys i).1
 | 0=>fun x hx=>by cases hx
 | i + 1 => by
   refine Mv (Ku hx hy i) ?_;have h1:=nth_lt hx i;have h2:=nth_lt hy i;split<;>omega
theorem Ub {xs ys:List Nat}(hy:Small ys):∀ i,val (sbS xs ys i).1+val (ys.take i)=val (xs.take i)+65536^i*(sbS xs ys i).2
 | 0=>by simp [sbS,val]
 | i + 1 => by
   have ih:=Ub (xs:=xs) hy i;have hc:=Kt xs ys i;have h2:=nth_lt hy i;rw [sbS,Rq,H6,C9,C9,Nat.pow_succ];simp only;generalize (sbS xs ys i).2=c at *;generalize val (sbS xs ys i).1=o at *;generalize 65536^i=P at *;generalize nth xs i=x at *;generalize nth ys i=y at *;have key:∀ d k:Nat,d+(y+c)=x+65536*k→o+P*d+(val (ys.take i)+P*y)=val (xs.take i)+P*x+P*65536*k:=by
    intro d k hk;have h3:P*d+(P*y+P*c)=P*x+P*65536*k:=by rw [←Nat.mul_add,←Nat.mul_add,hk,Nat.mul_add,Nat.mul_assoc]
    omega
   split
   ·exact key _ 1 (by omega)
   ·have:=key (x-(y+c)) 0 (by omega);exact this
theorem Aaq {xs ys:List Nat}(hx:Small xs)(hy:Small ys)(hl:ys.length≤xs.length)(hv:val ys≤val xs):val (sbS xs ys xs.length).1=val xs-val ys:=by
 have h:=Ub (xs:=xs) hy xs.length;have hs:=val_lt _ (Ku hx hy xs.length);rw [H6] at hs;have hc:=Kt xs ys xs.length;rw [List.take_length,List.take_of_length_le hl] at h;have h0:(sbS xs ys xs.length).2=0:=by
  by_cases h1:(sbS xs ys xs.length).2=0
  ·exact h1
  ·have h1:(sbS xs ys xs.length).2=1:=by omega
   rw [h1] at h;omega
 rw [h0] at h;omega
end Go.Proofs.YtinbgjcooolbiaaGreatDoor.Dg
namespace Go.Proofs.YtinbgjcooolbiaaGreatDoor.Dg
def Mt (r:Nat):List Nat→List Nat
 | []=>[]
 | x::xs=>(x+65536*nth xs 0)/2^r%65536::Mt r xs
theorem Le (r:Nat):∀ xs,(Mt r xs).length=xs.length
 | []=>rfl
 | x::xs=>by rw [Mt,List.length_cons,List.length_cons,Le r xs]
theorem Mu (r:Nat):∀ xs,Small (Mt r xs)
 | []=>fun x hx=>by cases hx
 | x :: xs => fun y hy => by
   rcases List.mem_cons.1 hy with rfl | h
   ·exact Nat.mod_lt _ (by decide)
   ·exact Mu r xs y h
theorem Rg (r:Nat):∀ (xs:List Nat) (j:Nat),j<xs.length→nth (Mt r xs) j=(nth xs j+65536*nth xs (j+1))/2^r%65536
 | [],j,h=>absurd h (Nat.not_lt_zero _)
 | x::xs,0,_=>rfl
 | x :: xs, j + 1, h => by
   rw [Mt,Bs,Bs,Bs];exact Rg r xs j (by simpa using h)
theorem Vf:∀ xs:List Nat,∃ W,val xs=nth xs 0+65536*W
 | []=>⟨0,rfl⟩
 | _::xs=>⟨val xs,rfl⟩
theorem Rh {r:Nat}(hr:r<16):∀ {xs:List Nat},Small xs→val (Mt r xs)=val xs/2^r
 | [],_=>by simp [Mt,val]
 | x :: xs, h => by
   have ih:=Rh hr (xs:=xs) (fun y hy=>h y (List.mem_cons_of_mem _ hy));have hx:=h x (List.mem_cons_self ..);rw [Mt,val,ih,val];obtain ⟨W,hW⟩:=Vf xs;have e16:(65536:Nat)=2^r*2^(16-r):=by rw [←Nat.pow_add,show r+(16-r)=16 by omega]
   have hp:0<2^r:=Nat.pow_pos (by decide);have e1:(x+65536*val xs)/2^r=(x+65536*nth xs 0)/2^r+65536*(2^(16-r)*W):=by
    have:x+65536*val xs=(x+65536*nth xs 0)+2^r*(65536*(2^(16-r)*W)):=by
     rw [hW,Nat.mul_add,←Nat.add_assoc]
     congr 1
     calc 65536*(65536*W)=(2^r*2^(16-r))*(65536*W):=by rw [←e16]
      _=2^r*(65536*(2^(16-r)*W)):=by rw [Nat.mul_assoc,Nat.mul_left_comm (2^(16-r))]
    rw [this,Nat.add_mul_div_left _ _ hp]
   have e2:(x+65536*val xs)/2^r/65536=val xs/2^r:=by
    rw [Nat.div_div_eq_div_mul,Nat.mul_comm (2^r) 65536,←Nat.div_div_eq_div_mul]
    congr 1
    omega
   rw [←e2];have e3:(x+65536*nth xs 0)/2^r%65536=(x+65536*val xs)/2^r%65536:=by
    rw [e1,Nat.add_mul_mod_self_left]
   rw [e3];exact Nat.mod_add_div _ _
theorem Hh:∀ (xs:List Nat) (q:Nat),Small xs→val (xs.drop q)=val xs/65536^q
 | xs,0,_=>by simp
 | [],q+1,_=>by simp [val]
 | x :: xs, q + 1, h => by
   have ih:=Hh xs q (fun y hy=>h y (List.mem_cons_of_mem _ hy));have hx:=h x (List.mem_cons_self ..);rw [List.drop_succ_cons,ih,val,Nat.pow_succ,Nat.mul_comm (65536^q) 65536,←Nat.div_div_eq_div_mul]
   congr 1
   omega
theorem Ri {xs:List Nat}(h:Small xs)(k:Nat):Small (xs.drop k):=fun x hx=>h x (List.mem_of_mem_drop hx)
theorem Aav {xs:List Nat}(h:Small xs)(n:Nat):val (Mt (n%16) (xs.drop (n/16)))=val xs/2^n:=by
 rw [Rh (Nat.mod_lt _ (by decide)) (Ri h _),Hh _ _ h,Nat.div_div_eq_div_mul]
 congr 1
 rw [show (65536:Nat)=2^16 from rfl,←Nat.pow_mul,←Nat.pow_add]
 congr 1
 omega
theorem Ux (xs:List Nat)(q j:Nat):nth (xs.drop q) j=nth xs (q+j):=by
 unfold nth;rw [List.getD_eq_getElem?_getD,List.getD_eq_getElem?_getD,List.getElem?_drop]
end Go.Proofs.YtinbgjcooolbiaaGreatDoor.Dg
namespace Go.Proofs.YtinbgjcooolbiaaGreatDoor.Dg
open Go.Proofs.YtinbgjcooolbiaaGreatDoor renaming val→val64,Small→Small64,limbs→limbs64
structure Rt (L:List Nat) (xs:List Nat) (i:Nat):Prop where
 small:Small64 L
 len:L.length=(i+3)/4
 val:val64 L=val (xs.take i)
 room:i%4≠0→nth L (i/4)<2^(16*(i%4))
theorem X6 (k:Nat):(18446744073709551616:Nat)^k=2^(64*k):=by rw [Nat.pow_mul]
theorem pow16 (k:Nat):(65536:Nat)^k=2^(16*k):=by rw [Nat.pow_mul]
theorem Adi (xs:List Nat):Rt [] xs 0:=⟨(fun x hx=>by cases hx),rfl,rfl,fun h=>absurd rfl h⟩
theorem W5 {L xs:List Nat}{i:Nat}(h:Rt L xs i)(hx:nth xs i<65536)(h4:i%4≠0):Rt (L.set (i/4) (nth L (i/4)+nth xs i*2^(16*(i%4)))) xs (i+1):=by
 have hr:=h.room h4;have hlen:=h.len;have hi:i/4<L.length:=by omega
 have hb:nth L (i/4)+nth xs i*2^(16*(i%4))<2^(16*(i%4+1)):=by
  rw [Nat.mul_add,Nat.pow_add,show (2:Nat)^(16*1)=65536 from rfl];have:(nth xs i+1)*2^(16*(i%4))≤65536*2^(16*(i%4)):=Nat.mul_le_mul_right _ hx;rw [Nat.add_mul,Nat.one_mul] at this;rw [Nat.mul_comm (2^_) 65536];omega
 have hb64:nth L (i/4)+nth xs i*2^(16*(i%4))<18446744073709551616:=by
  refine Nat.lt_of_lt_of_le hb ?_;rw [show (18446744073709551616:Nat)=2^64 from rfl];exact Nat.pow_le_pow_right (by decide) (by omega)
 refine ⟨?_,by rw [List.length_set,hlen];omega,?_,?_⟩
 ·intro y hy;rcases List.mem_or_eq_of_mem_set hy with h1 | h1
  ·exact h.small y h1
  ·omega
 ·have hs:=Go.Proofs.YtinbgjcooolbiaaGreatDoor.val_set L (i/4) (nth L (i/4)+nth xs i*2^(16*(i%4))) hi;rw [h.val,Nat.mul_add] at hs;rw [C9,pow16];have e:18446744073709551616^(i/4)*(nth xs i*2^(16*(i%4)))=2^(16*i)*nth xs i:=by
   rw [X6,Nat.mul_left_comm,←Nat.pow_add,Nat.mul_comm]
   congr 2
   omega
  rw [e] at hs;omega
 ·intro h5;have h6:(i+1)/4=i/4:=by omega
  have h7:(i+1)%4=i%4+1:=by omega
  rw [h6,h7,Go.Proofs.YtinbgjcooolbiaaGreatDoor.nth_set L _ _ _ hi,if_pos rfl];exact hb
theorem W4 {L xs:List Nat}{i:Nat}(h:Rt L xs i)(hx:nth xs i<65536)(h4:i%4=0):Rt ((L++[0]).set (i/4) (nth xs i)) xs (i+1):=by
 have hlen:=h.len;have hi:i/4=L.length:=by omega
 have hi2:i/4<(L++[0]).length:=by rw [List.length_append,hi];exact Nat.lt_succ_self _
 refine ⟨?_,by rw [List.length_set,List.length_append,hlen];show (i+3)/4+1=_;omega,?_,?_⟩
 ·intro y hy;rcases List.mem_or_eq_of_mem_set hy with h1 | h1
  ·rcases List.mem_append.1 h1 with h2 | h2
   ·exact h.small y h2
   ·have:y=0:=by simpa using h2
    omega
  ·omega
 ·have hs:=Go.Proofs.YtinbgjcooolbiaaGreatDoor.val_set (L++[0]) (i/4) (nth xs i) hi2;have e0:val64 (L++[0])=val64 L:=by rw [Go.Proofs.YtinbgjcooolbiaaGreatDoor.val_append];simp [Go.Proofs.YtinbgjcooolbiaaGreatDoor.val]
  have e1:nth (L++[0]) (i/4)=0:=by rw [hi];simp [nth]
  rw [e0,e1,h.val,Nat.mul_zero,Nat.add_zero] at hs;rw [C9,pow16,hs,X6,show 64*(i/4)=16*i by omega]
 ·intro _;have h6:(i+1)/4=i/4:=by omega
  have h7:(i+1)%4=1:=by omega
  rw [h6,h7,Go.Proofs.YtinbgjcooolbiaaGreatDoor.nth_set _ _ _ _ hi2,if_pos rfl];exact hx
theorem W3 {L:List Nat}{n:Nat}(h:Rt L (limbs n) (limbs n).length):L=limbs64 n:=by
 have hv:=h.val;rw [List.take_length,val_limbs] at hv;have ht:=Go.Proofs.YtinbgjcooolbiaaGreatDoor.take_tl L h.small;rw [hv] at ht;have hl:Go.Proofs.YtinbgjcooolbiaaGreatDoor.tl L=L.length:=by
  by_cases h0:Go.Proofs.YtinbgjcooolbiaaGreatDoor.tl L<L.length
  ·exfalso;have h1:val64 L<18446744073709551616^(Go.Proofs.YtinbgjcooolbiaaGreatDoor.tl L):=by
    have h2:=Go.Proofs.YtinbgjcooolbiaaGreatDoor.val_lt (L.take (Go.Proofs.YtinbgjcooolbiaaGreatDoor.tl L)) (Go.Proofs.YtinbgjcooolbiaaGreatDoor.small_take h.small _);rw [ht,Go.Proofs.YtinbgjcooolbiaaGreatDoor.val_limbs] at h2;rw [hv];refine Nat.lt_of_lt_of_le h2 (Nat.pow_le_pow_right (by decide) ?_);rw [←ht,List.length_take];omega
   have hn0:n≠0:=by
    rintro rfl;have h8:=h.len;rw [limbs_zero] at h8;have h9:L.length=0:=h8;omega
   have h3:=Dp n hn0;rw [hv,X6] at h1;rw [pow16] at h3;have hlen:=h.len;have:2^(64*Go.Proofs.YtinbgjcooolbiaaGreatDoor.tl L)≤2^(16*((limbs n).length-1)):=Nat.pow_le_pow_right (by decide) (by omega);omega
  ·have:=Go.Proofs.YtinbgjcooolbiaaGreatDoor.tl_le L;omega
 rw [hl,List.take_length] at ht;exact ht
end Go.Proofs.YtinbgjcooolbiaaGreatDoor.Dg
namespace Go.Proofs.YtinbgjcooolbiaaGreatDoor.Dg
theorem val_set:∀ (xs:List Nat) (j y:Nat),j<xs.length→val (xs.set j y)+65536^j*nth xs j=val xs+65536^j*y
 | [],j,y,h=>absurd h (Nat.not_lt_zero _)
 | x :: xs, 0, y, _ => by
   show y+65536*val xs+65536^0*x=x+65536*val xs+65536^0*y
   omega
 | x :: xs, j + 1, y, h => by
   have ih:=val_set xs j y (by simpa using h)
   show x+65536*val (xs.set j y)+65536^(j+1)*nth xs j=x+65536*val xs+65536^(j+1)*y
   rw [Nat.pow_succ,Nat.mul_comm (65536^j) 65536,Nat.mul_assoc,Nat.mul_assoc];omega
theorem Bt {xs:List Nat}(h:Small xs)(j:Nat){y:Nat}(hy:y<65536):Small (xs.set j y):=by
 intro x hx;rcases List.mem_or_eq_of_mem_set hx with h1 | h1
 ·exact h x h1
 ·omega
theorem Rr (n:Nat):val (List.replicate n 0)=0:=by
 induction n with
 | zero=>rfl
 | succ n ih=>rw [List.replicate_succ,val,ih]
theorem Mw (n:Nat):Small (List.replicate n 0):=fun x hx=>by rw [(List.mem_replicate.1 hx).2];decide
def mlS (out:List Nat) (i x:Nat) (ys:List Nat):Nat→List Nat × Nat
 | 0=>(out,0)
 | k+1=>((mlS out i x ys k).1.set (i+k) ((x*nth ys k+nth (mlS out i x ys k).1 (i+k)+(mlS out i x ys k).2)%65536),(x*nth ys k+nth (mlS out i x ys k).1 (i+k)+(mlS out i x ys k).2)/65536)
theorem Jp (out:List Nat)(i x:Nat)(ys:List Nat):∀ k,(mlS out i x ys k).1.length=out.length
 | 0=>rfl
 | k+1=>by rw [mlS,List.length_set,Jp out i x ys k]
theorem Km {out:List Nat}(h:Small out)(i x:Nat)(ys:List Nat):∀ k,Small (mlS out i x ys k).1
 | 0=>h
 | k+1=>Bt (Km h i x ys k) _ (Nat.mod_lt _ (by decide))
theorem Oa {x y z c:Nat}(hx:x<65536)(hy:y<65536)(hz:z<65536)(hc:c≤65536):x*y+z≤4294901760∧(x*y+z+c)/65536≤65536:=by
 have h:x*y≤65535*65535:=Nat.mul_le_mul (by omega) (by omega);omega
theorem Nz {out:List Nat}(h:Small out)(i:Nat){x:Nat}(hx:x<65536){ys:List Nat}(hy:Small ys):∀ k,(mlS out i x ys k).2≤65536
 | 0=>Nat.zero_le _
 | k+1=>(Oa hx (nth_lt hy k) (nth_lt (Km h i x ys k) (i+k)) (Nz h i hx hy k)).2
theorem Ts (out:List Nat)(i x:Nat)(ys:List Nat)(hl:i+ys.length≤out.length):∀ k,k≤ys.length→val (mlS out i x ys k).1+65536^(i+k)*(mlS out i x ys k).2=val out+65536^i*(x*val (ys.take k))
 | 0,_=>by simp [mlS,val]
 | k + 1, hk => by
   have ih:=Ts out i x ys hl k (by omega);have hs:=val_set (mlS out i x ys k).1 (i+k) ((x*nth ys k+nth (mlS out i x ys k).1 (i+k)+(mlS out i x ys k).2)%65536) (by rw [Jp];omega);rw [mlS,C9,←Nat.add_assoc i k 1,Nat.pow_succ];simp only;generalize (mlS out i x ys k).2=c at *;generalize nth (mlS out i x ys k).1 (i+k)=z at *;generalize val (mlS out i x ys k).1=o at *;have hd:=Nat.mod_add_div (x*nth ys k+z+c) 65536;generalize (x*nth ys k+z+c)%65536=d at *;generalize (x*nth ys k+z+c)/65536=q at *;generalize val ((mlS out i x ys k).1.set (i+k) d)=o' at *;have e1:65536^(i+k)*65536*q+65536^(i+k)*d=65536^(i+k)*(x*nth ys k)+65536^(i+k)*z+65536^(i+k)*c:=by
    rw [Nat.mul_assoc,←Nat.mul_add,Nat.add_comm (65536*q) d,hd,Nat.mul_add,Nat.mul_add]
   have e2:65536^i*(x*(val (ys.take k)+65536^k*nth ys k))=65536^i*(x*val (ys.take k))+65536^(i+k)*(x*nth ys k):=by
    rw [Nat.mul_add,Nat.mul_add,Nat.pow_add];have:65536^i*(x*(65536^k*nth ys k))=65536^i*65536^k*(x*nth ys k):=by
     rw [Nat.mul_left_comm x,Nat.mul_assoc]
    rw [this]
   rw [e2];omega
def prS (out:List Nat) (c k:Nat):Nat→List Nat × Nat
 | 0=>(out,c)
 | j+1=>((prS out c k j).1.set (k+j) (((prS out c k j).2+nth (prS out c k j).1 (k+j))%65536),((prS out c k j).2+nth (prS out c k j).1 (k+j))/65536)
theorem Jq (out:List Nat)(c k:Nat):∀ j,(prS out c k j).1.length=out.length
 | 0=>rfl
 | j+1=>by rw [prS,List.length_set,Jq out c k j]
theorem Ko {out:List Nat}(h:Small out)(c k:Nat):∀ j,Small (prS out c k j).1
 | 0=>h
 | j+1=>Bt (Ko h c k j) _ (Nat.mod_lt _ (by decide))
theorem N7 {out:List Nat}(h:Small out){c:Nat}(hc:c≤65536)(k:Nat):∀ j,(prS out c k j).2≤65536
 | 0=>hc
 | j + 1 => by
   have h1:=N7 h hc k j;have h2:=nth_lt (Ko h c k j) (k+j)
   show ((prS out c k j).2+nth (prS out c k j).1 (k+j))/65536≤65536
   omega
theorem Pe (out:List Nat)(c k:Nat):∀ j,k+j≤out.length→val (prS out c k j).1+65536^(k+j)*(prS out c k j).2=val out+65536^k*c
 | 0,_=>rfl
 | j + 1, hj => by
   have ih:=Pe out c k j (by omega);have hs:=val_set (prS out c k j).1 (k+j) (((prS out c k j).2+nth (prS out c k j).1 (k+j))%65536) (by rw [Jq];omega);rw [prS,←Nat.add_assoc k j 1,Nat.pow_succ];simp only;generalize (prS out c k j).2=q at *;generalize nth (prS out c k j).1 (k+j)=z at *;have hd:=Nat.mod_add_div (q+z) 65536;generalize (q+z)%65536=d at *;generalize (q+z)/65536=t at *;have e1:65536^(k+j)*65536*t+65536^(k+j)*d=65536^(k+j)*q+65536^(k+j)*z:=by
    rw [Nat.mul_assoc,←Nat.mul_add,Nat.add_comm (65536*t) d,hd,Nat.mul_add]
   omega
theorem Ya {out:List Nat}{c k:Nat}{j:Nat}(hj:k+j≤out.length)(hb:val out+65536^k*c<65536^out.length)(h0:(prS out c k j).2≠0):k+j<out.length:=by
 have h:=Pe out c k j hj;by_cases hlt:k+j<out.length
 ·exact hlt
 ·have e:k+j=out.length:=by omega
  rw [e] at h;have:65536^out.length*1≤65536^out.length*(prS out c k j).2:=Nat.mul_le_mul_left _ (by omega);omega
end Go.Proofs.YtinbgjcooolbiaaGreatDoor.Dg
