/- Words and contracts, part 7. -/
import Derived.Test.YtinbgjcooolbiaaGreatDoorClaimAsksp05
import Derived.Test.YtinbgjcooolbiaaGreatDoorClaimAsksp06
set_option maxRecDepth 100000
set_option maxHeartbeats 0
namespace Go.Proofs.YtinbgjcooolbiaaGreatDoor.Dg
def val:List Nat→Nat
 | []=>0
 | x::xs=>x+65536*val xs
def Small (xs:List Nat):Prop:=∀ x∈xs,x<65536
def limbs (n:Nat):List Nat:=if _h:n=0 then [] else (n%65536)::limbs (n/65536)
termination_by n
decreasing_by exact Nat.div_lt_self (by omega) (by decide)
theorem limbs_zero:limbs 0=[]:=by rw [limbs];simp
theorem A0 (n:Nat)(h:n≠0):limbs n=(n%65536)::limbs (n/65536):=by rw [limbs];simp [h]
theorem val_limbs (n:Nat):val (limbs n)=n:=by
 induction n using Nat.strongRecOn with
 | _ n ih =>
   by_cases h:n=0
   ·subst h;rw [limbs_zero];rfl
   ·rw [A0 n h,val,ih (n/65536) (Nat.div_lt_self (by omega) (by decide))];exact Nat.mod_add_div n 65536
theorem Ck (n:Nat):Small (limbs n):=by
 induction n using Nat.strongRecOn with
 | _ n ih =>
   by_cases h:n=0
   ·subst h;rw [limbs_zero];intro x hx;cases hx
   ·rw [A0 n h];intro x hx;rcases List.mem_cons.1 hx with rfl | hx
    ·exact Nat.mod_lt _ (by decide)
    ·exact ih (n/65536) (Nat.div_lt_self (by omega) (by decide)) x hx
def Cr (xs:List Nat):Nat→Nat
 | 0=>0
 | k+1=>if nth xs k=0 then Cr xs k else k+1
def tl (xs:List Nat):Nat:=Cr xs xs.length
theorem Iu (xs:List Nat):∀ k,Cr xs k≤k
 | 0=>Nat.le_refl _
 | k + 1 => by
   unfold Cr;split
   ·exact Nat.le_succ_of_le (Iu xs k)
   ·exact Nat.le_refl _
theorem tl_le (xs:List Nat):tl xs≤xs.length:=Iu xs _
theorem nth_lt {xs:List Nat}(h:Small xs)(i:Nat):nth xs i<65536:=by
 unfold nth;by_cases hi:i<xs.length
 ·rw [List.getD_eq_getElem?_getD,List.getElem?_eq_getElem hi];exact h _ (List.getElem_mem hi)
 ·rw [List.getD_eq_getElem?_getD,List.getElem?_eq_none (by omega)];decide
theorem Gi (x:Nat)(xs:List Nat):∀ k,Cr (x::xs) (k+1)=if Cr xs k=0 then (if x=0 then 0 else 1) else Cr xs k+1
 | 0=>by simp [Cr,nth]
 | k + 1 => by
   rw [Cr,B9,Gi x xs k,Cr];by_cases h:nth xs k=0
   ·simp [h]
   ·simp [h]
theorem take_tl (xs:List Nat)(h:Small xs):xs.take (tl xs)=limbs (val xs):=by
 induction xs with
 | nil=>simp [tl,Cr,val,limbs_zero]
 | cons x xs ih =>
   have hx:x<65536:=h x (List.mem_cons_self);have hs:Small xs:=fun y hy=>h y (List.mem_cons_of_mem _ hy)
   have ih':=ih hs;have ht:tl (x::xs)=if tl xs=0 then (if x=0 then 0 else 1) else tl xs+1:=Gi x xs xs.length
   have hv:tl xs=0↔val xs=0:=by
    constructor
    ·intro h0;rw [h0] at ih';have:=val_limbs (val xs);rw [←ih'] at this;simpa [val] using this.symm
    ·intro h0;rw [h0,limbs_zero] at ih';have h1:=congrArg List.length ih';have h2:=tl_le xs;rw [List.length_take,List.length_nil] at h1;omega
   by_cases h0:val xs=0
   ·rw [ht,if_pos (hv.2 h0)];by_cases hx0:x=0
    ·simp [hx0,val,h0,limbs_zero]
    ·rw [if_neg hx0,val,h0];have e1:(x+65536*0)%65536=x:=by omega
     have e2:(x+65536*0)/65536=0:=by omega
     rw [A0 _ (by omega),e1,e2,limbs_zero];simp
   ·rw [ht,if_neg (fun h=>h0 (hv.1 h)),List.take_succ_cons,ih',val];rw [A0 (x+65536*val xs) (by omega)];have e1:(x+65536*val xs)%65536=x:=by omega
    have e2:(x+65536*val xs)/65536=val xs:=by omega
    rw [e1,e2]
theorem length_limbs (n : Nat) : (limbs n).length = if n = 0 then 0 else Nat.log2 n / 16 + 1 := by
 induction n using Nat.strongRecOn with
 | _ n ih =>
   by_cases h:n=0
   ·subst h;simp [limbs_zero]
   ·rw [A0        n h, List.length_cons, ih (n / 65536) (Nat.div_lt_self (by omega) (by decide)), if_neg h];by_cases h1:n/65536=0
    ·rw [if_pos h1];have:Nat.log2 n<16:=(Nat.log2_lt h).2 (by omega);omega
    ·rw [if_neg h1];have key:Nat.log2 n=Nat.log2 (n/65536)+16:=by
      have a1:=Nat.log2_self_le h1;have a2:=Nat.lt_log2_self (n:=n/65536);have b1:2^(Nat.log2 (n/65536)+16)≤n:=by
       rw [Nat.pow_add]
       calc 2^Nat.log2 (n/65536)*2^16≤(n/65536)*2^16:=Nat.mul_le_mul_right _ a1
        _≤n:=Nat.div_mul_le_self n 65536
      have b2:n<2^(Nat.log2 (n/65536)+16+1):=by
       have:n<(n/65536+1)*65536:=by
        have:=Nat.lt_mul_div_succ n (show 0<65536 by decide);rw [Nat.mul_comm] at this;exact this
       calc n<(n/65536+1)*65536:=this
        _≤2^(Nat.log2 (n/65536)+1)*65536:=Nat.mul_le_mul_right _ a2
        _=2^(Nat.log2 (n/65536)+16+1):=by rw [show Nat.log2 (n/65536)+16+1=(Nat.log2 (n/65536)+1)+16 by omega,Nat.pow_add _ _ 16]
      have c1:=(Nat.le_log2 h).2 b1;have c2:=(Nat.log2_lt h).2 b2;omega
     rw [key];omega
def Dq (xs ys:List Nat):Nat→Int
 | 0=>0
 | k+1=>if nth xs k=nth ys k then Dq xs ys k else if nth xs k<nth ys k then -1 else 1
theorem val_append (xs ys:List Nat):val (xs++ys)=val xs+65536^xs.length*val ys:=by
 induction xs with
 | nil=>simp [val]
 | cons x xs ih =>
   rw [List.cons_append,val,ih,val,List.length_cons,Nat.pow_succ];generalize 65536^xs.length=p;rw [Nat.mul_add,Nat.add_assoc]
   congr 2
   rw [←Nat.mul_assoc,Nat.mul_comm p]
theorem val_lt (xs:List Nat)(h:Small xs):val xs<65536^xs.length:=by
 induction xs with
 | nil=>simp [val]
 | cons x xs ih =>
   have hx:x<65536:=h x (List.mem_cons_self);have:=ih (fun y hy=>h y (List.mem_cons_of_mem _ hy));rw [val,List.length_cons,Nat.pow_succ];generalize 65536^xs.length=p at *;omega
theorem small_take {xs:List Nat}(h:Small xs)(k:Nat):Small (xs.take k):=fun x hx=>h x (List.mem_of_mem_take hx)
theorem Gh {xs:List Nat}(h:Small xs)(k:Nat):Small (xs.drop k):=fun x hx=>h x (List.mem_of_mem_drop hx)
theorem Bd (xs:List Nat)(k:Nat)(h:k<xs.length):val (xs.take (k+1))=val (xs.take k)+65536^k*nth xs k:=by
 rw [Fh xs k h,val_append,List.length_take,Nat.min_eq_left (by omega)];simp [val]
theorem F9 (xs ys:List Nat)(hx:Small xs)(hy:Small ys):∀ k,k≤xs.length→k≤ys.length→Dq xs ys k=Bw (val (xs.take k)) (val (ys.take k))
 | 0,_,_=>by simp [Dq,Bw]
 | k + 1, h1, h2 => by
   have ih:=F9 xs ys hx hy k (by omega) (by omega);rw [Dq,Bd xs k (by omega),Bd ys k (by omega),ih];have a:=val_lt _ (small_take hx k);have b:=val_lt _ (small_take hy k);rw [List.length_take,Nat.min_eq_left (by omega)] at a b;generalize 65536^k=p at *;generalize val (xs.take k)=u at *;generalize val (ys.take k)=v at *;generalize nth xs k=x;generalize nth ys k=y;by_cases e:x=y
   ·subst e;rw [if_pos rfl];unfold Bw;simp only [Nat.add_lt_add_iff_right,Nat.add_right_cancel_iff]
   ·rw [if_neg e];by_cases l:x<y
    ·rw [if_pos l];have:p*(x+1)≤p*y:=Nat.mul_le_mul_left _ l;rw [Nat.mul_add] at this;unfold Bw;rw [if_pos (by omega)]
    ·rw [if_neg l];have:p*(y+1)≤p*x:=Nat.mul_le_mul_left _ (by omega);rw [Nat.mul_add] at this;unfold Bw;rw [if_neg (by omega),if_neg (by omega)]
theorem lt_pow_length (n:Nat):n<65536^(limbs n).length:=by
 have:=val_lt _ (Ck n);rwa [val_limbs] at this
theorem Dw (n:Nat)(h:n≠0):65536^((limbs n).length-1)≤n:=by
 induction n using Nat.strongRecOn with
 | _ n ih =>
   rw [A0 n h,List.length_cons,Nat.add_sub_cancel];by_cases h1:n/65536=0
   ·rw [h1,limbs_zero];simp;omega
   ·have:=ih _ (Nat.div_lt_self (by omega) (by decide)) h1;have hl:0<(limbs (n/65536)).length:=by rw [A0 _ h1];simp
    obtain ⟨l,hl⟩:∃ l,(limbs (n/65536)).length=l+1:=⟨_,(Nat.succ_pred_eq_of_pos hl).symm⟩;rw [hl] at this ⊢;rw [Nat.add_sub_cancel] at this;rw [Nat.pow_succ];generalize 65536^l=p at *;omega
theorem Dc (n m:Nat)(h:(limbs n).length<(limbs m).length):n<m:=by
 have a:=lt_pow_length n;have hm:m≠0:=by rintro rfl;rw [limbs_zero] at h;simp at h
 have b:=Dw m hm;have c:65536^(limbs n).length≤65536^((limbs m).length-1):=Nat.pow_le_pow_right (by decide) (by omega);omega
theorem Hs (n m:Nat)(h:(limbs n).length=(limbs m).length):Dq (limbs n) (limbs m) (limbs n).length=Bw n m:=by
 rw [F9 _ _ (Ck n) (Ck m) _ (Nat.le_refl _) (by omega),List.take_of_length_le (Nat.le_refl _),List.take_of_length_le (by omega),val_limbs,val_limbs]
theorem Gd (n:Nat)(h:n≠0):nth (limbs n) ((limbs n).length-1)≠0:=by
 induction n using Nat.strongRecOn with
 | _ n ih =>
   rw [A0 n h,List.length_cons,Nat.add_sub_cancel];by_cases h1:n/65536=0
   ·rw [h1,limbs_zero];simp [nth];omega
   ·have hl:0<(limbs (n/65536)).length:=by rw [A0 _ h1];simp
    have:=ih _ (Nat.div_lt_self (by omega) (by decide)) h1;obtain ⟨l,hl⟩:∃ l,(limbs (n/65536)).length=l+1:=⟨_,(Nat.succ_pred_eq_of_pos hl).symm⟩;rw [hl] at this ⊢;rw [B9];exact this
theorem length_limbs_pos (n:Nat)(h:n≠0):0<(limbs n).length:=by rw [A0 n h];simp
theorem Mh     (n : Nat) (h : n ≠ 0) : bl n = 16 * ((limbs n).length - 1) + bl (nth (limbs n) ((limbs n).length - 1)) := by
 induction n using Nat.strongRecOn with
 | _ n ih =>
   rw [A0 n h,List.length_cons,Nat.add_sub_cancel];by_cases h1:n/65536=0
   ·rw [h1,limbs_zero];have:n%65536=n:=by omega
    simp [nth,this]
   ·have hl:0<(limbs (n/65536)).length:=by rw [A0 _ h1];simp
    have IH:=ih _ (Nat.div_lt_self (by omega) (by decide)) h1;obtain ⟨l,hl⟩:∃ l,(limbs (n/65536)).length=l+1:=⟨_,(Nat.succ_pred_eq_of_pos hl).symm⟩;rw [hl,Nat.add_sub_cancel] at IH;rw [hl,B9];have key:bl n=bl (n/65536)+16:=by
     obtain ⟨q,hq⟩:∃ q,bl (n/65536)=q+1:=⟨bl (n/65536)-1,by have:=Gz _ h1;omega⟩;have a:=Dk _ h1;have b:=Bg (n/65536);rw [hq] at a b ⊢;rw [Nat.add_sub_cancel] at a
     have := P8    n (q + 16) (by rw [Nat.pow_add]; have : (2:Nat) ^ 16 = 65536 := by decide
                                  rw [this]; omega) (by rw [show q + 16 + 1 = (q + 1) + 16 by omega, Nat.pow_add]; have : (2:Nat) ^ 16 = 65536 := by decide
                                                        rw [this];omega)
     omega
    omega
end Go.Proofs.YtinbgjcooolbiaaGreatDoor.Dg
namespace Go.Proofs.YtinbgjcooolbiaaGreatDoor.Dg
theorem Gs {xs:List Nat}{i:Nat}(h:xs.length≤i):nth xs i=0:=by
 unfold nth;rw [List.getD_eq_getElem?_getD,List.getElem?_eq_none h];rfl
theorem De (xs:List Nat)(i:Nat):val (xs.take (i+1))=val (xs.take i)+65536^i*nth xs i:=by
 by_cases h:i<xs.length
 ·exact Bd xs i h
 ·rw [Gs (by omega),Nat.mul_zero,List.take_of_length_le (by omega),List.take_of_length_le (by omega)];rfl
theorem Rw (xs:List Nat)(x:Nat):val (xs++[x])=val xs+65536^xs.length*x:=by rw [val_append];simp [val]
theorem Nf {xs:List Nat}{x:Nat}(h:Small xs)(hx:x<65536):Small (xs++[x]):=by
 intro y hy;rcases List.mem_append.1 hy with h1 | h1
 ·exact h y h1
 ·have:y=x:=by simpa using h1
  omega
def adS (xs ys:List Nat):Nat→List Nat × Nat
 | 0=>([],0)
 | i+1=>((adS xs ys i).1++[((adS xs ys i).2+nth xs i+nth ys i)%65536],((adS xs ys i).2+nth xs i+nth ys i)/65536)
theorem Jp (xs ys:List Nat):∀ i,(adS xs ys i).1.length=i
 | 0=>rfl
 | i+1=>by rw [adS,List.length_append,Jp xs ys i];rfl
theorem N0 (xs ys:List Nat):∀ i,Small (adS xs ys i).1
 | 0=>fun x hx=>by cases hx
 | i+1=>Nf (N0 xs ys i) (Nat.mod_lt _ (by decide))
theorem Ks {xs ys:List Nat}(hx:Small xs)(hy:Small ys):∀ i,(adS xs ys i).2≤1
 | 0=>Nat.zero_le _
 | i + 1 => by
   have h1:=nth_lt hx i;have h2:=nth_lt hy i;have h3:=Ks hx hy i
   show ((adS xs ys i).2+nth xs i+nth ys i)/65536≤1
   omega
theorem Th (xs ys:List Nat):∀ i,val (adS xs ys i).1+65536^i*(adS xs ys i).2=val (xs.take i)+val (ys.take i)
 | 0=>by simp [adS,val]
 | i + 1 => by
   have ih:=Th xs ys i;rw [adS,Rw,Jp,De,De,Nat.pow_succ];simp only;generalize (adS xs ys i).2=c at *;generalize val (adS xs ys i).1=o at *;have hd:=Nat.mod_add_div (c+nth xs i+nth ys i) 65536;rw [Nat.mul_assoc,Nat.add_assoc,←Nat.mul_add,hd,Nat.mul_add,Nat.mul_add];omega
theorem Yz {xs ys:List Nat}{i:Nat}(h1:xs.length≤i)(h2:ys.length≤i)(h0:(adS xs ys i).2=0):val (adS xs ys i).1=val xs+val ys:=by
 have:=Th xs ys i;rwa [h0,Nat.mul_zero,Nat.add_zero,List.take_of_length_le h1,List.take_of_length_le h2] at this
theorem Vu {xs ys:List Nat}(hx:Small xs)(hy:Small ys){i:Nat}(h1:xs.length≤i)(h2:ys.length≤i):(adS xs ys (i+1)).2=0:=by
 have:=Ks hx hy i
 show ((adS xs ys i).2+nth xs i+nth ys i)/65536=0
 rw [Gs h1,Gs h2];omega
def sbS (xs ys:List Nat):Nat→List Nat × Nat
 | 0=>([],0)
 | i + 1 => ((sbS xs ys i).1 ++ [if nth xs i < nth ys i + (sbS xs ys i).2 then nth xs i + 65536 - (nth ys i + (sbS xs ys i).2) else nth xs i - (nth ys i + (sbS xs ys i).2)],
     if nth xs i<nth ys i+(sbS xs ys i).2 then 1 else 0)
theorem Ib (xs ys:List Nat):∀ i,(sbS xs ys i).1.length=i
 | 0=>rfl
 | i+1=>by rw [sbS,List.length_append,Ib xs ys i];rfl
theorem Lc (xs ys:List Nat):∀ i,(sbS xs ys i).2≤1
 | 0=>Nat.zero_le _
 | i+1=>by rw [sbS];simp only;split<;>omega
theorem Ld {xs ys:List Nat}(hx:Small xs)(hy:Small ys):∀ i,Small (sbS xs ys i).1
 | 0=>fun x hx=>by cases hx
 | i + 1 => by
   refine Nf (Ld hx hy i) ?_;have h1:=nth_lt hx i;have h2:=nth_lt hy i;split<;>omega
theorem Ua {xs ys:List Nat}(hy:Small ys):∀ i,val (sbS xs ys i).1+val (ys.take i)=val (xs.take i)+65536^i*(sbS xs ys i).2
 | 0=>by simp [sbS,val]
 | i + 1 => by
   have ih:=Ua (xs:=xs) hy i;have hc:=Lc xs ys i;have h2:=nth_lt hy i;rw [sbS,Rw,Ib,De,De,Nat.pow_succ];simp only;generalize (sbS xs ys i).2=c at *;generalize val (sbS xs ys i).1=o at *;generalize 65536^i=P at *;generalize nth xs i=x at *;generalize nth ys i=y at *;have key:∀ d k:Nat,d+(y+c)=x+65536*k→o+P*d+(val (ys.take i)+P*y)=val (xs.take i)+P*x+P*65536*k:=by
    intro d k hk;have h3:P*d+(P*y+P*c)=P*x+P*65536*k:=by rw [←Nat.mul_add,←Nat.mul_add,hk,Nat.mul_add,Nat.mul_assoc]
    omega
   split
   ·exact key _ 1 (by omega)
   ·have:=key (x-(y+c)) 0 (by omega);exact this
theorem Aal {xs ys:List Nat}(hx:Small xs)(hy:Small ys)(hl:ys.length≤xs.length)(hv:val ys≤val xs):val (sbS xs ys xs.length).1=val xs-val ys:=by
 have h:=Ua (xs:=xs) hy xs.length;have hs:=val_lt _ (Ld hx hy xs.length);rw [Ib] at hs;have hc:=Lc xs ys xs.length;rw [List.take_length,List.take_of_length_le hl] at h;have h0:(sbS xs ys xs.length).2=0:=by
  by_cases h1:(sbS xs ys xs.length).2=0
  ·exact h1
  ·have h1:(sbS xs ys xs.length).2=1:=by omega
   rw [h1] at h;omega
 rw [h0] at h;omega
end Go.Proofs.YtinbgjcooolbiaaGreatDoor.Dg
namespace Go.Proofs.YtinbgjcooolbiaaGreatDoor.Dg
def Nd (r:Nat):List Nat→List Nat
 | []=>[]
 | x::xs=>(x+65536*nth xs 0)/2^r%65536::Nd r xs
theorem Ls (r:Nat):∀ xs,(Nd r xs).length=xs.length
 | []=>rfl
 | x::xs=>by rw [Nd,List.length_cons,List.length_cons,Ls r xs]
theorem Ne (r:Nat):∀ xs,Small (Nd r xs)
 | []=>fun x hx=>by cases hx
 | x :: xs => fun y hy => by
   rcases List.mem_cons.1 hy with rfl | h
   ·exact Nat.mod_lt _ (by decide)
   ·exact Ne r xs y h
theorem Rl (r:Nat):∀ (xs:List Nat) (j:Nat),j<xs.length→nth (Nd r xs) j=(nth xs j+65536*nth xs (j+1))/2^r%65536
 | [],j,h=>absurd h (Nat.not_lt_zero _)
 | x::xs,0,_=>rfl
 | x :: xs, j + 1, h => by
   rw [Nd,B9,B9,B9];exact Rl r xs j (by simpa using h)
theorem Ve:∀ xs:List Nat,∃ W,val xs=nth xs 0+65536*W
 | []=>⟨0,rfl⟩
 | _::xs=>⟨val xs,rfl⟩
theorem Rm {r:Nat}(hr:r<16):∀ {xs:List Nat},Small xs→val (Nd r xs)=val xs/2^r
 | [],_=>by simp [Nd,val]
 | x :: xs, h => by
   have ih:=Rm hr (xs:=xs) (fun y hy=>h y (List.mem_cons_of_mem _ hy));have hx:=h x (List.mem_cons_self ..);rw [Nd,val,ih,val];obtain ⟨W,hW⟩:=Ve xs;have e16:(65536:Nat)=2^r*2^(16-r):=by rw [←Nat.pow_add,show r+(16-r)=16 by omega]
   have hp:0<2^r:=Nat.pow_pos (by decide);have e1:(x+65536*val xs)/2^r=(x+65536*nth xs 0)/2^r+65536*(2^(16-r)*W):=by
    have:x+65536*val xs=(x+65536*nth xs 0)+2^r*(65536*(2^(16-r)*W)):=by
     rw [hW,Nat.mul_add,←Nat.add_assoc]
     congr 1
     calc 65536*(65536*W)=(2^r*2^(16-r))*(65536*W):=by rw [←e16]
      _=2^r*(65536*(2^(16-r)*W)):=by rw [Nat.mul_assoc,Nat.mul_left_comm (2^(16-r))]
    rw [this,Nat.add_mul_div_left _ _ hp]
   have e2:(x+65536*val xs)/2^r/65536=val xs/2^r:=by
    rw [Nat.div_div_eq_div_mul,Nat.mul_comm (2^r) 65536,←Nat.div_div_eq_div_mul]
    congr 1
    omega
   rw [←e2];have e3:(x+65536*nth xs 0)/2^r%65536=(x+65536*val xs)/2^r%65536:=by
    rw [e1,Nat.add_mul_mod_self_left]
   rw [e3];exact Nat.mod_add_div _ _
theorem Hk:∀ (xs:List Nat) (q:Nat),Small xs→val (xs.drop q)=val xs/65536^q
 | xs,0,_=>by simp
 | [],q+1,_=>by simp [val]
 | x :: xs, q + 1, h => by
   have ih:=Hk xs q (fun y hy=>h y (List.mem_cons_of_mem _ hy));have hx:=h x (List.mem_cons_self ..);rw [List.drop_succ_cons,ih,val,Nat.pow_succ,Nat.mul_comm (65536^q) 65536,←Nat.div_div_eq_div_mul]
   congr 1
   omega
theorem Rn {xs:List Nat}(h:Small xs)(k:Nat):Small (xs.drop k):=fun x hx=>h x (List.mem_of_mem_drop hx)
theorem Aar {xs:List Nat}(h:Small xs)(n:Nat):val (Nd (n%16) (xs.drop (n/16)))=val xs/2^n:=by
 rw [Rm (Nat.mod_lt _ (by decide)) (Rn h _),Hk _ _ h,Nat.div_div_eq_div_mul]
 congr 1
 rw [show (65536:Nat)=2^16 from rfl,←Nat.pow_mul,←Nat.pow_add]
 congr 1
 omega
theorem U0 (xs:List Nat)(q j:Nat):nth (xs.drop q) j=nth xs (q+j):=by
 unfold nth;rw [List.getD_eq_getElem?_getD,List.getD_eq_getElem?_getD,List.getElem?_drop]
end Go.Proofs.YtinbgjcooolbiaaGreatDoor.Dg
namespace Go.Proofs.YtinbgjcooolbiaaGreatDoor.Dg
open Go.Proofs.YtinbgjcooolbiaaGreatDoor renaming val→val64,Small→Small64,limbs→limbs64
structure Rx (L:List Nat) (xs:List Nat) (i:Nat):Prop where
 small:Small64 L
 len:L.length=(i+3)/4
 val:val64 L=val (xs.take i)
 room:i%4≠0→nth L (i/4)<2^(16*(i%4))
theorem Xk (k:Nat):(18446744073709551616:Nat)^k=2^(64*k):=by rw [Nat.pow_mul]
theorem pow16 (k:Nat):(65536:Nat)^k=2^(16*k):=by rw [Nat.pow_mul]
theorem Adc (xs:List Nat):Rx [] xs 0:=⟨(fun x hx=>by cases hx),rfl,rfl,fun h=>absurd rfl h⟩
theorem Wu {L xs:List Nat}{i:Nat}(h:Rx L xs i)(hx:nth xs i<65536)(h4:i%4≠0):Rx (L.set (i/4) (nth L (i/4)+nth xs i*2^(16*(i%4)))) xs (i+1):=by
 have hr:=h.room h4;have hlen:=h.len;have hi:i/4<L.length:=by omega
 have hb:nth L (i/4)+nth xs i*2^(16*(i%4))<2^(16*(i%4+1)):=by
  rw [Nat.mul_add,Nat.pow_add,show (2:Nat)^(16*1)=65536 from rfl];have:(nth xs i+1)*2^(16*(i%4))≤65536*2^(16*(i%4)):=Nat.mul_le_mul_right _ hx;rw [Nat.add_mul,Nat.one_mul] at this;rw [Nat.mul_comm (2^_) 65536];omega
 have hb64:nth L (i/4)+nth xs i*2^(16*(i%4))<18446744073709551616:=by
  refine Nat.lt_of_lt_of_le hb ?_;rw [show (18446744073709551616:Nat)=2^64 from rfl];exact Nat.pow_le_pow_right (by decide) (by omega)
 refine ⟨?_,by rw [List.length_set,hlen];omega,?_,?_⟩
 ·intro y hy;rcases List.mem_or_eq_of_mem_set hy with h1 | h1
  ·exact h.small y h1
  ·omega
 ·have hs:=Go.Proofs.YtinbgjcooolbiaaGreatDoor.val_set L (i/4) (nth L (i/4)+nth xs i*2^(16*(i%4))) hi;rw [h.val,Nat.mul_add] at hs;rw [De,pow16];have e:18446744073709551616^(i/4)*(nth xs i*2^(16*(i%4)))=2^(16*i)*nth xs i:=by
   rw [Xk,Nat.mul_left_comm,←Nat.pow_add,Nat.mul_comm]
   congr 2
   omega
  rw [e] at hs;omega
 ·intro h5;have h6:(i+1)/4=i/4:=by omega
  have h7:(i+1)%4=i%4+1:=by omega
  rw [h6,h7,Go.Proofs.YtinbgjcooolbiaaGreatDoor.nth_set L _ _ _ hi,if_pos rfl];exact hb
theorem Wt {L xs:List Nat}{i:Nat}(h:Rx L xs i)(hx:nth xs i<65536)(h4:i%4=0):Rx ((L++[0]).set (i/4) (nth xs i)) xs (i+1):=by
 have hlen:=h.len;have hi:i/4=L.length:=by omega
 have hi2:i/4<(L++[0]).length:=by rw [List.length_append,hi];exact Nat.lt_succ_self _
 refine ⟨?_,by rw [List.length_set,List.length_append,hlen];show (i+3)/4+1=_;omega,?_,?_⟩
 ·intro y hy;rcases List.mem_or_eq_of_mem_set hy with h1 | h1
  ·rcases List.mem_append.1 h1 with h2 | h2
   ·exact h.small y h2
   ·have:y=0:=by simpa using h2
    omega
  ·omega
 ·have hs:=Go.Proofs.YtinbgjcooolbiaaGreatDoor.val_set (L++[0]) (i/4) (nth xs i) hi2;have e0:val64 (L++[0])=val64 L:=by rw [Go.Proofs.YtinbgjcooolbiaaGreatDoor.val_append];simp [Go.Proofs.YtinbgjcooolbiaaGreatDoor.val]
  have e1:nth (L++[0]) (i/4)=0:=by rw [hi];simp [nth]
  rw [e0,e1,h.val,Nat.mul_zero,Nat.add_zero] at hs;rw [De,pow16,hs,Xk,show 64*(i/4)=16*i by omega]
 ·intro _;have h6:(i+1)/4=i/4:=by omega
  have h7:(i+1)%4=1:=by omega
  rw [h6,h7,Go.Proofs.YtinbgjcooolbiaaGreatDoor.nth_set _ _ _ _ hi2,if_pos rfl];exact hx
theorem Ws {L:List Nat}{n:Nat}(h:Rx L (limbs n) (limbs n).length):L=limbs64 n:=by
 have hv:=h.val;rw [List.take_length,val_limbs] at hv;have ht:=Go.Proofs.YtinbgjcooolbiaaGreatDoor.take_tl L h.small;rw [hv] at ht;have hl:Go.Proofs.YtinbgjcooolbiaaGreatDoor.tl L=L.length:=by
  by_cases h0:Go.Proofs.YtinbgjcooolbiaaGreatDoor.tl L<L.length
  ·exfalso;have h1:val64 L<18446744073709551616^(Go.Proofs.YtinbgjcooolbiaaGreatDoor.tl L):=by
    have h2:=Go.Proofs.YtinbgjcooolbiaaGreatDoor.val_lt (L.take (Go.Proofs.YtinbgjcooolbiaaGreatDoor.tl L)) (Go.Proofs.YtinbgjcooolbiaaGreatDoor.small_take h.small _);rw [ht,Go.Proofs.YtinbgjcooolbiaaGreatDoor.val_limbs] at h2;rw [hv];refine Nat.lt_of_lt_of_le h2 (Nat.pow_le_pow_right (by decide) ?_);rw [←ht,List.length_take];omega
   have hn0:n≠0:=by
    rintro rfl;have h8:=h.len;rw [limbs_zero] at h8;have h9:L.length=0:=h8;omega
   have h3:=Dw n hn0;rw [hv,Xk] at h1;rw [pow16] at h3;have hlen:=h.len;have:2^(64*Go.Proofs.YtinbgjcooolbiaaGreatDoor.tl L)≤2^(16*((limbs n).length-1)):=Nat.pow_le_pow_right (by decide) (by omega);omega
  ·have:=Go.Proofs.YtinbgjcooolbiaaGreatDoor.tl_le L;omega
 rw [hl,List.take_length] at ht;exact ht
end Go.Proofs.YtinbgjcooolbiaaGreatDoor.Dg
namespace Go.Proofs.YtinbgjcooolbiaaGreatDoor.Dg
theorem val_set:∀ (xs:List Nat) (j y:Nat),j<xs.length→val (xs.set j y)+65536^j*nth xs j=val xs+65536^j*y
 | [],j,y,h=>absurd h (Nat.not_lt_zero _)
 | x :: xs, 0, y, _ => by
   show y+65536*val xs+65536^0*x=x+65536*val xs+65536^0*y
   omega
 | x :: xs, j + 1, y, h => by
   have ih:=val_set xs j y (by simpa using h)
   show x+65536*val (xs.set j y)+65536^(j+1)*nth xs j=x+65536*val xs+65536^(j+1)*y
   rw [Nat.pow_succ,Nat.mul_comm (65536^j) 65536,Nat.mul_assoc,Nat.mul_assoc];omega
theorem Cb {xs:List Nat}(h:Small xs)(j:Nat){y:Nat}(hy:y<65536):Small (xs.set j y):=by
 intro x hx;rcases List.mem_or_eq_of_mem_set hx with h1 | h1
 ·exact h x h1
 ·omega
theorem Yv (n:Nat):val (List.replicate n 0)=0:=by
 induction n with
 | zero=>rfl
 | succ n ih=>rw [List.replicate_succ,val,ih]
theorem Tb (n:Nat):Small (List.replicate n 0):=fun x hx=>by rw [(List.mem_replicate.1 hx).2];decide
def mlS (out:List Nat) (i x:Nat) (ys:List Nat):Nat→List Nat × Nat
 | 0=>(out,0)
 | k+1=>((mlS out i x ys k).1.set (i+k) ((x*nth ys k+nth (mlS out i x ys k).1 (i+k)+(mlS out i x ys k).2)%65536),(x*nth ys k+nth (mlS out i x ys k).1 (i+k)+(mlS out i x ys k).2)/65536)
theorem Jv (out:List Nat)(i x:Nat)(ys:List Nat):∀ k,(mlS out i x ys k).1.length=out.length
 | 0=>rfl
 | k+1=>by rw [mlS,List.length_set,Jv out i x ys k]
theorem K0 {out:List Nat}(h:Small out)(i x:Nat)(ys:List Nat):∀ k,Small (mlS out i x ys k).1
 | 0=>h
 | k+1=>Cb (K0 h i x ys k) _ (Nat.mod_lt _ (by decide))
theorem On {x y z c:Nat}(hx:x<65536)(hy:y<65536)(hz:z<65536)(hc:c≤65536):x*y+z≤4294901760∧(x*y+z+c)/65536≤65536:=by
 have h:x*y≤65535*65535:=Nat.mul_le_mul (by omega) (by omega);omega
theorem Od {out:List Nat}(h:Small out)(i:Nat){x:Nat}(hx:x<65536){ys:List Nat}(hy:Small ys):∀ k,(mlS out i x ys k).2≤65536
 | 0=>Nat.zero_le _
 | k+1=>(On hx (nth_lt hy k) (nth_lt (K0 h i x ys k) (i+k)) (Od h i hx hy k)).2
theorem Tu (out:List Nat)(i x:Nat)(ys:List Nat)(hl:i+ys.length≤out.length):∀ k,k≤ys.length→val (mlS out i x ys k).1+65536^(i+k)*(mlS out i x ys k).2=val out+65536^i*(x*val (ys.take k))
 | 0,_=>by simp [mlS,val]
 | k + 1, hk => by
   have ih:=Tu out i x ys hl k (by omega);have hs:=val_set (mlS out i x ys k).1 (i+k) ((x*nth ys k+nth (mlS out i x ys k).1 (i+k)+(mlS out i x ys k).2)%65536) (by rw [Jv];omega);rw [mlS,De,←Nat.add_assoc i k 1,Nat.pow_succ];simp only;generalize (mlS out i x ys k).2=c at *;generalize nth (mlS out i x ys k).1 (i+k)=z at *;generalize val (mlS out i x ys k).1=o at *;have hd:=Nat.mod_add_div (x*nth ys k+z+c) 65536;generalize (x*nth ys k+z+c)%65536=d at *;generalize (x*nth ys k+z+c)/65536=q at *;generalize val ((mlS out i x ys k).1.set (i+k) d)=o' at *;have e1:65536^(i+k)*65536*q+65536^(i+k)*d=65536^(i+k)*(x*nth ys k)+65536^(i+k)*z+65536^(i+k)*c:=by
    rw [Nat.mul_assoc,←Nat.mul_add,Nat.add_comm (65536*q) d,hd,Nat.mul_add,Nat.mul_add]
   have e2:65536^i*(x*(val (ys.take k)+65536^k*nth ys k))=65536^i*(x*val (ys.take k))+65536^(i+k)*(x*nth ys k):=by
    rw [Nat.mul_add,Nat.mul_add,Nat.pow_add];have:65536^i*(x*(65536^k*nth ys k))=65536^i*65536^k*(x*nth ys k):=by
     rw [Nat.mul_left_comm x,Nat.mul_assoc]
    rw [this]
   rw [e2];omega
def prS (out:List Nat) (c k:Nat):Nat→List Nat × Nat
 | 0=>(out,c)
 | j+1=>((prS out c k j).1.set (k+j) (((prS out c k j).2+nth (prS out c k j).1 (k+j))%65536),((prS out c k j).2+nth (prS out c k j).1 (k+j))/65536)
theorem Jw (out:List Nat)(c k:Nat):∀ j,(prS out c k j).1.length=out.length
 | 0=>rfl
 | j+1=>by rw [prS,List.length_set,Jw out c k j]
theorem K8 {out:List Nat}(h:Small out)(c k:Nat):∀ j,Small (prS out c k j).1
 | 0=>h
 | j+1=>Cb (K8 h c k j) _ (Nat.mod_lt _ (by decide))
theorem Oj {out:List Nat}(h:Small out){c:Nat}(hc:c≤65536)(k:Nat):∀ j,(prS out c k j).2≤65536
 | 0=>hc
 | j + 1 => by
   have h1:=Oj h hc k j;have h2:=nth_lt (K8 h c k j) (k+j)
   show ((prS out c k j).2+nth (prS out c k j).1 (k+j))/65536≤65536
   omega
theorem Po (out:List Nat)(c k:Nat):∀ j,k+j≤out.length→val (prS out c k j).1+65536^(k+j)*(prS out c k j).2=val out+65536^k*c
 | 0,_=>rfl
 | j + 1, hj => by
   have ih:=Po out c k j (by omega);have hs:=val_set (prS out c k j).1 (k+j) (((prS out c k j).2+nth (prS out c k j).1 (k+j))%65536) (by rw [Jw];omega);rw [prS,←Nat.add_assoc k j 1,Nat.pow_succ];simp only;generalize (prS out c k j).2=q at *;generalize nth (prS out c k j).1 (k+j)=z at *;have hd:=Nat.mod_add_div (q+z) 65536;generalize (q+z)%65536=d at *;generalize (q+z)/65536=t at *;have e1:65536^(k+j)*65536*t+65536^(k+j)*d=65536^(k+j)*q+65536^(k+j)*z:=by
    rw [Nat.mul_assoc,←Nat.mul_add,Nat.add_comm (65536*t) d,hd,Nat.mul_add]
   omega
theorem Xl {out:List Nat}{c k:Nat}{j:Nat}(hj:k+j≤out.length)(hb:val out+65536^k*c<65536^out.length)(h0:(prS out c k j).2≠0):k+j<out.length:=by
 have h:=Po out c k j hj;by_cases hlt:k+j<out.length
 ·exact hlt
 ·have e:k+j=out.length:=by omega
  rw [e] at h;have:65536^out.length*1≤65536^out.length*(prS out c k j).2:=Nat.mul_le_mul_left _ (by omega);omega
end Go.Proofs.YtinbgjcooolbiaaGreatDoor.Dg
namespace Go.Proofs.YtinbgjcooolbiaaGreatDoor
theorem Oa (l:List Dy):∀ d:Dy,(Bp d l).q≤d.q∧∀ x∈l,(Bp d l).q≤x.q:=by
 induction l with
 | nil=>intro d;exact ⟨Rat.le_refl,fun x hx=>by cases hx⟩
 | cons y l ih =>
   intro d;unfold Bp;obtain ⟨h1,h2⟩:=ih (if Bn y.q d.q<0 then y else d);have hc:=@Gn y.q d.q;have h3:(if Bn y.q d.q<0 then y else d).q≤d.q∧(if Bn y.q d.q<0 then y else d).q≤y.q:=by
    by_cases h:Bn y.q d.q<0
    ·rw [if_pos h];have:=hc.1 h;constructor<;>grind
    ·rw [if_neg h];have:¬y.q<d.q:=fun hh=>h (hc.2 hh);constructor<;>grind
   refine ⟨by grind,fun x hx=>?_⟩;rcases List.mem_cons.1 hx with rfl | hx
   ·grind
   ·exact h2 x hx
theorem Sn (l:List Dy):∀ d:Dy,Bp d l=d∨Bp d l∈l:=by
 induction l with
 | nil=>intro d;exact .inl rfl
 | cons y l ih =>
   intro d;unfold Bp;rcases ih (if Bn y.q d.q<0 then y else d) with h | h
   ·rw [h];split
    ·exact .inr (List.mem_cons_self ..)
    ·exact .inl rfl
   ·exact .inr (List.mem_cons_of_mem _ h)
theorem Kg (l:List Dy):∀ d:Dy,d.q≤(Av d l).q∧∀ x∈l,x.q≤(Av d l).q:=by
 induction l with
 | nil=>intro d;exact ⟨Rat.le_refl,fun x hx=>by cases hx⟩
 | cons y l ih =>
   intro d;unfold Av;obtain ⟨h1,h2⟩:=ih (if 0<Bn y.q d.q then y else d);have hc:=@I0 y.q d.q;have h3:d.q≤(if 0<Bn y.q d.q then y else d).q∧y.q≤(if 0<Bn y.q d.q then y else d).q:=by
    by_cases h:0<Bn y.q d.q
    ·rw [if_pos h];have:=hc.1 h;constructor<;>grind
    ·rw [if_neg h];have:¬d.q<y.q:=fun hh=>h (hc.2 hh);constructor<;>grind
   refine ⟨by grind,fun x hx=>?_⟩;rcases List.mem_cons.1 hx with rfl | hx
   ·grind
   ·exact h2 x hx
theorem Nq (l:List Dy):∀ d:Dy,Av d l=d∨Av d l∈l:=by
 induction l with
 | nil=>intro d;exact .inl rfl
 | cons y l ih =>
   intro d;unfold Av;rcases ih (if 0<Bn y.q d.q then y else d) with h | h
   ·rw [h];split
    ·exact .inr (List.mem_cons_self ..)
    ·exact .inl rfl
   ·exact .inr (List.mem_cons_of_mem _ h)
theorem Ob {d:Dy}{l:List Dy}(hd:d.Ok)(hl:∀ x∈l,Dy.Ok x):(Bp d l).Ok:=by
 rcases Sn l d with h | h
 ·rw [h];exact hd
 ·exact hl _ h
theorem Kh {d:Dy}{l:List Dy}(hd:d.Ok)(hl:∀ x∈l,Dy.Ok x):(Av d l).Ok:=by
 rcases Nq l d with h | h
 ·rw [h];exact hd
 ·exact hl _ h
theorem Ab2 {x y z u:Dy}:(Bp x [x,y,z,u]).q≤x.q∧(Bp x [x,y,z,u]).q≤y.q∧(Bp x [x,y,z,u]).q≤z.q∧(Bp x [x,y,z,u]).q≤u.q:=by
 obtain ⟨a,b⟩:=Oa [x,y,z,u] x;exact ⟨a,b y (by simp),b z (by simp),b u (by simp)⟩
theorem Uo {x y z u:Dy}:x.q≤(Av x [x,y,z,u]).q∧y.q≤(Av x [x,y,z,u]).q∧z.q≤(Av x [x,y,z,u]).q∧u.q≤(Av x [x,y,z,u]).q:=by
 obtain ⟨a,b⟩:=Kg [x,y,z,u] x;exact ⟨a,b y (by simp),b z (by simp),b u (by simp)⟩
theorem Ab1 {x y:Dy}:(Bp x [x,y]).q≤x.q∧(Bp x [x,y]).q≤y.q:=by
 obtain ⟨a,b⟩:=Oa [x,y] x;exact ⟨a,b y (by simp)⟩
theorem Un {x y:Dy}:x.q≤(Av x [x,y]).q∧y.q≤(Av x [x,y]).q:=by
 obtain ⟨a,b⟩:=Kg [x,y] x;exact ⟨a,b y (by simp)⟩
theorem I2 {d:Dy}{p:Nat}(hp:1≤p)(hk:(Bv d p false).k=0):IsDown p d.q (Bv d p false).v.q:=Qi hp hk
theorem L4 {d:Dy}{p:Nat}(hp:1≤p)(hk:(Bv d p true).k=0):IsUp p d.q (Bv d p true).v.q:=Qi hp hk
theorem Rf {o:Outc Dy}{p:Nat}{up:Bool}(hk:(Ig o p up).k=0):o.k=0∧Ig o p up=Bv o.v p up:=Outc.bind_ok hk
theorem Lo (b:Iv):Cm b=true↔b.lo.q≤0∧0≤b.hi.q:=by
 unfold Cm;simp only [Bool.and_eq_true,decide_eq_true_eq];rw [Gm,Gm]
end Go.Proofs.YtinbgjcooolbiaaGreatDoor
namespace Go.Proofs.YtinbgjcooolbiaaGreatDoor
def OkI (o:Outc Iv):Prop:=o.v.Ok∧(o.k≠0→o.v=iz)
theorem Ade:iz.Ok:=⟨dz_ok,dz_ok,Rat.le_refl⟩
theorem Gk (k:Int):OkI ⟨iz,k⟩:=⟨Ade,fun _=>rfl⟩
theorem Kc {lo hi:Outc Dy}(h1:lo.Ok)(h2:hi.Ok)(h:lo.k=0→hi.k=0→lo.v.q≤hi.v.q):OkI (D0 lo hi):=by
 unfold D0 Outc.bind;by_cases k1:lo.k=0
 ·simp only [if_pos k1];by_cases k2:hi.k=0
  ·simp only [if_pos k2];exact ⟨⟨h1.1,h2.1,h k1 k2⟩,fun h=>absurd rfl h⟩
  ·simp only [if_neg k2];exact Gk _
 ·simp only [if_neg k1];exact Gk _
theorem T9 (o:Outc Dy)(p:Nat)(up:Bool):(Ig o p up).Ok:=by
 unfold Ig Outc.bind;by_cases k1:o.k=0
 ·simp only [if_pos k1];exact Gp _ _ _
 ·simp only [if_neg k1];exact Ox _
theorem Wq {a b c d:Outc Dy}{f:Dy→Dy→Dy→Dy→Outc Iv}(h:a.k=0→b.k=0→c.k=0→d.k=0→OkI (f a.v b.v c.v d.v)):OkI (four a b c d f):=by
 unfold four Outc.bind;by_cases k1:a.k=0
 ·simp only [if_pos k1];by_cases k2:b.k=0
  ·simp only [if_pos k2];by_cases k3:c.k=0
   ·simp only [if_pos k3];by_cases k4:d.k=0
    ·simp only [if_pos k4];exact h k1 k2 k3 k4
    ·simp only [if_neg k4];exact Gk _
   ·simp only [if_neg k3];exact Gk _
  ·simp only [if_neg k2];exact Gk _
 ·simp only [if_neg k1];exact Gk _
theorem Ti {a b:Iv}(ha:a.Ok)(hb:b.Ok){p:Nat}(hp:1≤p):OkI (Hn a b p):=by
 unfold Hn;refine Kc (T9 _ _ _) (T9 _ _ _) fun k1 k2=>?_
 obtain ⟨h4,h5⟩:=Rf k1;obtain ⟨h6,h7⟩:=Rf k2;rw [h5] at k1 ⊢;rw [h7] at k2 ⊢;have d1:=(I2 hp k1).le;have d2:=(L4 hp k2).le;rw [Yh h4] at d1;rw [Yh h6] at d2;have:=ha.le;have:=hb.le;grind
theorem Xe {b:Iv}(hb:b.Ok):(Iv.mk (Cv b.hi) (Cv b.lo)).Ok :=
 ⟨Ff hb.hi,Ff hb.lo,by simp only [Sr];have:=hb.le;grind⟩
theorem Ye (a b:Iv)(p:Nat):Lf a b p=Hn a ⟨Cv b.hi,Cv b.lo⟩ p:=rfl
theorem Aax {a b:Iv}(ha:a.Ok)(hb:b.Ok){p:Nat}(hp:1≤p):OkI (Lf a b p):=by
 rw [Ye];exact Ti ha (Xe hb) hp
theorem Z0 {a:Iv}(ha:a.Ok){p:Nat}(hp:1≤p):OkI (K6 a p):=by
 unfold K6;refine Kc (Gp _ _ _) (Gp _ _ _) fun k1 k2=>?_
 have d1:=(I2 hp k1).le;have d2:=(L4 hp k2).le;have:=(Xe ha).le;simp only at this;grind
theorem Zr {a b:Iv}{p:Nat}(hp:1≤p):OkI (H4 a b p):=by
 unfold H4;refine Wq fun h1 h2 h3 h4=>Kc (Gp _ _ _) (Gp _ _ _) fun k1 k2=>?_
 have d1:=(I2 hp k1).le;have d2:=(L4 hp k2).le;have l:=(Ab2 (x:=(Bz a.lo b.lo).v) (y:=(Bz a.lo b.hi).v) (z:=(Bz a.hi b.lo).v) (u:=(Bz a.hi b.hi).v)).1;have g:=(Uo (x:=(Bz a.lo b.lo).v) (y:=(Bz a.lo b.hi).v) (z:=(Bz a.hi b.lo).v) (u:=(Bz a.hi b.hi).v)).1;grind
theorem Sl {b:Iv}(hb:b.Ok)(h:¬Cm b=true):¬b.lo.m=0∧¬b.hi.m=0:=by
 have hz:=fun x=>h ((Lo b).2 x)
 have:=hb.le;constructor
 ·intro h0;have:=Np h0;exact hz ⟨by grind,by grind⟩
 ·intro h0;have:=Np h0;exact hz ⟨by grind,by grind⟩
theorem Aat {a:Iv}{p:Nat}(hp:1≤p):OkI (F3 a p):=by
 have sqn:∀ x:Rat,0≤x*x:=fun x=>by
  by_cases h:0≤x
  ·exact Rat.mul_nonneg h h
  ·have:=Rat.mul_nonneg (show 0≤-x by grind) (show 0≤-x by grind);grind
 unfold F3 Outc.bind;by_cases h1:(Bz a.lo a.lo).k=0
 ·simp only [if_pos h1];by_cases h2:(Bz a.hi a.hi).k=0
  ·simp only [if_pos h2];refine Kc (Gp _ _ _) (Gp _ _ _) fun k1 k2=>?_
   have d1:=(I2 hp k1).le;have d2:=(L4 hp k2).le;have l:=(Ab1 (x:=(Bz a.lo a.lo).v) (y:=(Bz a.hi a.hi).v)).1;have g:=(Un (x:=(Bz a.lo a.lo).v) (y:=(Bz a.hi a.hi).v)).1;have q1:=Ab9 h1;have:=sqn a.lo.q;have hl:(if Cm a=true then dz else Bp (Bz a.lo a.lo).v [(Bz a.lo a.lo).v,(Bz a.hi a.hi).v]).q≤(Bz a.lo a.lo).v.q:=by
    split
    ·rw [Ul];grind
    ·exact l
   grind
  ·simp only [if_neg h2];exact Gk _
 ·simp only [if_neg h1];exact Gk _
theorem IsDown.sign {p:Nat}{x d:Rat}(h:IsDown p x d)(hx:0≤x):0≤d:=h.best 0 (Fits.zero p) hx
end Go.Proofs.YtinbgjcooolbiaaGreatDoor
namespace Go.Proofs.YtinbgjcooolbiaaGreatDoor
theorem P0 {n:Nat}(h:n%2=1):tz n=0:=Hj n 0 n h (by simp)
theorem I4 {d:Dy}(h:d.Ok):Ci d.neg d.m d.e=⟨d,0⟩:=by
 unfold Ci;by_cases h0:d.m=0
 ·rw [if_pos h0];obtain ⟨a,b⟩:=h.zero h0;cases d with | mk n m e =>
   simp only at a b h0;subst a b h0;rfl
 ·rw [if_neg h0,P0 (h.odd h0)];have hl:=h.len;have h1:=h.lo;have h2:=h.hi;rw [if_neg (by simpa using hl),if_neg (by simp;omega),if_neg (by simp;omega)];simp [good]
theorem Js {d:Dy}(h:d.Ok){p:Nat}(hp:bl d.m≤p)(up:Bool):Bv d p up=⟨d,0⟩:=by
 unfold Bv Kt Ku Ga;have e0:bl d.m-p=0:=by omega
 simp only [e0,Nat.lt_irrefl,decide_false,Bool.false_and,Bool.or_false,Bool.false_eq_true,if_false,Nat.pow_zero,Nat.div_one,Int.ofNat_zero,Int.add_zero];exact I4 h
structure Few (d:Dy) (b:Nat) (e:Int):Prop where
 ok:d.Ok
 bl:bl d.m≤b
 lo:-e≤d.e
 hi:d.e≤e
def pt (d:Dy):Iv:=⟨d,d⟩
theorem T6 {d:Dy}(h:d.Ok):(pt d).Ok:=⟨h,h,Rat.le_refl⟩
theorem M6 {o:Outc Dy}(h0:o.k=0)(h:o.v.Ok){p:Nat}(hp:bl o.v.m≤p)(up:Bool):Ig o p up=⟨o.v,0⟩:=by
 unfold Ig;rw [Outc.bind_of _ _ h0,Js h hp]
end Go.Proofs.YtinbgjcooolbiaaGreatDoor
namespace Go.Proofs.YtinbgjcooolbiaaGreatDoor
def Ep (neg:Bool) (m:Nat) (e:Int):Outc Dy :=
 if m=0 then good dz else if 256<(Dg.limbs (m/2^tz m)).length then bad 2
 else if 1048576<e∨e < -1053576∨1048576<e+tz m∨e+tz m < -1048576 then bad 3 else good ⟨neg,m/2^tz m,e+tz m⟩
theorem Pk (x:Nat):256<(Dg.limbs x).length↔64<(limbs x).length:=by
 rw [Dg.length_limbs,length_limbs];split<;>omega
theorem Qt {x:Nat}:64<(limbs x).length↔4096<bl x:=by
 rw [length_limbs];unfold bl;split<;>omega
theorem Ik {neg:Bool}{m:Nat}{e:Int}(h:m≠0→tz m≤5000):Ep neg m e=Ci neg m e:=by
 unfold Ep Ci;by_cases h0:m=0
 ·rw [if_pos h0,if_pos h0]
 ·rw [if_neg h0,if_neg h0];have ht:=h h0;by_cases h1:64<(limbs (m/2^tz m)).length
  ·rw [if_pos h1,if_pos ((Pk _).2 h1)]
  ·rw [if_neg h1,if_neg (fun hh=>h1 ((Pk _).1 hh))];by_cases h2:1048576<e∨e < -1048576-(tz m:Int)
   ·rw [if_pos h2,if_pos (by omega)]
   ·rw [if_neg h2];by_cases h3:1048576<e+(tz m:Int)
    ·rw [if_pos h3,if_pos (by omega)]
    ·rw [if_neg h3,if_neg (by omega)]
theorem Abd {m k:Nat}(h:m<2^k)(hk:k≤5000):m≠0→tz m≤5000:=fun h0=>by
 have:=Rv m k h0 h;omega
theorem Qv {neg:Bool}{m K:Nat}{e:Int}(hK:K=4096)(h:m%2=1)(hb:2^K≤m):Ep neg m e=bad 2:=by
 unfold Ep;have h0:m≠0:=by omega
 rw [if_neg h0,if_pos];rw [P0 h,Nat.pow_zero,Nat.div_one,Pk,Qt];by_cases hc:4096<bl m
 ·exact hc
 ·exfalso;have h1:=Bg m;have h2:2^bl m≤2^K:=Nat.pow_le_pow_right (by decide) (by omega);exact absurd hb (Nat.not_le.2 (Nat.lt_of_lt_of_le h1 h2))
def Rs (x y:Dy) (e:Int):Outc Dy :=
 if 4166<max ((bl x.m:Int)+x.e) (bl y.m+y.e)-e then bad 2
 else if x.neg=y.neg then Ep x.neg (x.m*2^(x.e-e).toNat+y.m*2^(y.e-e).toNat) e
 else if y.m*2^(y.e-e).toNat≤x.m*2^(x.e-e).toNat then Ep x.neg (x.m*2^(x.e-e).toNat-y.m*2^(y.e-e).toNat) e
 else Ep y.neg (y.m*2^(y.e-e).toNat-x.m*2^(x.e-e).toNat) e
def Aci (x y:Dy):Outc Dy:=if x.m=0 then good y else if y.m=0 then good x else Rs x y (min x.e y.e)
theorem Uz (n n':Bool)(e:Int):Ep n 0 e=Ep n' 0 e:=by unfold Ep;rw [if_pos rfl,if_pos rfl]
theorem Vi (x y:Dy)(e:Int):Rs x y e=Rs y x e:=by
 unfold Rs;rw [Int.max_comm];split
 ·rfl
 ·by_cases hn:x.neg=y.neg
  ·rw [if_pos hn,if_pos hn.symm,hn,Nat.add_comm]
  ·have hn':¬y.neg=x.neg:=fun h=>hn h.symm
   rw [if_neg hn,if_neg hn'];generalize x.m*2^(x.e-e).toNat=p;generalize y.m*2^(y.e-e).toNat=q;by_cases h1:q≤p
   ·rw [if_pos h1];by_cases h2:p≤q
    ·rw [if_pos h2];have e1:p-q=0:=by omega
     have e2:q-p=0:=by omega
     rw [e1,e2];exact Uz _ _ _
    ·rw [if_neg h2]
   ·rw [if_neg h1,if_pos (by omega)]
theorem J7 {d:Dy}(h:d.Ok):bl d.m≤4096:=by
 have:=h.len;by_cases hc:4096<bl d.m
 ·exact absurd (Qt.2 hc) (by omega)
 ·omega
theorem Yi {a b:Dy}(ha:a.Ok)(hb:b.Ok)(a0:a.m≠0)(b0:b.m≠0)(h:b.e≤a.e):Rs a b b.e=It a b:=by
 have la:=J7 ha;have lb:=J7 hb;obtain ⟨d,hd⟩:∃ d:Nat,a.e-b.e=d:=⟨(a.e-b.e).toNat,by omega⟩;have e0:(b.e-b.e).toNat=0:=by omega
 unfold Rs It;rw [hd,e0,Nat.pow_zero,Nat.mul_one,Int.toNat_natCast];have ob:=hb.odd b0;have qa:=Dk a.m a0;have qa':=Bg a.m;have qb':=Bg b.m;have pa:=Gz a.m a0;have hlo:2^(bl a.m-1+d)≤a.m*2^d:=by rw [Nat.pow_add];exact Nat.mul_le_mul_right _ qa
 have hhi:a.m*2^d<2^(bl a.m+d):=by rw [Nat.pow_add];exact Nat.mul_lt_mul_of_pos_right qa' (Nat.two_pow_pos _)
 obtain ⟨K,hK⟩:∃ K:Nat,K=4096:=⟨_,rfl⟩;have hb':b.m<2^K:=Nat.lt_of_lt_of_le qb' (Nat.pow_le_pow_right (by decide) (by omega));have h2K:(2:Nat)^(K+1)=2^K+2^K:=by rw [Nat.pow_succ];omega
 have h3K:(2:Nat)^(K+2)=2^(K+1)+2^(K+1):=by rw [Nat.pow_succ];omega
 have hev:d≠0→a.m*2^d%2=0:=by
  intro hd0;obtain ⟨c,rfl⟩:∃ c,d=c+1:=⟨d-1,by omega⟩;rw [Nat.pow_succ,←Nat.mul_assoc,Nat.mul_mod_left]
 by_cases hc:¬a.e=b.e∧4097-(bl a.m:Int)<(d:Int)
 ·rw [if_pos hc];have hd0:d≠0:=by omega
  have h97:2^(K+1)≤a.m*2^d:=Nat.le_trans (Nat.pow_le_pow_right (by decide) (by omega)) hlo;have he:=hev hd0;generalize a.m*2^d=p at *;rw [h2K] at h97;clear h2K h3K;split
  ·rfl
  ·split
   ·exact Qv hK (by omega) (by omega)
   ·rw [if_pos (by omega)];exact Qv hK (by omega) (by omega)
 ·rw [if_neg hc];have hm:¬4166<max ((bl a.m:Int)+a.e) (bl b.m+b.e)-b.e:=by omega
  rw [if_neg hm];have hs:bl a.m+d≤4097:=by
   by_cases hd0:d=0
   ·omega
   ·omega
  have hp:a.m*2^d<2^(K+1):=Nat.lt_of_lt_of_le hhi (Nat.pow_le_pow_right (by decide) (by omega));have hq:b.m<2^(K+1):=Nat.lt_of_lt_of_le hb' (Nat.pow_le_pow_right (by decide) (by omega));have t:∀ m,m<2^(K+1)+2^(K+1)→m≠0→tz m≤5000:=fun m h=>Abd (k:=K+2) (by rw [h3K];exact h) (by omega)
  clear hlo hhi h2K h3K qa' qb';generalize a.m*2^d=p at *;generalize (2:Nat)^(K+1)=B at *;split
  ·exact Ik (t _ (by omega))
  ·split
   ·exact Ik (t _ (by omega))
   ·exact Ik (t _ (by omega))
theorem Aaz {x y:Dy}(hx:x.Ok)(hy:y.Ok):Aci x y=Dl x y:=by
 unfold Aci Dl;by_cases h0:x.m=0
 ·rw [if_pos h0,if_pos h0]
 ·rw [if_neg h0,if_neg h0];by_cases h1:y.m=0
  ·rw [if_pos h1,if_pos h1]
  ·rw [if_neg h1,if_neg h1];by_cases h2:x.e<y.e
   ·rw [if_pos h2,Int.min_eq_left (by omega),Vi];exact Yi hy hx h1 h0 (by omega)
   ·rw [if_neg h2,Int.min_eq_right (by omega)];exact Yi hx hy h0 h1 (by omega)
theorem Zu {x y:Dy}(hx:x.Ok)(hy:y.Ok):Ep (x.neg != y.neg) (x.m*y.m) (x.e+y.e)=Bz x y:=by
 unfold Bz;refine Ik fun h=>?_
 have h1:x.m≠0:=by rintro hh;rw [hh,Nat.zero_mul] at h;exact h rfl
 have h2:y.m≠0:=by rintro hh;rw [hh,Nat.mul_zero] at h;exact h rfl
 rw [P0 (by rw [Nat.mul_mod,hx.odd h1,hy.odd h2])];omega
def Kb (neg:Bool) (m:Nat) (p:Nat) (up:Bool):Nat :=
 if bl m≤p then m else if up != neg&&decide (m/2^(bl m-p)*2^(bl m-p)≠m) then m/2^(bl m-p)+1 else m/2^(bl m-p)
theorem We (neg:Bool)(m p:Nat)(up:Bool):Kb neg m p up=Ku m false p (up != neg):=by
 unfold Kb Ku Ga;simp only [Bool.false_or];by_cases h:bl m≤p
 ·rw [if_pos h];have:bl m-p=0:=by omega
  rw [this];simp
 ·rw [if_neg h];have hm:m≠0:=by rintro rfl;exact h (by rw [Hq];omega)
  have e1:(decide (m/2^(bl m-p)*2^(bl m-p)≠m))=(decide (0<bl m-p)&&decide (tz m<bl m-p)):=by
   have e2:(tz m<bl m-p)↔m/2^(bl m-p)*2^(bl m-p)≠m:=by
    rw [Lh _ _ hm];have:=Nat.div_add_mod m (2^(bl m-p));rw [Nat.mul_comm] at this;omega
   have e3:0<bl m-p:=by omega
   simp only [e2,e3,decide_true,Bool.true_and]
  rw [e1,Bool.and_comm]
theorem Za {d:Dy}{p:Nat}{up:Bool}(hp:p≤2000):Ep d.neg (Kb d.neg d.m p up) (d.e+((bl d.m-p:Nat):Int))=Bv d p up:=by
 unfold Bv Kt;rw [←We];obtain ⟨K,hK⟩:∃ K:Nat,K=2000:=⟨_,rfl⟩;refine Ik (Abd (k:=K+1) ?_ (by omega));rw [We];unfold Ku Ga;have h1:d.m/2^(bl d.m-p)<2^K:=by
  have:=Bg (d.m/2^(bl d.m-p));refine Nat.lt_of_lt_of_le this (Nat.pow_le_pow_right (by decide) ?_);rw [Vy];omega
 have h2:(2:Nat)^(K+1)=2^K+2^K:=by rw [Nat.pow_succ];omega
 rw [h2];have h3:0<(2:Nat)^K:=Nat.two_pow_pos _;generalize (2:Nat)^K=B at *;split
 ·show d.m/2^(bl d.m-p)+1<_
  omega
 ·show d.m/2^(bl d.m-p)<_
  omega
end Go.Proofs.YtinbgjcooolbiaaGreatDoor
