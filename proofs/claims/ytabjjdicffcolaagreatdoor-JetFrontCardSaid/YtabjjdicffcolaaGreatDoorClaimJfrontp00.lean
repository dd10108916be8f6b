/- Words, part 0. -/
namespace Go.Proofs.YtabjjdicffcolaaGreatDoor
variable {α:Type} {i k m n:Nat} {c p:Prop}
universe u
def Hid (p:Prop):Prop:=p
theorem Hid.out (h:Hid p):p:=h
theorem Hid.o (h:Hid p):p:=h
theorem Ad (h:p):Hid p:=h
theorem Bi {a:Array α}{v:α}(h:a[i]?=some v):∃ h,a[i]=v:=Array.getElem?_eq_some_iff.1 h
theorem Ed {a:List α}{v:α}(h:a[i]?=some v):∃ h,a[i]=v:=List.getElem?_eq_some_iff.1 h
theorem Cd {l:List α}(h:i<l.length):l[i]?=some l[i]:=List.getElem?_eq_getElem h
theorem Cv {a:Array α}{d:α}:a.getD i d=a[i]?.getD d:=Array.getD_eq_getD_getElem?
theorem Da {a:α}{l:List α}:l.getD n a=l[n]?.getD a:=List.getD_eq_getElem?_getD
theorem Dc {l:List α}{a:α}(e:l[i]?=some a):a∈l:=List.mem_of_getElem? e
theorem G9 {l:List α}(h:l.length=0):l=[]:=List.eq_nil_of_length_eq_zero h
theorem Gf {l k:List α}(h:n<l.length):(l++k)[n]?=l[n]?:=List.getElem?_append_left h
theorem Gk {l k:List α}(h:l.length<=n):(l++k)[n]?=k[n-l.length]?:=List.getElem?_append_right h
theorem Fq {l:List α}(h:l.length<=i):l.take i=l:=List.take_of_length_le h
theorem Aq (n:Nat):n<=n:=Nat.le_refl n
theorem Bp (h:n<=m)(h1:m<=k):n<=k:=Nat.le_trans h h1
theorem Dn (h:n<m)(h1:m<=k):n<k:=Nat.lt_of_lt_of_le h h1
theorem Ee (h:n>0)(h1:m<=k):n^m<=n^k:=Nat.pow_le_pow_right h h1
theorem Fh (k:Nat)(h:m<=n):m*k<=n*k:=Nat.mul_le_mul_right k h
theorem Ek [BEq α][LawfulBEq α]{a b:α}:(a==b)=false↔a≠b:=beq_eq_false_iff_ne
theorem Af {h:Decidable c}(n:¬c){α:Sort u}{t e:α}:(ite c t e)=e:=if_neg n
theorem Ak {h:Decidable c}(n:c){α:Sort u}{t e:α}:(ite c t e)=t:=if_pos n
theorem Ep:(∀{α:Type}(xs:List α)(i:Nat)(a:α),xs.toArray.setIfInBounds i a=(xs.set i a).toArray)/\(∀{α:Type}(a b:α)(l:List α),(a::l).set 0 b=b::l)/\(∀{α:Type}(a b:α)(l:List α)(n:Nat),(a::l).set (n+1) b=a::l.set n b)/\(∀{α:Type}(xs:List α)(i:Nat),xs.toArray[i]?=xs[i]?)/\(∀{α:Type}(a:α)(l:List α),(a::l)[0]?=some a)/\(∀{α:Type}(a:α)(l:List α)(i:Nat),(a::l)[i+1]?=l[i]?)/\(∀{α β:Type}(f:α->Option β)(a:α),(some a).bind f=f a)/\∀{α:Type}{_:Decidable True}(t e:α),(if True then t else e)=t:=⟨λ_ _ _=>List.setIfInBounds_toArray ..,λ_ _ _=>List.set_cons_zero ..,λ_ _ _ _=>List.set_cons_succ ..,λ_ _=>List.getElem?_toArray ..,λ_ _=>List.getElem?_cons_zero ..,λ_ _ _=>List.getElem?_cons_succ ..,λ_ _=>Option.bind_some ..,λ_ _=>if_pos trivial⟩
end Go.Proofs.YtabjjdicffcolaaGreatDoor
