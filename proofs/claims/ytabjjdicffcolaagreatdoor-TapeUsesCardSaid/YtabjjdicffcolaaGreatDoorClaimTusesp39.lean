/- Contracts: the document's May of tapes, where it says yes. -/
import Derived.Test.YtabjjdicffcolaaGreatDoorClaimTusesp33
import Derived.Lib.SlicesCompact
set_option maxRecDepth 100000
set_option maxHeartbeats 16000000
namespace Go.Proofs.YtabjjdicffcolaaGreatDoor
open Go.Lib
def J6 (ls:List Ln) (i:Nat) (st:List Bool × List Int):List Bool × List Int :=
 match ls[i]? with
 | none=>st
 | some l => if st.1.getD i false = false then st else if l.op = 4 then (st.1, st.2 ++ [l.a]) else
   if 0<Ce l.op then ((st.1.set l.a.toNat true).set l.b.toNat ((st.1.set l.a.toNat true).getD l.b.toNat false||decide (1<Ce l.op)),st.2) else st
def Lj (ls:List Ln):Nat→List Bool × List Int→List Bool × List Int
 | 0,st=>st
 | i+1,st=>Lj ls i (J6 ls i st)
def Tu (ls:List Ln) (o:Nat):List Int:=(Lj ls ls.length ((List.replicate ls.length false).set o true,[])).2
def big:Int:=9223372036854775807
def Ic (ls:List Ln) (outs:List Int) (k:Int):List Int :=
 if Ex ls outs big big big=true∧0≤k∧k<outs.length then compact ((Tu ls (outs.getD k.toNat 0).toNat).mergeSort fun x y=>decide (x≤y)) else []
theorem Jw (d:Array Int)(hs:∀ i j,i≤j→j<d.size→d[i]!≤d[j]!):∀ m,m≤d.size→(compactUpTo d m).Pairwise (·<·)∧(∀ x∈compactUpTo d m,∃ i,i<m∧d[i]! =x)∧∀ i,i<m→d[i]!∈compactUpTo d m
 | 0,_=>by simp [compactUpTo]
 | m + 1, hm => by
   obtain ⟨h1,h2,h3⟩:=Jw d hs m (by omega);rw [compactUpTo_succ]
   by_cases hk:keeps d m=true
   ·rw [if_pos hk];refine ⟨?_,?_,?_⟩
    ·rw [List.pairwise_append];refine ⟨h1,by simp,fun x hx y hy=>?_⟩;simp only [List.mem_singleton] at hy;subst hy;obtain ⟨i,hi,rfl⟩:=h2 x hx;have hne:d[m]!≠d[m-1]!:=by
      simp only [keeps,decide_eq_true_eq] at hk
      rcases hk with h | h
      ·omega
      ·exact h
     have a:=hs i (m-1) (by omega) (by omega);have b:=hs (m-1) m (by omega) (by omega);omega
    ·intro x hx
     rcases List.mem_append.1 hx with hx | hx
     ·obtain ⟨i, hi, e⟩ := h2 x hx;exact ⟨i,by omega,e⟩
     ·simp only [List.mem_singleton] at hx;exact ⟨m,by omega,hx.symm⟩
    ·intro i hi
     by_cases e:i=m
     ·subst e;exact List.mem_append_right _ (by simp)
     ·exact List.mem_append_left _ (h3 i (by omega))
   ·rw [if_neg hk, List.append_nil];refine ⟨h1,fun x hx=>by obtain ⟨i,hi,e⟩:=h2 x hx;exact ⟨i,by omega,e⟩,fun i hi=>?_⟩
    by_cases e:i=m
    ·subst e;simp only [keeps,decide_eq_true_eq,not_or,Classical.not_not] at hk;rw [hk.2];exact h3 _ (by omega)
    ·exact h3 i (by omega)
theorem Nw (zs:List Int):(compact (zs.mergeSort fun x y=>decide (x≤y))).Pairwise (·<·)∧∀ x,x∈compact (zs.mergeSort fun x y=>decide (x≤y))↔x∈zs:=by
 have hp:(zs.mergeSort fun x y=>decide (x≤y)).Pairwise (fun x y=>decide (x≤y)=true):=List.pairwise_mergeSort (fun a b c h1 h2=>by simp at *;omega) (fun a b=>by simp;omega) zs;have hm:∀ x,x∈(zs.mergeSort fun x y=>decide (x≤y))↔x∈zs:=fun x=>List.mem_mergeSort
 generalize (zs.mergeSort fun x y=>decide (x≤y))=ys at *;have hs:∀ i j,i≤j→j<ys.toArray.size→ys.toArray[i]!≤ys.toArray[j]!:=by
  intro i j hij hj;have hj':j<ys.length:=by simpa using hj
  rw [getElem!_pos ys.toArray i (by simp;omega),getElem!_pos ys.toArray j hj]
  by_cases e:i=j
  ·subst e;exact Int.le_refl _
  ·have := List.pairwise_iff_getElem.1 hp i j (by omega) hj' (by omega)
   simpa using this
 obtain ⟨h1,h2,h3⟩:=Jw ys.toArray hs ys.length (by simp);refine ⟨h1,fun x=>?_⟩;rw [←hm x];constructor
 ·intro hx;obtain ⟨i,hi,e⟩:=h2 x hx;rw [getElem!_pos ys.toArray i (by simpa using hi)] at e;rw [←e];exact List.getElem_mem _
 ·intro hx;obtain ⟨i,hi,rfl⟩:=List.mem_iff_getElem.1 hx;have:=h3 i hi
  rwa [getElem!_pos ys.toArray i (by simpa using hi)] at this
end Go.Proofs.YtabjjdicffcolaaGreatDoor
namespace Go.Proofs.YtabjjdicffcolaaGreatDoor
open Go.Lib
theorem Oa {l:Ln}{i x u p:Int}(h:Ff l i x u p=true) :
 (0<Ce l.op→0≤l.a∧l.a<i∧(1<Ce l.op→0≤l.b∧l.b<i)∧(¬1<Ce l.op→l.b=0))∧(l.op=4→0≤l.a∧l.a<u)∧(l.op=1∨l.op=2∨l.op=3∨l.op=4∨l.op=5∨0<Ce l.op):=by
 unfold Ff Bz at h;unfold Ce
 by_cases c0:l.op=1∨l.op=2∨l.op=3∨l.op=5
 ·have n0 : l.op = 1 ∨ l.op = 2 ∨ l.op = 3 ∨ l.op = 4 ∨ l.op = 5 := by omega
  rw [if_pos n0];exact ⟨fun h=>absurd h (by decide),fun h=>by omega,by omega⟩
 have n1:¬l.op=1:=by omega
 have n2:¬l.op=2:=by omega
 have n3:¬l.op=3:=by omega
 have n5:¬l.op=5:=by omega
 rw [if_neg n1] at h
 by_cases cs:N0 l.k rzI=false
 ·rw [if_pos cs] at h;cases h
 rw [if_neg cs,if_neg n2,if_neg n3] at h
 by_cases c4:l.op=4
 ·have n0 : l.op = 1 ∨ l.op = 2 ∨ l.op = 3 ∨ l.op = 4 ∨ l.op = 5 := by omega
  rw [if_pos n0];rw [if_pos c4] at h
  simp at h
  exact ⟨fun h=>absurd h (by decide),fun _=>h.1,by omega⟩
 have n0:¬(l.op=1∨l.op=2∨l.op=3∨l.op=4∨l.op=5):=by omega
 rw [if_neg n0];rw [if_neg c4,if_neg n5] at h
 by_cases c6:l.op=6∨l.op=7∨l.op=8∨l.op=9
 ·rw [if_pos c6] at h ⊢
  simp at h
  exact ⟨fun _=>⟨h.1.1,h.1.2,fun _=>h.2,fun h=>absurd (show (1:Int)<2 by decide) h⟩,fun h=>absurd h c4,.inr (.inr (.inr (.inr (.inr (by decide)))))⟩
 ·rw [if_neg c6] at h ⊢
  by_cases c7:l.op=10∨l.op=11∨l.op=12∨l.op=13
  ·rw [if_pos c7] at h ⊢
   simp at h
   exact ⟨fun _=>⟨h.1.1,h.1.2,fun h=>absurd h (by decide),fun _=>h.2⟩,fun h=>absurd h c4,.inr (.inr (.inr (.inr (.inr (by decide)))))⟩
  ·rw [if_neg c7] at h;cases h
def onU (st:List Bool × List Int) (j:Nat):Bool:=st.1.getD j false
def GoodU (st:List Bool × List Int) (l:Ln):Prop:=(l.op=4→l.a∈st.2)∧(0<Ce l.op→onU st l.a.toNat=true∧(1<Ce l.op→onU st l.b.toNat=true))
def LeU (st st':List Bool × List Int):Prop:=st'.1.length=st.1.length∧(∀ j,onU st j=true→onU st' j=true)∧∀ x∈st.2,x∈st'.2
theorem LeU.refl (st:List Bool × List Int):LeU st st:=⟨rfl,fun _ h=>h,fun _ h=>h⟩
theorem LeU.trans {a b c:List Bool × List Int}(h:LeU a b)(k:LeU b c):LeU a c:=⟨k.1.trans h.1,fun j q=>k.2.1 j (h.2.1 j q),fun x q=>k.2.2 x (h.2.2 x q)⟩
theorem GoodU.mono {st st':List Bool × List Int}{l:Ln}(h:GoodU st l)(k:LeU st st'):GoodU st' l :=
 ⟨fun q=>k.2.2 _ (h.1 q),fun q=>⟨k.2.1 _ (h.2 q).1,fun r=>k.2.1 _ ((h.2 q).2 r)⟩⟩
theorem Nn (st:List Bool × List Int)(fs:List Int)(i:Nat)(x:Bool)(j:Nat):onU (st.1.set i x,fs) j=if i=j∧j<st.1.length then x else onU st j:=by
 unfold onU;rw [List.getD_eq_getElem?_getD,List.getD_eq_getElem?_getD,List.getElem?_set]
 by_cases h:i=j
 ·subst h
  by_cases h2:i<st.1.length
  ·simp [h2]
  ·simp [h2]
 ·simp [h]
theorem Xx {ls:List Ln}{i:Nat}{st:List Bool × List Int}(hl:st.1.length=ls.length){l:Ln}(hi:ls[i]?=some l){x u p:Int}(hm:Ff l i x u p=true) :
 LeU st (J6 ls i st)∧(∀ j,i≤j→onU (J6 ls i st) j=onU st j)∧(onU st i=true→GoodU (J6 ls i st) l)∧∀ y∈(J6 ls i st).2,y∈st.2∨l.op=4∧y=l.a:=by
 obtain ⟨m1,m2,m3⟩:=Oa hm;have hil:=(List.getElem?_eq_some_iff.1 hi).1
 have e:J6 ls i st=if onU st i=false then st else if l.op=4 then (st.1,st.2++[l.a]) else
  if 0<Ce l.op then ((st.1.set l.a.toNat true).set l.b.toNat ((st.1.set l.a.toNat true).getD l.b.toNat false||decide (1<Ce l.op)),st.2) else st:=by
  unfold J6;rw [hi]
  rfl
 rw [e]
 by_cases h1:onU st i=false
 ·rw [if_pos h1];exact ⟨.refl _,fun _ _=>rfl,fun h=>absurd (h1.symm.trans h) (by decide),fun y hy=>.inl hy⟩
 ·rw [if_neg h1]
  by_cases h4:l.op=4
  ·rw [if_pos h4];have hp:¬0<Ce     l.op:=by rw [h4];decide
   refine ⟨⟨rfl,fun _ h=>h,fun x hx=>List.mem_append_left _ hx⟩,fun _ _=>rfl,fun _=>⟨fun _=>by simp,fun h=>absurd h hp⟩,fun y hy=>?_⟩
   rcases List.mem_append.1 hy with hy | hy
   ·exact .inl hy
   ·exact .inr ⟨h4,by simpa using hy⟩
  ·rw [if_neg h4]
   by_cases h0:0<Ce l.op
   ·rw [if_pos h0];obtain ⟨a0,a1,a2,a3⟩:=m1 h0
    have key:∀ j,onU ((st.1.set l.a.toNat true).set l.b.toNat ((st.1.set l.a.toNat true).getD l.b.toNat false||decide (1<Ce l.op)),st.2) j =
     if l.b.toNat=j∧j<st.1.length then onU (st.1.set l.a.toNat true,st.2) l.b.toNat||decide (1<Ce l.op) else if l.a.toNat=j∧j<st.1.length then true else onU st j:=by
     intro j;rw [Nn (st.1.set l.a.toNat true,st.2) st.2,Nn st st.2];simp only [List.length_set]
     rfl
    have mono:∀ j,onU st j=true→onU (st.1.set l.a.toNat true,st.2) j=true:=fun j hj=>by
     rw [Nn];split
     ·rfl
     ·exact hj
    refine ⟨⟨by simp,fun j hj=>?_,fun x hx=>hx⟩,fun j hj=>?_,fun _=>⟨fun h=>absurd h h4,fun _=>⟨?_,fun h2=>?_⟩⟩,fun y hy=>.inl hy⟩
    ·rw [key]
     split
     ·rename_i c;rw [c.1,mono j hj];rfl
     ·split
      ·rfl
      ·exact hj
    ·rw [key]
     by_cases h2:1<Ce l.op
     ·have := a2 h2;rw [if_neg (by omega),if_neg (by omega)]
     ·have := a3 h2;rw [if_neg (by omega),if_neg (by omega)]
    ·rw [key]
     split
     ·rename_i c;rw [c.1,Nn,if_pos (by omega)];rfl
     ·rw [if_pos (by omega)]
    ·have := a2 h2;rw [key,if_pos (by omega)]
     simp [h2]
   ·rw [if_neg h0];exact ⟨.refl _,fun _ _=>rfl,fun _=>⟨fun h=>absurd h h4,fun h=>absurd h h0⟩,fun y hy=>.inl hy⟩
theorem Qp {ls:List Ln}{x u p:Int}(hm:∀ (j:Nat) l,ls[j]?=some l→Ff l j x u p=true):∀ (n:Nat) (st:List Bool × List Int),n≤ls.length→st.1.length=ls.length →
 (∀ j l,n≤j→ls[j]?=some l→onU st j=true→GoodU st l)→(∀ y∈st.2,∃ l∈ls,l.op=4∧y=l.a) →
 LeU st (Lj ls n st)∧(∀ j l,ls[j]?=some l→onU (Lj ls n st) j=true→GoodU (Lj ls n st) l)∧∀ y∈(Lj ls n st).2,∃ l∈ls,l.op=4∧y=l.a
 | 0,st,_,_,hi,hy=>⟨.refl _,fun j l=>hi j l (Nat.zero_le _),hy⟩
 | n + 1, st, hn, hl, hi, hy => by
   obtain ⟨l0,h0⟩:∃ l0,ls[n]?=some l0:=⟨_,List.getElem?_eq_getElem (by omega)⟩;obtain ⟨s1,s2,s3,s4⟩:=Xx hl h0 (hm n l0 h0);obtain ⟨r1,r2,r3⟩:=Qp hm n (J6 ls n st) (by omega) (s1.1.trans hl) (fun j l hj hjl ho=>by
    rw [s2 j hj] at ho
    by_cases e:j=n
    ·subst e;rw [h0] at hjl;cases hjl;exact s3 ho
    ·exact (hi j l (by omega) hjl ho).mono s1) (fun y q=>by
    rcases s4 y q with q | ⟨q4,rfl⟩
    ·exact hy y q
    ·exact ⟨l0,List.mem_of_getElem? h0,q4,rfl⟩)
   exact ⟨s1.trans r1,r2,r3⟩
def SameU (on:Nat→Bool) (a b:List RawI):Prop:=a.length=b.length∧∀ j,on j=true→a.getD j rzI=b.getD j rzI
theorem SameU.snoc {on:Nat→Bool}{a b:List RawI}(h:SameU on a b){x y:RawI}(hx:on a.length=true→x=y):SameU on (a++[x]) (b++[y]):=by
 obtain ⟨h1,h2⟩:=h;refine ⟨by simp [h1],fun j hj=>?_⟩;have h3:=h2 j hj;rw [List.getD_eq_getElem?_getD,List.getD_eq_getElem?_getD] at h3 ⊢
 by_cases c:j<a.length
 ·rwa [List.getElem?_append_left c,List.getElem?_append_left (by omega)]
 ·rw [List.getElem?_append_right (by omega), List.getElem?_append_right (by omega), ← h1]
  by_cases c2:j=a.length
  ·subst c2;rw [hx hj]
  ·rw [List.getElem?_eq_none (by simp;omega),List.getElem?_eq_none (by simp;omega)]
theorem Ab0 {ov:Iv→Nat→Outc Iv}{op:Int}{a a' b b':Iv}(ha:a=a')(hb:1<Ce op→b=b')(n:Nat):Ie ov op a b n=Ie ov op a' b' n:=by
 subst ha
 by_cases h2:1<Ce op
 ·rw [hb h2]
 ·unfold Ce     at h2;unfold Ie  ;have:¬(op=6∨op=7∨op=8∨op=9):=fun c=>by
   rw [if_neg (by omega),if_pos c] at h2;exact h2 (by decide)
  have n6:¬op=6:=by omega
  have n7:¬op=7:=by omega
  have n8:¬op=8:=by omega
  have n9:¬op=9:=by omega
  rw [if_neg n6,if_neg n7,if_neg n8,if_neg n9,if_neg n6,if_neg n7,if_neg n8,if_neg n9]
theorem Qv {ov:Iv→Nat→Outc Iv}{e f:En}{on:Nat→Bool}(ht:e.t=f.t)(hx:e.x=f.x)(hp:e.p=f.p){n:Nat}:∀ (ls:List Ln) (a b:List RawI),SameU on a b →
 (∀ j l,ls[j]?=some l→on (a.length+j)=true→(l.op=4→atI e.u l.a=atI f.u l.a)∧(0<Ce l.op→on l.a.toNat=true∧(1<Ce l.op→on l.b.toNat=true))∧(l.op=1∨l.op=2∨l.op=3∨l.op=4∨l.op=5∨0<Ce l.op)) →
 (Di ov e n a ls).k=0→(Di ov f n b ls).k=0→SameU on (Di ov e n a ls).v (Di ov f n b ls).v
 | [],a,b,h,_,_,_=>h
 | l :: ls, a, b, h, hc, h1, h2 => by
   rw [Di] at h1 h2 ⊢;rw [Di]
   split at h1
   ·rename_i k1
    split at h2
    ·rename_i k2
     rw [if_pos k1,if_pos k2];refine Qv ht hx hp ls _ _ (h.snoc fun ho=>?_) (fun j m hj ho=>?_) h1 h2
     ·obtain ⟨c4, c6, cs⟩ := hc 0 l rfl ho;have:Dj    ov e n a l=Dj    ov f n b l:=by
       unfold Dj;rw [ht,hx,hp]
       split
       ·rfl
       split
       ·rfl
       split
       ·rfl
       split
       ·rename_i q;rw [c4 q]
       split
       ·rfl
       have h6:0<Ce l.op:=by omega
       obtain ⟨oa,ob⟩:=c6 h6;exact Ab0 (congrArg RawI.iv (h.2 _ oa)) (fun q=>congrArg RawI.iv (h.2 _ (ob q))) n
      rw [this]
     ·have := hc (j + 1) m (by simpa using hj) (by simp only [List.length_append, List.length_singleton] at ho; rwa [show a.length + (j + 1) = a.length + 1 + j by omega]);exact this
    ·rename_i k2
     exact absurd h2 k2
   ·rename_i k1
    exact absurd h1 k1
theorem Ab2 {l:Ln}{i x u p:Int}(h:Ff l i x u p=true)(hx:x≤big)(hu:u≤big)(hp:p≤big):Ff l i big big big=true:=by
 unfold Ff Bz at h ⊢
 split
 ·rename_i c;rwa [if_pos c] at h
 rename_i c1
 rw [if_neg c1] at h
 split
 ·rename_i c;rw [if_pos c] at h;cases h
 rename_i c
 rw [if_neg c] at h
 split
 ·rename_i c;rwa [if_pos c] at h
 rename_i c
 rw [if_neg c] at h
 split
 ·rename_i c;rw [if_pos c] at h;simp at h ⊢;omega
 rename_i c
 rw [if_neg c] at h
 split
 ·rename_i c;rw [if_pos c] at h;simp at h ⊢;omega
 rename_i c
 rw [if_neg c] at h
 split
 ·rename_i c;rw [if_pos c] at h;simp at h ⊢;omega
 rename_i c
 rw [if_neg c] at h;exact h
theorem Va {ls:List Ln}{outs:List Int}{x u p:Int}(h:Ex ls outs x u p=true)(hx:x≤big)(hu:u≤big)(hp:p≤big):Ex ls outs big big big=true:=by
 unfold Ex at h ⊢;simp only [Bool.and_eq_true] at h ⊢;refine ⟨⟨h.1.1,(D8 _ _ _ _ _).2 fun j l hj=>Ab2 ((D8 _ _ _ _ _).1 h.1.2 j l hj) hx hu hp⟩,h.2⟩
theorem Sy {ls:List Ln}{outs:List Int}{x u p:Int}(h:Ex ls outs x u p=true){o:Nat}(ho:o<ls.length) :
 let st:=Lj ls ls.length ((List.replicate ls.length false).set o true,[])
 onU st o=true∧(∀ j l,ls[j]?=some l→onU st j=true→GoodU st l)∧∀ y∈st.2,∃ l∈ls,l.op=4∧y=l.a:=by
 have hm:∀ (j:Nat) l,ls[j]?=some l→Ff l j x u p=true:=fun j l hj=>by
  unfold Ex at h;simp only [Bool.and_eq_true] at h;have:=(D8 _ _ _ _ _).1 h.1.2 j l hj
  simpa using this
 obtain ⟨r1,r2,r3⟩:=Qp hm ls.length ((List.replicate ls.length false).set o true,[]) (Nat.le_refl _) (by simp) (fun j l hj hjl=>absurd (List.getElem?_eq_some_iff.1 hjl).1 (by omega)) (fun y hy=>by cases hy);refine ⟨r1.2.1 o ?_,r2,r3⟩;have:=Nn (List.replicate ls.length false,[]) [] o true o;rw [this,if_pos (by simpa using ho)]
theorem Afa {ls:List Ln}{outs:List Int}{x u p:Int}(h:Ex ls outs x u p=true)(k:Int):(Ic ls outs k).Pairwise (·<·)∧∀ y∈Ic ls outs k,0≤y∧y<u:=by
 unfold Ic
 split
 ·rename_i c
  obtain ⟨s1,s2⟩:=Nw (Tu ls (outs.getD k.toNat 0).toNat);refine ⟨s1,fun y hy=>?_⟩;have h1:=(s2 y).1 hy;have hm:=(Io h).2 (outs.getD k.toNat 0) (by
   rw [List.getD_eq_getElem?_getD,List.getElem?_eq_getElem (by omega),Option.getD_some];exact List.getElem_mem _)
  obtain ⟨-,-,r3⟩:=Sy h (o:=(outs.getD k.toNat 0).toNat) (by omega);obtain ⟨l,hl,h4,rfl⟩:=r3 y h1;obtain ⟨j,hj⟩:=List.getElem?_of_mem hl;unfold Ex at h;simp only [Bool.and_eq_true] at h;exact (Oa ((D8 _ _ _ _ _).1 h.1.2 j l hj)).2.1 h4
 ·exact ⟨.nil,fun y hy=>by cases hy⟩
theorem Aay {ov:Iv→Nat→Outc Iv}{ls:List Ln}{outs:List Int}{e f:En}{n:Nat}(h:(E8 ov ls outs e n).k=0)(h':(E8 ov ls outs f n).k=0)(ht:e.t=f.t)(hx:e.x=f.x)(hp:e.p=f.p)
 (lx:e.x.length≤1000) (lu:e.u.length≤1000) (lp:e.p.length≤1000) {k:Nat} (hu:∀ j:Nat,j≠k→e.u.getD j rzI=f.u.getD j rzI) {i:Nat} {z:Int} (hz:outs[i]?=some z) (hk:(k:Int)∉Ic ls outs i) :
 (E8 ov ls outs e n).v.getD z.toNat rzI=(E8 ov ls outs f n).v.getD z.toNat rzI:=by
 obtain ⟨h1,-,h3⟩:=Hg h;obtain ⟨-,-,h3'⟩:=Hg h';rw [h3] at h ⊢;rw [h3'] at h' ⊢;have hb:=Va h1.2.2.1 (by unfold big;omega) (by unfold big;omega) (by unfold big;omega);have hil:=(List.getElem?_eq_some_iff.1 hz).1;have hm:=(Io hb).2 z (List.mem_of_getElem? hz);have hzz:outs.getD (i:Int).toNat 0=z:=by rw [Int.toNat_natCast,List.getD_eq_getElem?_getD,hz];rfl
 unfold Ic at hk;rw [if_pos ⟨hb,by omega,by omega⟩,hzz] at hk;have hk2:(k:Int)∉Tu ls z.toNat:=fun q=>hk (((Nw _).2 _).2 q)
 obtain ⟨r1,r2,-⟩:=Sy hb (o:=z.toNat) (by omega);refine (Qv ht hx hp (on:=onU (Lj ls ls.length ((List.replicate ls.length false).set z.toNat true,[]))) ls [] [] ⟨rfl,fun _ _=>rfl⟩ (fun j l hj ho=>?_) h h').2 _ r1;simp only [List.length_nil,Nat.zero_add] at ho;obtain ⟨g1,g2⟩:=r2 j l hj ho;have hmj:Ff l j big big big=true:=by
  unfold Ex at hb;simp only [Bool.and_eq_true] at hb
  simpa using (D8 _ _ _ _ _).1 hb.1.2 j l hj
 obtain ⟨-,m2,m3⟩:=Oa hmj;refine ⟨fun h4=>?_,g2,m3⟩;have ha:=m2 h4;unfold atI;rw [hu l.a.toNat fun q=>hk2 (by
  have:=g1 h4;rw [show l.a=(k:Int) by omega] at this;exact this)]
end Go.Proofs.YtabjjdicffcolaaGreatDoor
namespace Go.Proofs.YtabjjdicffcolaaGreatDoor
open Go.Lib (hid)
open Go.RowKit
theorem Adv {a b:RawI}(h:N0 a b=true):a=b:=by
 obtain ⟨⟨n1,m1,e1⟩,n2,m2,e2⟩:=a;obtain ⟨⟨n3,m3,e3⟩,n4,m4,e4⟩:=b;unfold N0 Jj at h
 simp at h
 obtain ⟨⟨⟨rfl,rfl⟩,rfl⟩,⟨rfl,rfl⟩,rfl⟩:=h
 rfl
theorem Abq {op a b i x u p:Int}{k:RawI}(h:Ff ⟨op,a,b,k⟩ i x u p=true):(op=1∧Fz k=true∧a=0∧b=0)∨k=rzI∧((op=2∧a=0∧b=0)∨(op=3∧0≤a∧a<x∧b=0)∨(op=4∧0≤a∧a<u∧b=0)∨(op=5∧0≤a∧a<p∧b=0) ∨
 ((op=6∨op=7∨op=8∨op=9)∧0≤a∧a<i∧0≤b∧b<i)∨((op=10∨op=11∨op=12∨op=13)∧0≤a∧a<i∧b=0)):=by
 unfold Ff Bz at h;simp only at h
 by_cases c1:op=1
 ·rw [if_pos c1] at h;simp at h;exact .inl ⟨c1,h⟩
 rw [if_neg c1] at h
 by_cases cs:N0 k rzI=false
 ·rw [if_pos cs] at h;cases h
 rw [if_neg cs] at h;refine .inr ⟨Adv (by simpa using cs),?_⟩
 by_cases c2:op=2
 ·rw [if_pos c2] at h;simp at h;exact .inl ⟨c2,h⟩
 rw [if_neg c2] at h
 by_cases c3:op=3
 ·rw [if_pos c3] at h;simp at h;exact .inr (.inl ⟨c3,h.1.1,h.1.2,h.2⟩)
 rw [if_neg c3] at h
 by_cases c4:op=4
 ·rw [if_pos c4] at h;simp at h;exact .inr (.inr (.inl ⟨c4,h.1.1,h.1.2,h.2⟩))
 rw [if_neg c4] at h
 by_cases c5:op=5
 ·rw [if_pos c5] at h;simp at h;exact .inr (.inr (.inr (.inl ⟨c5,h.1.1,h.1.2,h.2⟩)))
 rw [if_neg c5] at h
 by_cases c6:op=6∨op=7∨op=8∨op=9
 ·rw [if_pos c6] at h;simp at h;exact .inr (.inr (.inr (.inr (.inl ⟨c6,h.1.1,h.1.2,h.2.1,h.2.2⟩))))
 rw [if_neg c6] at h
 by_cases c7:op=10∨op=11∨op=12∨op=13
 ·rw [if_pos c7] at h;simp at h;exact .inr (.inr (.inr (.inr (.inr ⟨c7,h.1.1,h.1.2,h.2⟩))))
 ·rw [if_neg c7] at h;cases h
theorem Ai4 {w:World}{v:Value}(hv:IvR w v rzI):Calls Tryz.prog 105 #[v] w (RetK (.bool true) w):=by
 have S:=hid (fun w1 (k:Kept w w1)=>Wc (hv.kept k) (Ho w1) ⟨by decide,by decide⟩);obtain ⟨A,l,c,A',l',c',rfl,-,-⟩:=Az hv;obtain ⟨W,hW,kW,BI⟩:=Aee w (.bool rzI.lo.neg) (.slice A l c) (.int .i64 rzI.lo.e) (.bool rzI.hi.neg) (.slice A' l' c') (.int .i64 rzI.hi.e);have HW:=hid hW;have K:=hid kW;have HB:=hid BI;clear hW kW BI hv
 go_enter Tryz.func105,Tryz.ntmps105
 go_upto_region 1 with fail
 rw [←HW.out];obtain ⟨-,c0,c1,c2,c3,c4,c5⟩:=HB.out.facts;go_wp2_with fail;refine (S.out _ K.out).mono ?_;rintro e w1 ⟨rfl,q⟩;simp only [];go_wp2_with fail;go_ret;exact ⟨rfl,K.out.trans q⟩
theorem Ajl {op:Int}(h:op=6∨op=7∨op=8∨op=9)(w:World):Calls Tryz.prog 106 #[.int .i64 op] w (RetK (.bool true) w):=by
 rcases h with rfl | rfl | rfl | rfl<;>(go_enter Tryz.func106,Tryz.ntmps106;go_wp2;go_ret;exact ⟨rfl,Below.refl _ _⟩)
theorem Ai3 {op:Int}(h:op=10∨op=11∨op=12∨op=13)(w:World):Calls Tryz.prog 106 #[.int .i64 op] w (RetK (.bool false) w):=by
 rcases h with rfl | rfl | rfl | rfl<;>(go_enter Tryz.func106,Tryz.ntmps106;go_wp2;go_ret;exact ⟨rfl,Below.refl _ _⟩)
theorem Akp {op:Int}(h:op=10∨op=11∨op=12∨op=13)(w:World):Calls Tryz.prog 107 #[.int .i64 op] w (RetK (.bool true) w):=by
 rcases h with rfl | rfl | rfl | rfl<;>(go_enter Tryz.func107,Tryz.ntmps107;go_wp2;go_ret;exact ⟨rfl,Below.refl _ _⟩)
theorem Ag2 {w:World}{v:Value}{ls:List Ln}{outs:List Int}{x u p:Int}(hv:TpR w v ls outs)(hok:Pg ls)(h:Ex ls outs x u p=true) :
 Calls Tryz.prog 68 #[v,.int .i64 x,.int .i64 u,.int .i64 p] w (RetK (.bool true) w):=by
 obtain ⟨s,o,rfl,hls,hou⟩:=hv;have HO:=hid hou;obtain ⟨A,c,rfl,hc,hA⟩:=hls;obtain ⟨B,d,rfl,hd,-⟩:=hou;have HA:=hid hA;have OK:=hid hok;have hmo:=(Io h).2;have HMO:=hid hmo;unfold Ex at h;simp only [Bool.and_eq_true,decide_eq_true_eq] at h;obtain ⟨⟨⟨h1,h2⟩,h3⟩,-⟩:=h;have HM:=hid (fun (j:Nat) l (hj:ls[j]?=some l)=>show Ff ⟨l.op,l.a,l.b,l.k⟩ (j:Int) x u p=true by
  have:=(D8 _ _ _ _ _).1 h3 j l hj
  rwa [Nat.zero_add] at this)
 obtain ⟨W,hW,kW,hb,lW⟩:=Ach w (.slice A ls.length c) (.slice B outs.length d);have HW:=hid hW;have K:=hid kW;have HB:=hid hb;obtain ⟨c0,c1⟩:=Cn hb;clear hA hok hW kW hb h3 hmo;obtain ⟨n,hn'⟩:∃ n,n=ls.length:=⟨_,rfl⟩;obtain ⟨no,hno'⟩:∃ n,n=outs.length:=⟨_,rfl⟩;rw [←hn'] at h1 hc HA HW HB HMO ⊢;rw [←hn'] at c0;rw [←hno'] at h2 hd HW HB ⊢;rw [←hno'] at c1;have HN:=hid hn';have HNO:=hid hno';clear hn' hno';have t1:decide ((200:Int)<(n:Int))=false:=by simp;omega
 have t2:decide ((200:Int)<(no:Int))=false:=by simp;omega
 go_enter Tryz.func68,Tryz.ntmps68
 go_upto_region 1 with fail
 rw [←HW.out];go_wp2_with fail;clear t1 t2 c0 c1
 go_loopw [9] (fun t wr=>∃ k:Nat,k≤n∧t=.int .i64 k∧Kept W wr) (fun t _=>(n-intOf t).toNat)
 case atStart=>exact ⟨0,Nat.zero_le _,rfl,Below.refl _ _⟩
 case round =>
  obtain ⟨k,hk,rfl,hKr⟩:=hrel;have KR:=hid hKr;obtain ⟨c0,c1⟩:=Cn (Ar HB.out hKr);clear hKr
  by_cases hlt:k<n
  ·obtain ⟨b, off, rfl, hd⟩ := HA.out (by omega);obtain ⟨l,hl⟩:∃ l,ls[k]?=some l:=⟨_,List.getElem?_eq_getElem (by have:=HN.out;omega)⟩;have hat:=(hd k l hl).kept (K.out.trans KR.out);obtain ⟨a0,a1,a2,y0,y1,y2,y3,y4,y5,g0,g1,g2,g3,g4,g5,hI⟩:=hat;obtain ⟨A1,l1,q1,A2,l2,q2,ei,-,-⟩:=Az        hI;injection ei with ei;injection ei with ei
   simp only [List.cons.injEq,and_true] at ei;obtain ⟨rfl,rfl,rfl,rfl,rfl,rfl⟩:=ei;have hcs:=Abq (HM.out k l hl);have ol:=(OK.out l (List.mem_of_getElem? hl)).2.2;have HI:=hid hI;have HL:=hid hlt;have HOL:=hid ol;clear hd hl hI ol;obtain ⟨V,hV,kV,hy,lV⟩:=Aix wr (.int .i64 l.op) (.int .i64 l.a) (.int .i64 l.b) (.bool l.k.lo.neg) (.slice A1 l1 q1) (.int .i64 l.k.lo.e) (.bool l.k.hi.neg) (.slice A2 l2 q2) (.int .i64 l.k.hi.e);have HV:=hid hV;have KV:=hid kV;have HY:=hid hy;clear hV kV hy
   go_upto_region 7 with fail
   rw [←HV.out];have KM:=hid (fun w1 (q:Kept V w1)=>Agx (HI.out.kept (KV.out.trans q)) HOL.out)
   have KN:Hid (l.k=rzI→∀ w1,Kept V w1→Calls Tryz.prog 105 #[.agg #[.bool l.k.lo.neg,.slice A1 l1 q1,.int .i64 l.k.lo.e,.bool l.k.hi.neg,.slice A2 l2 q2,.int .i64 l.k.hi.e]] w1 (RetK (.bool true) w1)) :=
    hid (fun e w1 q=>Ai4 (by rw [←e];exact HI.out.kept (KV.out.trans q)))
   clear a0 a1 a2 g0 g1 g2 g3 g4 g5 c0 c1 HI HOL;obtain ⟨d0,d1,d2,d3,d4,d5,d6,d7,d8⟩:=Be HY.out;generalize l.op=op at *;generalize l.a=a at *;generalize l.b=bb at *
   rcases hcs with ⟨rfl,hm,rfl,rfl⟩ | ⟨hz,hcs⟩
   ·rw [hm] at KM;clear hm KN;go_wp2_with fail;refine (KM.out _ (Below.refl _ _)).mono ?_;rintro e w2 ⟨rfl,q⟩;simp only [];clear d0 d1 d2 d3 d4 d5 d6 d7 d8;obtain ⟨d0,d1,d2,d3,d4,d5,d6,d7,d8⟩:=Be       (Ar       HY.out q);have KX:=hid (KR.out.trans (KV.out.trans q));clear q;go_wp2_with fail
    go_roundw
    case rel=>exact ⟨k+1,by have:=HL.out;omega,by have:=HL.out;go_num,KX.out⟩
    case measure=>simp only [intOf];have:=HL.out;omega
   ·replace KN := hid (KN.out hz);clear hz KM
    rcases hcs with ⟨rfl,rfl,rfl⟩ | ⟨rfl,e1,e2,rfl⟩ | ⟨rfl,e1,e2,rfl⟩ | ⟨rfl,e1,e2,rfl⟩ | ⟨ho,e1,e2,e3,e4⟩ | ⟨ho,e1,e2,rfl⟩
    ·skip
     go_wp2_with fail;refine (KN.out _ (Below.refl _ _)).mono ?_;rintro e w2 ⟨rfl,q⟩;simp only [];clear d0 d1 d2 d3 d4 d5 d6 d7 d8;obtain ⟨d0,d1,d2,d3,d4,d5,d6,d7,d8⟩:=Be (Ar HY.out q);replace HY:=hid (Ar HY.out q);have KX:=hid (KR.out.trans (KV.out.trans q));clear q KN;go_wp2_with fail
     go_roundw
     case rel=>exact ⟨k+1,by have:=HL.out;omega,by have:=HL.out;go_num,KX.out⟩
     case measure=>simp only [intOf];have:=HL.out;omega
    ·have f1 : decide ((0 : Int) ≤ a) = true := by simp [e1]
     have f2:decide (a<x)=true:=by simp [e2]
     clear e1 e2;go_wp2_with fail;refine (KN.out _ (Below.refl _ _)).mono ?_;rintro e w2 ⟨rfl,q⟩;simp only [];clear d0 d1 d2 d3 d4 d5 d6 d7 d8;obtain ⟨d0,d1,d2,d3,d4,d5,d6,d7,d8⟩:=Be (Ar HY.out q);replace HY:=hid (Ar HY.out q);have KX:=hid (KR.out.trans (KV.out.trans q));clear q KN;go_wp2_with fail
     go_roundw
     case rel=>exact ⟨k+1,by have:=HL.out;omega,by have:=HL.out;go_num,KX.out⟩
     case measure=>simp only [intOf];have:=HL.out;omega
    ·have f1 : decide ((0 : Int) ≤ a) = true := by simp [e1]
     have f2:decide (a<u)=true:=by simp [e2]
     clear e1 e2;go_wp2_with fail;refine (KN.out _ (Below.refl _ _)).mono ?_;rintro e w2 ⟨rfl,q⟩;simp only [];clear d0 d1 d2 d3 d4 d5 d6 d7 d8;obtain ⟨d0,d1,d2,d3,d4,d5,d6,d7,d8⟩:=Be (Ar HY.out q);replace HY:=hid (Ar HY.out q);have KX:=hid (KR.out.trans (KV.out.trans q));clear q KN;go_wp2_with fail
     go_roundw
     case rel=>exact ⟨k+1,by have:=HL.out;omega,by have:=HL.out;go_num,KX.out⟩
     case measure=>simp only [intOf];have:=HL.out;omega
    ·have f1 : decide ((0 : Int) ≤ a) = true := by simp [e1]
     have f2:decide (a<p)=true:=by simp [e2]
     clear e1 e2;go_wp2_with fail;refine (KN.out _ (Below.refl _ _)).mono ?_;rintro e w2 ⟨rfl,q⟩;simp only [];clear d0 d1 d2 d3 d4 d5 d6 d7 d8;obtain ⟨d0,d1,d2,d3,d4,d5,d6,d7,d8⟩:=Be (Ar HY.out q);replace HY:=hid (Ar HY.out q);have KX:=hid (KR.out.trans (KV.out.trans q));clear q KN;go_wp2_with fail
     go_roundw
     case rel=>exact ⟨k+1,by have:=HL.out;omega,by have:=HL.out;go_num,KX.out⟩
     case measure=>simp only [intOf];have:=HL.out;omega
    ·have f1 : decide ((0 : Int) ≤ a) = true := by simp [e1]
     have f2:decide (a<(k:Int))=true:=by simp [e2]
     have f3:decide ((0:Int)≤bb)=true:=by simp [e3]
     have f4:decide (bb<(k:Int))=true:=by simp [e4]
     have BC:=hid (Ajl ho);clear e1 e2 e3 e4;have g2:(op==2)=false:=by simp;omega
     have g1:(op==1)=false:=by simp;omega
     have g3:(op==3)=false:=by simp;omega
     have g4:(op==4)=false:=by simp;omega
     have g5:(op==5)=false:=by simp;omega
     clear ho;go_wp2_with fail;refine (KN.out _ (Below.refl _ _)).mono ?_;rintro e w2 ⟨rfl,q⟩;simp only [];clear d0 d1 d2 d3 d4 d5 d6 d7 d8;obtain ⟨d0,d1,d2,d3,d4,d5,d6,d7,d8⟩:=Be (Ar HY.out q);replace HY:=hid (Ar HY.out q);have KX:=hid (KR.out.trans (KV.out.trans q));clear q KN;go_wp2_with fail;refine (BC.out _).mono ?_;rintro e w3 ⟨rfl,q⟩;simp only [];clear d0 d1 d2 d3 d4 d5 d6 d7 d8;obtain ⟨d0,d1,d2,d3,d4,d5,d6,d7,d8⟩:=Be (Ar HY.out q);replace HY:=hid (Ar HY.out q);replace KX:=hid (KX.out.trans q);clear q;go_wp2_with fail
     go_roundw
     case rel=>exact ⟨k+1,by have:=HL.out;omega,by have:=HL.out;go_num,KX.out⟩
     case measure=>simp only [intOf];have:=HL.out;omega
    ·have f1 : decide ((0 : Int) ≤ a) = true := by simp [e1]
     have f2:decide (a<(k:Int))=true:=by simp [e2]
     have BC:=hid (Ai3 ho);have UC:=hid (Akp ho);clear e1 e2;have g2:(op==2)=false:=by simp;omega
     have g1:(op==1)=false:=by simp;omega
     have g3:(op==3)=false:=by simp;omega
     have g4:(op==4)=false:=by simp;omega
     have g5:(op==5)=false:=by simp;omega
     clear ho;go_wp2_with fail;refine (KN.out _ (Below.refl _ _)).mono ?_;rintro e w2 ⟨rfl,q⟩;simp only [];clear d0 d1 d2 d3 d4 d5 d6 d7 d8;obtain ⟨d0,d1,d2,d3,d4,d5,d6,d7,d8⟩:=Be (Ar HY.out q);replace HY:=hid (Ar HY.out q);have KX:=hid (KR.out.trans (KV.out.trans q));clear q KN;go_wp2_with fail;refine (BC.out _).mono ?_;rintro e w3 ⟨rfl,q⟩;simp only [];clear d0 d1 d2 d3 d4 d5 d6 d7 d8;obtain ⟨d0,d1,d2,d3,d4,d5,d6,d7,d8⟩:=Be (Ar HY.out q);replace HY:=hid (Ar HY.out q);replace KX:=hid (KX.out.trans q);clear q;go_wp2_with fail;refine (UC.out _).mono ?_;rintro e w3 ⟨rfl,q⟩
     simp only [];clear d0 d1 d2 d3 d4 d5 d6 d7 d8;obtain ⟨d0,d1,d2,d3,d4,d5,d6,d7,d8⟩:=Be (Ar HY.out q);replace HY:=hid (Ar HY.out q);replace KX:=hid (KX.out.trans q);clear q;go_wp2_with fail
     go_roundw
     case rel=>exact ⟨k+1,by have:=HL.out;omega,by have:=HL.out;go_num,KX.out⟩
     case measure=>simp only [intOf];have:=HL.out;omega
  ·obtain rfl : k = n := by omega
   clear c0 c1;obtain ⟨c0,c1⟩:=Cn (Ar HB.out KR.out);go_wp2_with fail;clear c0 c1;have HNL:=hid h2
   go_loopw [12] (fun t wr'=>∃ i:Nat,i≤no∧t=.int .i64 i∧Kept W wr') (fun t _=>(no-intOf t).toNat)
   case atStart=>exact ⟨0,Nat.zero_le _,rfl,KR.out⟩
   case round =>
    obtain ⟨i,hi,rfl,hKr⟩:=hrel;have KS:=hid hKr;obtain ⟨c0,c1⟩:=Cn (Ar HB.out hKr);clear hKr
    by_cases hin:i<no
    ·obtain ⟨z, hz⟩ : ∃ z, outs[i]? = some z := ⟨_, List.getElem?_eq_getElem (by have := HNO.out; omega)⟩;obtain ⟨z1,z2⟩:=HMO.out z (List.mem_of_getElem? hz);obtain ⟨B',d',eo,-,hBo⟩:=HO.out.kept (K.out.trans KS.out);injection eo with eo1 eo2 eo3
     subst eo1;obtain ⟨bo,oo,rfl,ho⟩:=hBo (by have:=HNO.out;omega);have CO:=hid (ho i _ hz);have HI:=hid hin;have f1:decide (z<0)=false:=by simp;omega
     have f2:decide ((k:Int)≤z)=false:=by simp;omega
     have F1:=hid f1;have F2:=hid f2;have HBS:=hid (Ar HB.out KS.out);clear eo2 eo3 hBo ho hz z1 z2 c0 c1 f1 f2;obtain ⟨c0,c1⟩:=Cn HBS.out;go_wp2_with fail;clear c0 c1
     refine Bk (m:=17) (V:=VL [(vP w.heap.size 1),(vE (.slice (some ⟨bo,oo,none⟩) no d)),(vE (.int .i64 (i:Int))),(vE (.pointer (some ⟨bo,oo+i,none⟩))),(vE (.int .i64 z)),(vE (.bool false)),(vE (.bool false)),(vP w.heap.size 1),(vE (.slice (some ⟨bo,oo,none⟩) no d)),(vE (.int .i64 (i:Int))),(vE (.pointer (some ⟨bo,oo+i,none⟩))),(vE (.int .i64 z)),(vP w.heap.size 0),(vE (.slice A k c)),(vE (.int .i64 (k:Int))),(vE (.bool false)),(vE (.bool false))])
      (by kernel_rfl) rfl (by kernel_rfl) (by kernel_rfl) (by kernel_rfl) (Au _ ⟨mE,mE,mE,mE,mE,mE,mE,mE,mE,mE,mE,mE,mE,mE,mE,mE,mE,trivial⟩) (Al ⟨
        (fun aF wF F=>by have s4:aF.tmps.getD 4 undef=(.pointer (some ⟨w.heap.size,0,none⟩)):=F.o 4;exact sv rfl),(fun aF wF F=>by have s174:=F.v 0 174;have c0:=Ad HBS.out F.kept 1 _ rfl;exact sv rfl),(fun aF wF F=>by have s12:aF.tmps.getD 12 undef=(.int .i64 (i:Int)):=F.o 12;exact sv rfl),(fun aF wF F=>by have s175:=F.v 1 175;have s176:=F.v 2 176;exact sw (by (have hi9:=HI.out;first | (go_simp;done) | (go_simp;omega))) rfl),(fun aF wF F=>by have s177:=F.v 3 177;exact sw (by (have n0:=(F.kept.cell (p:=⟨bo,oo+i,none⟩) (Ax CO.out)).trans CO.out;go_simp)) rfl),(fun aF wF F=>by have s178:=F.v 4 178;exact sw (by (have f9:=F1.out;go_simp)) rfl),(fun aF wF F=>by have s179:=F.v 5 179;exact sv rfl),(fun aF wF F=>by have s4:aF.tmps.getD 4 undef=(.pointer (some ⟨w.heap.size,0,none⟩)):=F.o 4;have sg:=F.v 6 180;exact Ah ((Ab rfl rfl sg).trans rfl) (by go_simp) rfl),(fun aF wF F=>by have s181:=F.v 7 181;have c0:=Ad HBS.out F.kept 1 _ rfl;have sg:=F.v 6 180;exact Ah ((Ab rfl rfl sg).trans rfl) (by go_simp) rfl),(fun aF wF F=>by have s12:aF.tmps.getD 12 undef=(.int .i64 (i:Int)):=F.o 12;have sg:=F.v 6 180;exact Ah ((Ab rfl rfl sg).trans rfl) (by go_simp) rfl),(fun aF wF F=>by have s182:=F.v 8 182;have s183:=F.v 9 183;have sg:=F.v 6 180;exact Ah ((Ab rfl rfl sg).trans rfl) (by (have hi9:=HI.out;first | (go_simp;done) | (go_simp;omega))) rfl),(fun aF wF F=>by have s184:=F.v 10 184;have sg:=F.v 6 180;exact Ah ((Ab rfl rfl sg).trans rfl) (by (have n0:=(F.kept.cell (p:=⟨bo,oo+i,none⟩) (Ax CO.out)).trans CO.out;go_simp)) rfl),(fun aF wF F=>by have s4:aF.tmps.getD 4 undef=(.pointer (some ⟨w.heap.size,0,none⟩)):=F.o 4;have sg:=F.v 6 180;exact Ah ((Ab rfl rfl sg).trans rfl) (by go_simp) rfl),(fun aF wF F=>by have s186:=F.v 12 186;have c0:=Ad HBS.out F.kept 0 _ rfl;have sg:=F.v 6 180;exact Ah ((Ab rfl rfl sg).trans rfl) (by go_simp) rfl),(fun aF wF F=>by have s187:=F.v 13 187;have sg:=F.v 6 180;exact Ah ((Ab rfl rfl sg).trans rfl) (by go_simp) rfl),(fun aF wF F=>by have s185:=F.v 11 185;have s188:=F.v 14 188;have sg:=F.v 6 180;exact Ah ((Ab rfl rfl sg).trans rfl) (by (have f9:=F2.out;go_simp)) rfl),(fun aF wF F=>by have s180:=F.v 6 180;have s189:=F.v 15 189;exact sv rfl),
        trivial⟩) ?_
     intro u w7 q hu;simp only [Bc,Am,if_true,Act.put,z1,z2,z3,z4,z5,z6,z7,hv hu 0,hv hu 1,hv hu 2,hv hu 3,hv hu 4,hv hu 5,hv hu 6,hv hu 7,hv hu 8,hv hu 9,hv hu 10,hv hu 11,hv hu 12,hv hu 13,hv hu 14,hv hu 15,hv hu 16];clear hu;have KX:=hid (KS.out.trans q);clear q;go_wp2_with fail
     go_roundw
     case rel=>exact ⟨i+1,by have:=HI.out;omega,by have:=HI.out;have:=HNL.out;go_num,KX.out⟩
     case measure=>simp only [intOf];have:=HI.out;omega
    ·obtain rfl : i = no := by omega
     go_wp2_with fail;go_ret;exact ⟨rfl,K.out.trans KS.out⟩
theorem Agy {w:World}{v:Value}{ls:List Ln}{outs:List Int}(hv:TpR w v ls outs)(hok:Pg ls)(h:Ex ls outs big big big=true) :
 Calls Tryz.prog 32 #[v] w (RetK (.bool true) w):=by
 have R:=hid (fun w1 (k:Kept w w1)=>show Calls Tryz.prog 68 #[v,.int .i64 9223372036854775807,.int .i64 9223372036854775807,.int .i64 9223372036854775807] w1 (RetK (.bool true) w1) from Ag2 (hv.kept k) hok h);obtain ⟨s,o,rfl,hls,hou⟩:=hv;obtain ⟨A,c,rfl,hc,-⟩:=hls;obtain ⟨B,d,rfl,hd,-⟩:=hou;obtain ⟨W,hW,kW,hb,lW⟩:=Ach w (.slice A ls.length c) (.slice B outs.length d);have HW:=hid hW;have K:=hid kW;obtain ⟨c0,c1⟩:=Cn hb;clear hW kW hb h hok
 go_enter Tryz.func32,Tryz.ntmps32
 go_upto_region 1 with fail
 rw [←HW.out];go_wp2_with fail;refine (R.out _ K.out).mono ?_;rintro e w1 ⟨rfl,q⟩;simp only [];clear c0 c1;go_wp2_with fail;go_ret;exact ⟨rfl,K.out.trans q⟩
end Go.Proofs.YtabjjdicffcolaaGreatDoor
