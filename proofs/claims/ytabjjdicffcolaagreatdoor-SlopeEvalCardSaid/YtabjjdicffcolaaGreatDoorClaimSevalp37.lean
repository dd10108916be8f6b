/- Words and contracts, part 37. -/
import Derived.Test.YtabjjdicffcolaaGreatDoorClaimSevalp32
import Derived.Lib.SlicesCompact
set_option maxRecDepth 100000
set_option maxHeartbeats 0
namespace Go.Proofs.YtabjjdicffcolaaGreatDoor
open Go.Lib
end Go.Proofs.YtabjjdicffcolaaGreatDoor
namespace Go.Proofs.YtabjjdicffcolaaGreatDoor
open Go.Lib
theorem Abm {l:Ln}{i x u p:Int}(h:Fu l i x u p=true) :
 (0<E2 l.op→0≤l.a∧l.a<i∧(1<E2 l.op→0≤l.b∧l.b<i)∧(¬1<E2 l.op→l.b=0))∧(l.op=4→0≤l.a∧l.a<u)∧(l.op=1∨l.op=2∨l.op=3∨l.op=4∨l.op=5∨0<E2 l.op):=by
 unfold Fu Bv at h;unfold E2;by_cases c0:l.op=1∨l.op=2∨l.op=3∨l.op=5
 ·have n0:l.op=1∨l.op=2∨l.op=3∨l.op=4∨l.op=5:=by omega
  rw [if_pos n0];exact ⟨fun h=>absurd h (by decide),fun h=>by omega,by omega⟩
 have n1:¬l.op=1:=by omega
 have n2:¬l.op=2:=by omega
 have n3:¬l.op=3:=by omega
 have n5:¬l.op=5:=by omega
 rw [if_neg n1] at h;by_cases cs:Th l.k rzI=false
 ·rw [if_pos cs] at h;cases h
 rw [if_neg cs,if_neg n2,if_neg n3] at h;by_cases c4:l.op=4
 ·have n0:l.op=1∨l.op=2∨l.op=3∨l.op=4∨l.op=5:=by omega
  rw [if_pos n0];rw [if_pos c4] at h;simp at h;exact ⟨fun h=>absurd h (by decide),fun _=>h.1,by omega⟩
 have n0:¬(l.op=1∨l.op=2∨l.op=3∨l.op=4∨l.op=5):=by omega
 rw [if_neg n0];rw [if_neg c4,if_neg n5] at h;by_cases c6:l.op=6∨l.op=7∨l.op=8∨l.op=9
 ·rw [if_pos c6] at h ⊢;simp at h;exact ⟨fun _=>⟨h.1.1,h.1.2,fun _=>h.2,fun h=>absurd (show (1:Int)<2 by decide) h⟩,fun h=>absurd h c4,.inr (.inr (.inr (.inr (.inr (by decide)))))⟩
 ·rw [if_neg c6] at h ⊢;by_cases c7:l.op=10∨l.op=11∨l.op=12∨l.op=13
  ·rw [if_pos c7] at h ⊢;simp at h;exact ⟨fun _=>⟨h.1.1,h.1.2,fun h=>absurd h (by decide),fun _=>h.2⟩,fun h=>absurd h c4,.inr (.inr (.inr (.inr (.inr (by decide)))))⟩
  ·rw [if_neg c7] at h;cases h
def onU (st:List Bool × List Int) (j:Nat):Bool:=st.1.getD j false
def GoodU (st:List Bool × List Int) (l:Ln):Prop:=(l.op=4→l.a∈st.2)∧(0<E2 l.op→onU st l.a.toNat=true∧(1<E2 l.op→onU st l.b.toNat=true))
def LeU (st st':List Bool × List Int):Prop:=st'.1.length=st.1.length∧(∀ j,onU st j=true→onU st' j=true)∧∀ x∈st.2,x∈st'.2
theorem LeU.refl (st:List Bool × List Int):LeU st st:=⟨rfl,fun _ h=>h,fun _ h=>h⟩
theorem LeU.trans {a b c:List Bool × List Int}(h:LeU a b)(k:LeU b c):LeU a c:=⟨k.1.trans h.1,fun j q=>k.2.1 j (h.2.1 j q),fun x q=>k.2.2 x (h.2.2 x q)⟩
theorem GoodU.mono {st st':List Bool × List Int}{l:Ln}(h:GoodU st l)(k:LeU st st'):GoodU st' l :=
 ⟨fun q=>k.2.2 _ (h.1 q),fun q=>⟨k.2.1 _ (h.2 q).1,fun r=>k.2.1 _ ((h.2 q).2 r)⟩⟩
def SameU (on:Nat→Bool) (a b:List RawI):Prop:=a.length=b.length∧∀ j,on j=true→a.getD j rzI=b.getD j rzI
theorem SameU.snoc {on:Nat→Bool}{a b:List RawI}(h:SameU on a b){x y:RawI}(hx:on a.length=true→x=y):SameU on (a++[x]) (b++[y]):=by
 obtain ⟨h1,h2⟩:=h;refine ⟨by simp [h1],fun j hj=>?_⟩;have h3:=h2 j hj;rw [List.getD_eq_getElem?_getD,List.getD_eq_getElem?_getD] at h3 ⊢;by_cases c:j<a.length
 ·rwa [List.getElem?_append_left c,List.getElem?_append_left (by omega)]
 ·rw [List.getElem?_append_right (by omega),List.getElem?_append_right (by omega),←h1];by_cases c2:j=a.length
  ·subst c2;rw [hx hj]
  ·rw [List.getElem?_eq_none (by simp;omega),List.getElem?_eq_none (by simp;omega)]
end Go.Proofs.YtabjjdicffcolaaGreatDoor
namespace Go.Proofs.YtabjjdicffcolaaGreatDoor
theorem W6 {p:Nat}{op:Int}{a b c:Iv}:∀ (l m:List RawI) (e:Int),(Ld p op a b c l m e).1.length=min l.length m.length
 | [],_,_=>by simp [Ld]
 | _::_,[],_=>by simp [Ld]
 | x :: l, y :: m, e => by
   simp only [Ld,List.length_cons,W6 l m];omega
theorem Xx {p nx:Nat}{v:List RawI}{all:List (List RawI)}{l:Ln}{x u q:Int}(hm:Fu l all.length x u q=true)(ha:∀ r∈all,r.length=nx):(Dw p nx v all l).1.length=nx:=by
 obtain ⟨m1,-,m3⟩:=Abm hm;have at':∀ n:Int,0≤n→n<all.length→(all.getD n.toNat []).length=nx:=fun n h0 h1=>by
  rw [List.getD_eq_getElem?_getD,List.getElem?_eq_getElem (by omega),Option.getD_some];exact ha _ (List.getElem_mem _)
 unfold Dw;split
 ·simp
 split
 ·simp
 rename_i c1 c2;have h6:0<E2 l.op:=by omega
 obtain ⟨a0,a1,a2,a3⟩:=m1 h6;rw [W6,at' _ a0 a1];by_cases h2:1<E2 l.op
 ·obtain ⟨b0,b1⟩:=a2 h2;rw [at' _ b0 b1];omega
 ·have:=a3 h2;rw [at' l.b (by omega) (by omega)];omega
theorem S6 {p nx:Nat}{v:List RawI}{x u q:Int}:∀ (ls:List Ln) (all:List (List RawI)),(∀ (j:Nat) l,ls[j]?=some l→Fu l ((all.length+j:Nat):Int) x u q=true)→(∀ r∈all,r.length=nx)→(Dh p nx v all ls).k=0 →
 (Dh p nx v all ls).v.length=all.length+ls.length∧∀ r∈(Dh p nx v all ls).v,r.length=nx
 | [],all,_,ha,_=>⟨rfl,ha⟩
 | l :: ls, all, hm, ha, hk => by
   unfold Dh at hk ⊢;split at hk
   ·rename_i h0;rw [if_pos h0];have hl:=Xx (p:=p) (v:=v) (hm 0 l rfl) ha;obtain ⟨r1,r2⟩:=S6 ls (all++[(Dw p nx v all l).1]) (fun j m hj=>by
     have:=hm (j+1) m (by simpa using hj);simp only [List.length_append,List.length_singleton];rwa [show all.length+1+j=all.length+(j+1) by omega]) (fun r hr=>by
     rcases List.mem_append.1 hr with hr | hr
     ·exact ha r hr
     ·rw [List.mem_singleton.1 hr];exact hl) hk
    refine ⟨?_,r2⟩;rw [r1];simp;omega
   ·rename_i h0;exact absurd hk h0
end Go.Proofs.YtabjjdicffcolaaGreatDoor
