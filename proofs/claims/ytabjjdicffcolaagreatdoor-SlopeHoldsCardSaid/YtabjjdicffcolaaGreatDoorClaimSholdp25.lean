/- Words and contracts, part 25. -/
import Derived.Test.YtabjjdicffcolaaGreatDoorClaimSholdp24
import Derived.Lib.SlicesCompact
set_option maxRecDepth 100000
set_option maxHeartbeats 0
namespace Go.Proofs.YtabjjdicffcolaaGreatDoor
open Go.RowKit
variable {e f:En} {p u x:Int} {outs:List Int} {ls:List Ln} {out out':List RawI} {l:Ln} {m n:Nat}
theorem Sq (ov:Iv→Nat→Outc Iv)(e:En)(p:Nat):∀ (ls:List Ln) (out:List RawI),(Ca ov e p out ls).k=0→(Ca ov e p out ls).v.length=out.length+ls.length
 | [],out,_=>rfl
 | l :: ls, out, h => by
   rw [Ca] at h ⊢;by_cases hk:(Ch ov e p out l).k=0
   ·rw [if_pos hk] at h ⊢;rw [Sq ov e p ls _ h];simp;omega
   ·rw [if_neg hk] at h;exact absurd h hk
theorem Ic {ov:Iv→Nat→Outc Iv}(h:(Cm ov ls outs e p).k=0) :
 (1≤p∧p≤300∧Jt ls outs e.x.length e.u.length e.p.length=true∧Mr e=true)∧(Cm ov ls outs e p).v.length=ls.length∧Cm ov ls outs e p=Ca ov e p.toNat [] ls:=by
 unfold Cm at h ⊢;by_cases hg:1≤p∧p≤300∧Jt ls outs e.x.length e.u.length e.p.length=true∧Mr e=true
 ·rw [if_pos hg] at h ⊢;refine ⟨hg,?_,rfl⟩;rw [Sq _ _ _ _ _ h];simp
 ·rw [if_neg hg] at h;cases h
theorem Uy (h:Jt ls outs x u p=true):outs.length≤200∧∀ n∈outs,0≤n∧n<ls.length:=by
 unfold Jt at h;simp only [Bool.and_eq_true,decide_eq_true_eq,List.all_eq_true] at h;refine ⟨h.1.1.2,fun n hn=>?_⟩;have:=h.2 n hn;unfold Bw at this;simpa using this
def LW (l m:List RawI):Prop:=l.length=m.length∧∀ n:Int,Wth (atI l n) (atI m n)
structure EnW (e f:En):Prop where
 t:Wth e.t.iv f.t.iv
 x:LW e.x f.x
 u:LW e.u f.u
 p:LW e.p f.p
theorem LW.refl (l:List RawI):LW l l:=⟨rfl,fun _=>Wth.refl _⟩
theorem EnW.refl (e:En):EnW e e:=⟨Wth.refl _,LW.refl _,LW.refl _,LW.refl _⟩
theorem LW.snoc {l m:List RawI}(h:LW l m){a b:Iv}(w:Wth a b):LW (l++[a.raw]) (m++[b.raw]):=by
 refine ⟨by simp [h.1],fun n=>?_⟩;have h2:=h.2 n;unfold atI at h2 ⊢;rw [List.getD_eq_getElem?_getD,List.getD_eq_getElem?_getD] at h2 ⊢;by_cases h3:n.toNat<l.length
 ·rw [List.getElem?_append_left h3,List.getElem?_append_left (by rw [←h.1];exact h3)];exact h2
 ·rw [List.getElem?_append_right (by omega),List.getElem?_append_right (by rw [←h.1];omega),←h.1];by_cases h4:n.toNat-l.length=0
  ·rw [h4]
   show Wth a.raw.iv b.raw.iv
   rw [Iv.raw_iv,Iv.raw_iv];exact w
  ·rw [List.getElem?_eq_none (by simp;omega),List.getElem?_eq_none (by simp;omega)];exact Wth.refl _
theorem Af1 (ho:Cl out)(ho':Cl out')(w:EnW e f)(wo:LW out out')(hm:1≤m)(hn:m≤n)
 (h1:(Ch ovI e n out l).k=0) (h2:(Ch ovI f m out' l).k=0):Wth (Ch ovI e n out l).v (Ch ovI f m out' l).v:=by
 unfold Ch at h1 h2 ⊢;by_cases c1:l.op=1
 ·simp only [if_pos c1] at h1 h2 ⊢;exact Hr hm hn (Wth.refl _) h1 h2
 by_cases c2:l.op=2
 ·simp only [if_neg c1,if_pos c2] at h1 h2 ⊢;exact Hr hm hn w.t h1 h2
 by_cases c3:l.op=3
 ·simp only [if_neg c1,if_neg c2,if_pos c3] at h1 h2 ⊢;exact Hr hm hn (w.x.2 _) h1 h2
 by_cases c4:l.op=4
 ·simp only [if_neg c1,if_neg c2,if_neg c3,if_pos c4] at h1 h2 ⊢;exact Hr hm hn (w.u.2 _) h1 h2
 by_cases c5:l.op=5
 ·simp only [if_neg c1,if_neg c2,if_neg c3,if_neg c4,if_pos c5] at h1 h2 ⊢;exact Hr hm hn (w.p.2 _) h1 h2
 ·simp only [if_neg c1,if_neg c2,if_neg c3,if_neg c4,if_neg c5] at h1 h2 ⊢;exact Afr (ho.at _) (ho.at _) (ho'.at _) (ho'.at _) hm hn (wo.2 _) (wo.2 _) h1 h2
theorem Af0 (ho:Cl out)(wo:LW out out')(n1:1≤n)(n2:n≤300)
 (h2:(Ch ovI f m out' l).k=0):Lmb (Ch ovI e n out l).k:=by
 unfold Ch at h2 ⊢;by_cases c1:l.op=1
 ·simp only [if_pos c1];exact Kz _ _
 by_cases c2:l.op=2
 ·simp only [if_neg c1,if_pos c2];exact Kz _ _
 by_cases c3:l.op=3
 ·simp only [if_neg c1,if_neg c2,if_pos c3];exact Kz _ _
 by_cases c4:l.op=4
 ·simp only [if_neg c1,if_neg c2,if_neg c3,if_pos c4];exact Kz _ _
 by_cases c5:l.op=5
 ·simp only [if_neg c1,if_neg c2,if_neg c3,if_neg c4,if_pos c5];exact Kz _ _
 ·simp only [if_neg c1,if_neg c2,if_neg c3,if_neg c4,if_neg c5] at h2 ⊢;exact Ajl (ho.at _) n1 n2 (wo.2 _) (wo.2 _) h2
theorem Wg (he:e.Cl)(ho:Cl out)(hk:l.op=1→l.k.iv.Ok)(n1:1≤n)(n2:n≤300):Cl (out++[(Ch ovI e n out l).v.raw]) :=
 ho.snoc (Ya he ho hk n1 (fun _ a ha=>Agw a n ha n1 n2)).1
theorem Ux {e f:En}(he:e.Cl)(hf:f.Cl)(w:EnW e f){n m:Nat}(hm:1≤m)(hn:m≤n)(n2:n≤300):∀ (ls:List Ln) (out out':List RawI),(∀ l∈ls,l.op=1→l.k.iv.Ok)→Cl out→Cl out'→LW out out' →
 (Ca ovI f m out' ls).k=0→Lmb (Ca ovI e n out ls).k∧((Ca ovI e n out ls).k=0→LW (Ca ovI e n out ls).v (Ca ovI f m out' ls).v∧Cl (Ca ovI e n out ls).v∧Cl (Ca ovI f m out' ls).v)
 | [],out,out',_,ho,ho',wo,_=>⟨.inl rfl,fun _=>⟨wo,ho,ho'⟩⟩
 | l :: ls, out, out', hk, ho, ho', wo, h => by
   rw [Ca] at h;split at h
   ·rename_i h2;unfold Ca;rw [if_pos h2];have hk1:=hk l (List.mem_cons_self ..);by_cases h1:(Ch ovI e n out l).k=0
    ·rw [if_pos h1];exact Ux he hf w hm hn n2 ls _ _ (fun l hl=>hk l (List.mem_cons_of_mem _ hl)) (Wg he ho hk1 (by omega) n2) (Wg hf ho' hk1 hm (by omega)) (wo.snoc (Af1 ho ho' w wo hm hn h1 h2)) h
    ·rw [if_neg h1];exact ⟨Af0 ho wo (by omega) n2 h2,fun h3=>absurd h3 h1⟩
   ·rename_i h2;exact absurd h h2
theorem Aaw {i:Int}(h:Gj l i x u p=true)(h1:l.op=1):Fh l.k=true:=by
 unfold Gj at h;rw [if_pos h1,Bool.and_eq_true] at h;exact h.1
theorem Aay (h:Jt ls outs x u p=true):∀ l∈ls,l.op=1→Fh l.k=true:=by
 unfold Jt at h;simp only [Bool.and_eq_true] at h;have h3:=(Hs x u p ls 0).1 h.1.2;intro l hl h1;obtain ⟨j,hj⟩:=List.getElem?_of_mem hl;exact Aaw (h3 j l hj) h1
end Go.Proofs.YtabjjdicffcolaaGreatDoor
namespace Go.Proofs.YtabjjdicffcolaaGreatDoor
open Go.Lib
end Go.Proofs.YtabjjdicffcolaaGreatDoor
namespace Go.Proofs.YtabjjdicffcolaaGreatDoor
open Go.Lib
end Go.Proofs.YtabjjdicffcolaaGreatDoor
namespace Go.Proofs.YtabjjdicffcolaaGreatDoor
open Go.Lib
variable {a b c st st':List Bool × List Int} {l:Ln}
theorem Adt {i x u p:Int}(h:Gj l i x u p=true) :
 (0<Fj l.op→0≤l.a∧l.a<i∧(1<Fj l.op→0≤l.b∧l.b<i)∧(¬1<Fj l.op→l.b=0))∧(l.op=4→0≤l.a∧l.a<u)∧(l.op=1∨l.op=2∨l.op=3∨l.op=4∨l.op=5∨0<Fj l.op):=by
 unfold Gj Bw at h;unfold Fj;by_cases c0:l.op=1∨l.op=2∨l.op=3∨l.op=5
 ·have n0:l.op=1∨l.op=2∨l.op=3∨l.op=4∨l.op=5:=by omega
  rw [if_pos n0];exact ⟨fun h=>absurd h (by decide),fun h=>by omega,by omega⟩
 have n1:¬l.op=1:=by omega
 have n2:¬l.op=2:=by omega
 have n3:¬l.op=3:=by omega
 have n5:¬l.op=5:=by omega
 rw [if_neg n1] at h;by_cases cs:U9 l.k rzI=false
 ·rw [if_pos cs] at h;cases h
 rw [if_neg cs,if_neg n2,if_neg n3] at h;by_cases c4:l.op=4
 ·have n0:l.op=1∨l.op=2∨l.op=3∨l.op=4∨l.op=5:=by omega
  rw [if_pos n0];rw [if_pos c4] at h;simp at h;exact ⟨fun h=>absurd h (by decide),fun _=>h.1,by omega⟩
 have n0:¬(l.op=1∨l.op=2∨l.op=3∨l.op=4∨l.op=5):=by omega
 rw [if_neg n0];rw [if_neg c4,if_neg n5] at h;by_cases c6:l.op=6∨l.op=7∨l.op=8∨l.op=9
 ·rw [if_pos c6] at h ⊢;simp at h;exact ⟨fun _=>⟨h.1.1,h.1.2,fun _=>h.2,fun h=>absurd (show (1:Int)<2 by decide) h⟩,fun h=>absurd h c4,.inr (.inr (.inr (.inr (.inr (by decide)))))⟩
 ·rw [if_neg c6] at h ⊢;by_cases c7:l.op=10∨l.op=11∨l.op=12∨l.op=13
  ·rw [if_pos c7] at h ⊢;simp at h;exact ⟨fun _=>⟨h.1.1,h.1.2,fun h=>absurd h (by decide),fun _=>h.2⟩,fun h=>absurd h c4,.inr (.inr (.inr (.inr (.inr (by decide)))))⟩
  ·rw [if_neg c7] at h;cases h
def onU (st:List Bool × List Int) (j:Nat):Bool:=st.1.getD j false
def GoodU (st:List Bool × List Int) (l:Ln):Prop:=(l.op=4→l.a∈st.2)∧(0<Fj l.op→onU st l.a.toNat=true∧(1<Fj l.op→onU st l.b.toNat=true))
def LeU (st st':List Bool × List Int):Prop:=st'.1.length=st.1.length∧(∀ j,onU st j=true→onU st' j=true)∧∀ x∈st.2,x∈st'.2
theorem LeU.refl (st:List Bool × List Int):LeU st st:=⟨rfl,fun _ h=>h,fun _ h=>h⟩
theorem LeU.trans (h:LeU a b)(k:LeU b c):LeU a c:=⟨k.1.trans h.1,fun j q=>k.2.1 j (h.2.1 j q),fun x q=>k.2.2 x (h.2.2 x q)⟩
theorem GoodU.mono (h:GoodU st l)(k:LeU st st'):GoodU st' l :=
 ⟨fun q=>k.2.2 _ (h.1 q),fun q=>⟨k.2.1 _ (h.2 q).1,fun r=>k.2.1 _ ((h.2 q).2 r)⟩⟩
def SameU (on:Nat→Bool) (a b:List RawI):Prop:=a.length=b.length∧∀ j,on j=true→a.getD j rzI=b.getD j rzI
theorem SameU.snoc {on:Nat→Bool}{a b:List RawI}(h:SameU on a b){x y:RawI}(hx:on a.length=true→x=y):SameU on (a++[x]) (b++[y]):=by
 obtain ⟨h1,h2⟩:=h;refine ⟨by simp [h1],fun j hj=>?_⟩;have h3:=h2 j hj;rw [List.getD_eq_getElem?_getD,List.getD_eq_getElem?_getD] at h3 ⊢;by_cases c:j<a.length
 ·rwa [List.getElem?_append_left c,List.getElem?_append_left (by omega)]
 ·rw [List.getElem?_append_right (by omega),List.getElem?_append_right (by omega),←h1];by_cases c2:j=a.length
  ·subst c2;rw [hx hj]
  ·rw [List.getElem?_eq_none (by simp;omega),List.getElem?_eq_none (by simp;omega)]
end Go.Proofs.YtabjjdicffcolaaGreatDoor
