/- Plain mathematics, no program: lines of a tape: what stands ahead; greater environments, fewer bits. -/
import Derived.Test.YtabjjdicffcolaaGreatDoorClaimTusesp33
import Derived.Test.YtabjjdicffcolaaGreatDoorClaimTusesp37
set_option maxRecDepth 100000
set_option maxHeartbeats 16000000
namespace Go.Proofs.YtabjjdicffcolaaGreatDoor
def LW (l m:List RawI):Prop:=l.length=m.length∧∀ n:Int,Wth (atI l n) (atI m n)
structure EnW (e f:En):Prop where
 t:Wth e.t.iv f.t.iv
 x:LW e.x f.x
 u:LW e.u f.u
 p:LW e.p f.p
theorem LW.refl (l:List RawI):LW l l:=⟨rfl,fun _=>Wth.refl _⟩
theorem EnW.refl (e:En):EnW e e:=⟨Wth.refl _,LW.refl _,LW.refl _,LW.refl _⟩
theorem LW.snoc {l m:List RawI}(h:LW l m){a b:Iv}(w:Wth a b):LW (l++[a.raw]) (m++[b.raw]):=by
 refine ⟨by simp [h.1],fun n=>?_⟩;have h2:=h.2 n;unfold atI at h2 ⊢;rw [List.getD_eq_getElem?_getD,List.getD_eq_getElem?_getD] at h2 ⊢
 by_cases h3:n.toNat<l.length
 ·rw [List.getElem?_append_left h3, List.getElem?_append_left (by rw [← h.1]; exact h3)];exact h2
 ·rw [List.getElem?_append_right (by omega), List.getElem?_append_right (by rw [← h.1]; omega), ← h.1]
  by_cases h4:n.toNat-l.length=0
  ·rw [h4]
   show Wth a.raw.iv b.raw.iv
   rw [Iv.raw_iv,Iv.raw_iv];exact w
  ·rw [List.getElem?_eq_none (by simp; omega), List.getElem?_eq_none (by simp; omega)];exact Wth.refl _
theorem Agw {e:En}{out:List RawI}{l:Ln}{n:Nat}(he:e.Cl)(ho:Cl out)(hk:l.op=1→l.k.iv.Ok)(n1:1≤n)(n2:n≤300):Cl (out++[(Dj ovI e n out l).v.raw]) :=
 ho.snoc (Acl he ho hk n1 (fun _ a ha=>Acr a n ha n1 n2)).1
theorem W6 {l:Ln}{i x u p:Int}(h:Ff l i x u p=true)(h1:l.op=1):Fz l.k=true:=by
 unfold Ff at h;rw [if_pos h1,Bool.and_eq_true] at h;exact h.1
theorem Xt {ls:List Ln}{outs:List Int}{x u p:Int}(h:Ex ls outs x u p=true):∀ l∈ls,l.op=1→Fz l.k=true:=by
 unfold Ex at h;simp only [Bool.and_eq_true] at h;have h3:=(D8 x u p ls 0).1 h.1.2;intro l hl h1;obtain ⟨j,hj⟩:=List.getElem?_of_mem hl;exact W6 (h3 j l hj) h1
end Go.Proofs.YtabjjdicffcolaaGreatDoor
