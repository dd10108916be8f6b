/- Words and contracts, part 36. -/
import Derived.Test.YtabjjdicffcolaaGreatDoorClaimSevalp32
import Derived.Test.YtabjjdicffcolaaGreatDoorClaimSevalp35
set_option maxRecDepth 100000
set_option maxHeartbeats 0
namespace Go.Proofs.YtabjjdicffcolaaGreatDoor
def LW (l m:List RawI):Prop:=l.length=m.length∧∀ n:Int,Wth (atI l n) (atI m n)
structure EnW (e f:En):Prop where
 t:Wth e.t.iv f.t.iv
 x:LW e.x f.x
 u:LW e.u f.u
 p:LW e.p f.p
theorem LW.refl (l:List RawI):LW l l:=⟨rfl,fun _=>Wth.refl _⟩
theorem EnW.refl (e:En):EnW e e:=⟨Wth.refl _,LW.refl _,LW.refl _,LW.refl _⟩
theorem LW.snoc {l m:List RawI}(h:LW l m){a b:Iv}(w:Wth a b):LW (l++[a.raw]) (m++[b.raw]):=by
 refine ⟨by simp [h.1],fun n=>?_⟩;have h2:=h.2 n;unfold atI at h2 ⊢;rw [List.getD_eq_getElem?_getD,List.getD_eq_getElem?_getD] at h2 ⊢;by_cases h3:n.toNat<l.length
 ·rw [List.getElem?_append_left h3,List.getElem?_append_left (by rw [←h.1];exact h3)];exact h2
 ·rw [List.getElem?_append_right (by omega),List.getElem?_append_right (by rw [←h.1];omega),←h.1];by_cases h4:n.toNat-l.length=0
  ·rw [h4]
   show Wth a.raw.iv b.raw.iv
   rw [Iv.raw_iv,Iv.raw_iv];exact w
  ·rw [List.getElem?_eq_none (by simp;omega),List.getElem?_eq_none (by simp;omega)];exact Wth.refl _
theorem Agu {e:En}{out:List RawI}{l:Ln}{n:Nat}(he:e.Cl)(ho:Cl out)(hk:l.op=1→l.k.iv.Ok)(n1:1≤n)(n2:n≤300):Cl (out++[(Cy ovI e n out l).v.raw]) :=
 ho.snoc (V7 he ho hk n1 (fun _ a ha=>Aen a n ha n1 n2)).1
theorem Yl {l:Ln}{i x u p:Int}(h:Fu l i x u p=true)(h1:l.op=1):Fh l.k=true:=by
 unfold Fu at h;rw [if_pos h1,Bool.and_eq_true] at h;exact h.1
theorem Yn {ls:List Ln}{outs:List Int}{x u p:Int}(h:Iu ls outs x u p=true):∀ l∈ls,l.op=1→Fh l.k=true:=by
 unfold Iu at h;simp only [Bool.and_eq_true] at h;have h3:=(Gv x u p ls 0).1 h.1.2;intro l hl h1;obtain ⟨j,hj⟩:=List.getElem?_of_mem hl;exact Yl (h3 j l hj) h1
end Go.Proofs.YtabjjdicffcolaaGreatDoor
