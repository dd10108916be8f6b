/- Plain mathematics, no program: lines of a tape: what stands ahead; greater environments, fewer bits. -/
import Derived.Test.YtabjjdicffcolaaGreatDoorClaimTfrontp32
import Derived.Test.YtabjjdicffcolaaGreatDoorClaimTfrontp38
set_option maxRecDepth 100000
set_option maxHeartbeats 16000000
namespace Go.Proofs.YtabjjdicffcolaaGreatDoor
theorem linesI_nil (ov:Iv→Nat→Outc Iv)(e:En)(p:Nat):∀ (ls:List Ln) (out:List RawI),(linesI ov e p out ls).k≠0→(linesI ov e p out ls).v=[]
 | [],_,h=>absurd rfl h
 | l :: ls, out, h => by
   rw [linesI] at h ⊢
   split at h
   ·rename_i h1
    rw [if_pos h1]
    exact linesI_nil ov e p ls _ h
   ·rename_i h1
    rw [if_neg h1]
theorem tapeI_bad {ov:Iv→Nat→Outc Iv}{ls:List Ln}{outs:List Int}{e:En}{p:Int}(h:(tapeI ov ls outs e p).k≠0):(tapeI ov ls outs e p).v=[]:=by
 unfold tapeI at h ⊢
 split at h
 ·rename_i h1
  rw [if_pos h1]
  exact linesI_nil _ _ _ _ _ h
 ·rename_i h1
  rw [if_neg h1]
theorem linesI_pre (ov:Iv→Nat→Outc Iv)(e:En)(p:Nat):∀ (ls:List Ln) (out:List RawI),(linesI ov e p out ls).k=0→∃ r,(linesI ov e p out ls).v=out++r
 | [],out,_=>⟨[],by simp [linesI]⟩
 | l :: ls, out, h => by
   rw [linesI] at h ⊢
   split at h
   ·rename_i h1
    rw [if_pos h1]
    obtain ⟨r,hr⟩:=linesI_pre ov e p ls _ h
    exact ⟨_,by rw [hr,List.append_assoc]⟩
   ·rename_i h1
    exact absurd h h1
theorem linesI_take (ov:Iv→Nat→Outc Iv)(e:En)(p:Nat):∀ (ls:List Ln) (out:List RawI) (k:Nat),(linesI ov e p out ls).k=0→linesI ov e p out (ls.take k)=⟨(linesI ov e p out ls).v.take (out.length+k),0⟩
 | [], out, k, _ => by
   simp only [List.take_nil,linesI]
   rw [List.take_of_length_le (by omega)]
 | l :: ls, out, 0, h => by
   obtain ⟨r,hr⟩:=linesI_pre ov e p (l::ls) out h
   rw [hr,List.take_zero]
   simp [linesI]
 | l :: ls, out, k + 1, h => by
   rw [linesI] at h
   split at h
   ·rename_i h1
    rw [List.take_succ_cons]
    unfold linesI
    rw [if_pos h1,if_pos h1,linesI_take ov e p ls _ k h]
    rw [List.length_append,List.length_singleton,show out.length+1+k=out.length+(k+1) by omega]
   ·rename_i h1
    exact absurd h h1
theorem mayT_take {ls:List Ln}{outs:List Int}{x u p:Int}(h:mayT ls outs x u p=true)(k:Nat):mayT (ls.take k) [] x u p=true:=by
 unfold mayT at h ⊢
 simp only [Bool.and_eq_true,decide_eq_true_eq] at h ⊢
 obtain ⟨⟨⟨h1,h2⟩,h3⟩,h4⟩:=h
 refine ⟨⟨⟨by rw [List.length_take];omega,by simp⟩,?_⟩,by simp⟩
 rw [mayLs_iff] at h3 ⊢
 intro j l hj
 refine h3 j l ?_
 have:=(List.getElem?_eq_some_iff.1 hj).1
 rw [List.length_take] at this
 rwa [List.getElem?_take_of_lt (by omega)] at hj
theorem tapeI_take {ov:Iv→Nat→Outc Iv}{ls:List Ln}{outs:List Int}{e:En}{p:Int}(h:(tapeI ov ls outs e p).k=0)(k:Nat):tapeI ov (ls.take k) [] e p=⟨(tapeI ov ls outs e p).v.take k,0⟩:=by
 obtain ⟨h1,h2,h3⟩:=tapeI_good h
 rw [h3] at h ⊢
 have h4:=linesI_take ov e p.toNat ls [] k h
 rw [List.length_nil,Nat.zero_add] at h4
 rw [←h4]
 unfold tapeI
 rw [if_pos ⟨h1.1,h1.2.1,mayT_take h1.2.2.1 k,h1.2.2.2⟩]
def LW (l m:List RawI):Prop:=l.length=m.length∧∀ n:Int,Wth (atI l n) (atI m n)
structure EnW (e f:En):Prop where
 t:Wth e.t.iv f.t.iv
 x:LW e.x f.x
 u:LW e.u f.u
 p:LW e.p f.p
theorem LW.refl (l:List RawI):LW l l:=⟨rfl,fun _=>Wth.refl _⟩
theorem EnW.refl (e:En):EnW e e:=⟨Wth.refl _,LW.refl _,LW.refl _,LW.refl _⟩
theorem LW.snoc {l m:List RawI}(h:LW l m){a b:Iv}(w:Wth a b):LW (l++[a.raw]) (m++[b.raw]):=by
 refine ⟨by simp [h.1],fun n=>?_⟩
 have h2:=h.2 n
 unfold atI at h2 ⊢
 rw [List.getD_eq_getElem?_getD,List.getD_eq_getElem?_getD] at h2 ⊢
 by_cases h3:n.toNat<l.length
 ·rw [List.getElem?_append_left h3, List.getElem?_append_left (by rw [← h.1]; exact h3)]
  exact h2
 ·rw [List.getElem?_append_right (by omega), List.getElem?_append_right (by rw [← h.1]; omega), ← h.1]
  by_cases h4:n.toNat-l.length=0
  ·rw [h4]
   show Wth a.raw.iv b.raw.iv
   rw [Iv.raw_iv,Iv.raw_iv]
   exact w
  ·rw [List.getElem?_eq_none (by simp; omega), List.getElem?_eq_none (by simp; omega)]
   exact Wth.refl _
theorem line_cl {e:En}{out:List RawI}{l:Ln}{n:Nat}(he:e.Cl)(ho:Cl out)(hk:l.op=1→l.k.iv.Ok)(n1:1≤n)(n2:n≤300):Cl (out++[(lineI ovI e n out l).v.raw]) :=
 ho.snoc (lineI_ok he ho hk n1 (fun _ a ha=>ovI_ok a n ha n1 n2)).1
theorem mayL_const {l:Ln}{i x u p:Int}(h:mayL l i x u p=true)(h1:l.op=1):mayI l.k=true:=by
 unfold mayL at h
 rw [if_pos h1,Bool.and_eq_true] at h
 exact h.1
theorem mayT_const {ls:List Ln}{outs:List Int}{x u p:Int}(h:mayT ls outs x u p=true):∀ l∈ls,l.op=1→mayI l.k=true:=by
 unfold mayT at h
 simp only [Bool.and_eq_true] at h
 have h3:=(mayLs_iff x u p ls 0).1 h.1.2
 intro l hl h1
 obtain ⟨j,hj⟩:=List.getElem?_of_mem hl
 exact mayL_const (h3 j l hj) h1
end Go.Proofs.YtabjjdicffcolaaGreatDoor
