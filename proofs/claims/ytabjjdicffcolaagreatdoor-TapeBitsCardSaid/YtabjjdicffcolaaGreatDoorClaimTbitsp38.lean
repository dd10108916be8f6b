/- Plain mathematics, no program: lines of a tape: what stands ahead; greater environments, fewer bits. -/
import Derived.Test.YtabjjdicffcolaaGreatDoorClaimTbitsp33
import Derived.Test.YtabjjdicffcolaaGreatDoorClaimTbitsp37
set_option maxRecDepth 100000
set_option maxHeartbeats 16000000
namespace Go.Proofs.YtabjjdicffcolaaGreatDoor
def LW (l m:List RawI):Prop:=l.length=m.length∧∀ n:Int,Wth (atI l n) (atI m n)
structure EnW (e f:En):Prop where
 t:Wth e.t.iv f.t.iv
 x:LW e.x f.x
 u:LW e.u f.u
 p:LW e.p f.p
theorem LW.refl (l:List RawI):LW l l:=⟨rfl,fun _=>Wth.refl _⟩
theorem EnW.refl (e:En):EnW e e:=⟨Wth.refl _,LW.refl _,LW.refl _,LW.refl _⟩
theorem LW.snoc {l m:List RawI}(h:LW l m){a b:Iv}(w:Wth a b):LW (l++[a.raw]) (m++[b.raw]):=by
 refine ⟨by simp [h.1],fun n=>?_⟩;have h2:=h.2 n;unfold atI at h2 ⊢;rw [List.getD_eq_getElem?_getD,List.getD_eq_getElem?_getD] at h2 ⊢
 by_cases h3:n.toNat<l.length
 ·rw [List.getElem?_append_left h3, List.getElem?_append_left (by rw [← h.1]; exact h3)];exact h2
 ·rw [List.getElem?_append_right (by omega), List.getElem?_append_right (by rw [← h.1]; omega), ← h.1]
  by_cases h4:n.toNat-l.length=0
  ·rw [h4]
   show Wth a.raw.iv b.raw.iv
   rw [Iv.raw_iv,Iv.raw_iv];exact w
  ·rw [List.getElem?_eq_none (by simp; omega), List.getElem?_eq_none (by simp; omega)];exact Wth.refl _
theorem line_win {e f:En}{out out':List RawI}{l:Ln}(ho:Cl out)(ho':Cl out')(w:EnW e f)(wo:LW out out'){n m:Nat}(hm:1≤m)(hn:m≤n)
 (h1:(lineI ovI e n out l).k=0) (h2:(lineI ovI f m out' l).k=0):Wth (lineI ovI e n out l).v (lineI ovI f m out' l).v:=by
 unfold lineI at h1 h2 ⊢
 by_cases c1:l.op=1
 ·simp only [if_pos c1] at h1 h2 ⊢;exact grow_round hm hn (Wth.refl _) h1 h2
 by_cases c2:l.op=2
 ·simp only [if_neg c1,if_pos c2] at h1 h2 ⊢;exact grow_round hm hn w.t h1 h2
 by_cases c3:l.op=3
 ·simp only [if_neg c1,if_neg c2,if_pos c3] at h1 h2 ⊢;exact grow_round hm hn (w.x.2 _) h1 h2
 by_cases c4:l.op=4
 ·simp only [if_neg c1,if_neg c2,if_neg c3,if_pos c4] at h1 h2 ⊢;exact grow_round hm hn (w.u.2 _) h1 h2
 by_cases c5:l.op=5
 ·simp only [if_neg c1,if_neg c2,if_neg c3,if_neg c4,if_pos c5] at h1 h2 ⊢;exact grow_round hm hn (w.p.2 _) h1 h2
 ·simp only [if_neg c1, if_neg c2, if_neg c3, if_neg c4, if_neg c5] at h1 h2 ⊢;exact grow_one (ho.at _) (ho.at _) (ho'.at _) (ho'.at _) hm hn (wo.2 _) (wo.2 _) h1 h2
theorem line_lmb {e f:En}{out out':List RawI}{l:Ln}(ho:Cl out)(wo:LW out out'){n m:Nat}(n1:1≤n)(n2:n≤300)
 (h2:(lineI ovI f m out' l).k=0):Lmb (lineI ovI e n out l).k:=by
 unfold lineI at h2 ⊢
 by_cases c1:l.op=1
 ·simp only [if_pos c1];exact round_lmb _ _
 by_cases c2:l.op=2
 ·simp only [if_neg c1,if_pos c2];exact round_lmb _ _
 by_cases c3:l.op=3
 ·simp only [if_neg c1,if_neg c2,if_pos c3];exact round_lmb _ _
 by_cases c4:l.op=4
 ·simp only [if_neg c1,if_neg c2,if_neg c3,if_pos c4];exact round_lmb _ _
 by_cases c5:l.op=5
 ·simp only [if_neg c1,if_neg c2,if_neg c3,if_neg c4,if_pos c5];exact round_lmb _ _
 ·simp only [if_neg c1, if_neg c2, if_neg c3, if_neg c4, if_neg c5] at h2 ⊢;exact one_lmb (ho.at _) n1 n2 (wo.2 _) (wo.2 _) h2
theorem line_cl {e:En}{out:List RawI}{l:Ln}{n:Nat}(he:e.Cl)(ho:Cl out)(hk:l.op=1→l.k.iv.Ok)(n1:1≤n)(n2:n≤300):Cl (out++[(lineI ovI e n out l).v.raw]) :=
 ho.snoc (lineI_ok he ho hk n1 (fun _ a ha=>ovI_ok a n ha n1 n2)).1
theorem lines_win {e f:En}(he:e.Cl)(hf:f.Cl)(w:EnW e f){n m:Nat}(hm:1≤m)(hn:m≤n)(n2:n≤300):∀ (ls:List Ln) (out out':List RawI),(∀ l∈ls,l.op=1→l.k.iv.Ok)→Cl out→Cl out'→LW out out' →
 (linesI ovI f m out' ls).k=0→Lmb (linesI ovI e n out ls).k∧((linesI ovI e n out ls).k=0→LW (linesI ovI e n out ls).v (linesI ovI f m out' ls).v∧Cl (linesI ovI e n out ls).v∧Cl (linesI ovI f m out' ls).v)
 | [],out,out',_,ho,ho',wo,_=>⟨.inl rfl,fun _=>⟨wo,ho,ho'⟩⟩
 | l :: ls, out, out', hk, ho, ho', wo, h => by
   rw [linesI] at h
   split at h
   ·rename_i h2
    unfold linesI;rw [if_pos h2];have hk1:=hk l (List.mem_cons_self ..)
    by_cases h1:(lineI ovI e n out l).k=0
    ·rw [if_pos h1];exact lines_win he hf w hm hn n2 ls _ _ (fun l hl=>hk l (List.mem_cons_of_mem _ hl)) (line_cl he ho hk1 (by omega) n2) (line_cl hf ho' hk1 hm (by omega)) (wo.snoc (line_win ho ho' w wo hm hn h1 h2)) h
    ·rw [if_neg h1];exact ⟨line_lmb ho wo (by omega) n2 h2,fun h3=>absurd h3 h1⟩
   ·rename_i h2
    exact absurd h h2
theorem mayL_const {l:Ln}{i x u p:Int}(h:mayL l i x u p=true)(h1:l.op=1):mayI l.k=true:=by
 unfold mayL at h;rw [if_pos h1,Bool.and_eq_true] at h;exact h.1
theorem mayT_const {ls:List Ln}{outs:List Int}{x u p:Int}(h:mayT ls outs x u p=true):∀ l∈ls,l.op=1→mayI l.k=true:=by
 unfold mayT at h;simp only [Bool.and_eq_true] at h;have h3:=(mayLs_iff x u p ls 0).1 h.1.2;intro l hl h1;obtain ⟨j,hj⟩:=List.getElem?_of_mem hl;exact mayL_const (h3 j l hj) h1
end Go.Proofs.YtabjjdicffcolaaGreatDoor
