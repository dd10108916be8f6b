/- Words and contracts, part 41. -/
import Derived.Test.YtinbgjcooolbiaaGreatDoorClaimPartsp19
set_option maxRecDepth 100000
set_option maxHeartbeats 0
namespace Go.Proofs.YtinbgjcooolbiaaGreatDoor
open Go.RowKit
section
variable {P:Program} {md:Region.Mode} {ops:Array Oper} {Q:Exit→Act→World→Prop}
structure Inv (md:Region.Mode) (ops:Array Oper) (m:Nat) (V:Nat→Value→World→Prop) (a0:Act) (W:World) (listed:Array Bool) (a:Act) (w:World):Prop where
 kept:Kept W w
 size:listed.size=ops.size
 tail:∀ i,m≤i→listed.getD i false=false
 closed:∀ i j,listed.getD i false=true→A0 md ops i j=true→listed.getD j false=true
 vals:∃ u,a=Av ops (fun i=>listed.getD i false) u m a0∧∀ i,i<m→listed.getD i false=true→V i (u i) w
def Rn (md:Region.Mode) (ops:Array Oper) (m e:Nat):Bool :=
 (List.range ops.size).all fun i=>decide (i<m)||(List.range m).all fun j=>j==e||((K0 md ops ops.size).getD i []).contains j
theorem Ng {m e:Nat}{V:Nat→Value→World→Prop}{a0:Act}{W:World}
 (hsz:m≤ops.size) (hap:Bm ops m=true) (hin:Cm ops m a0.tmps.size=true) (htl:Rn md ops m e=true) (hbk:Ct md ops=true)
 (hmono:∀ i v w w',Kept w w'→V i v w→V i v w')
 (hstep:∀ i o,i<m→ops[i]?=some o→∀ a w,Finds md ops m V a0 W i a w→Bd P ops Q V i o a w)
 (hend:∀ u w,Kept W w→(∀ i,i<m→V i (u i) w)→∀ listed:Array Bool,listed.size=ops.size→(∀ i,listed.getD i false=decide (i<m))→wpAny P md ops Q (ops.size-m) listed (Av ops (fun _=>true) u m a0) w)
 (hlate:∀ u w,Kept W w→(∀ i,i<m→i≠e→V i (u i) w)→∀ listed:Array Bool,listed.size=ops.size→(∀ i,listed.getD i false=(decide (i<m)&&decide (i≠e)))→∀ i,m≤i→i∈Region.ready md ops listed →
   wpOp P ops Q i (wpAny P md ops Q (ops.size-m) (listed.setIfInBounds i true)) (Av ops (fun j=>decide (j≠e)) u m a0) w) :
 ∀ (k:Nat) (listed:Array Bool) (a:Act) (w:World),((List.range m).filter fun i=>!listed.getD i false).length=k→Inv md ops m V a0 W listed a w→wpAny P md ops Q (ops.size-m+k) listed a w:=by
 intro k
 induction k with
 | zero =>
   intro listed a w hk hI;obtain ⟨u,rfl,hu⟩:=hI.vals;have hall:∀ i,i<m→listed.getD i false=true:=by
    intro i hi;have h1:=List.eq_nil_of_length_eq_zero hk;have h2:∀ x∈(List.range m).filter (fun i=>!listed.getD i false),False:=by rw [h1];intro x hx;cases hx
    cases hc:listed.getD i false
    ·exact (h2 i (List.mem_filter.2 ⟨List.mem_range.2 hi,by rw [hc];rfl⟩)).elim
    ·rfl
   have e:Av ops (fun i=>listed.getD i false) u m a0=Av ops (fun _=>true) u m a0:=Dj m (fun j hj=>⟨hall j hj,rfl⟩);rw [e];refine hend u w hI.kept (fun i hi=>hu i hi (hall i hi)) listed hI.size (fun i=>?_);by_cases hi:i<m
   ·rw [hall i hi];simp [hi]
   ·rw [hI.tail i (by omega)];simp [hi]
 | succ k ih =>
   intro listed a w hk hI;obtain ⟨u,rfl,hu⟩:=hI.vals
   -- the first one that has not come up is ready, or some are ready
   refine ⟨fun hnone=>?_,fun i hi=>?_⟩
   ·exfalso;have hex:∃ x,x<m∧listed.getD x false=false:=by
     cases hl:(List.range m).filter (fun i=>!listed.getD i false) with
     | nil=>rw [hl] at hk;simp at hk
     | cons x xs =>
       have hx:x∈(List.range m).filter (fun i=>!listed.getD i false):=by rw [hl];exact List.mem_cons_self ..
       obtain ⟨h1,h2⟩:=List.mem_filter.1 hx;exact ⟨x,List.mem_range.1 h1,by simpa using h2⟩
    have hmin : ∀ n x, x ≤ n → x < m → listed.getD x false = false → ∃ y, y ∈ Region.ready md ops listed := by
     intro n
     induction n with
     | zero => 
       intro x hx hxm hxl;obtain rfl:x=0:=by omega
       refine ⟨0,mem_ready.2 ⟨?_,ops[0],Array.getElem?_eq_getElem (by omega),fun e he hb=>?_⟩⟩
       ·rw [Array.getD_eq_getD_getElem?,Array.getElem?_eq_getElem (by rw [hI.size];omega)] at hxl ⊢;exact hxl
       ·have h1:=Bg hbk 0 (by omega);rw [Array.getElem?_eq_getElem (show 0<ops.size by omega)] at h1;simp only [Option.map_some,Option.getD_some,Array.all_eq_true'] at h1;have:=h1 e he;rw [hb] at this;simp at this
     | succ n ihn =>
       intro x hx hxm hxl;by_cases hall:∀ j,A0 md ops x j=true→listed.getD j false=true
       ·refine ⟨x,mem_ready.2 ⟨?_,ops[x],Array.getElem?_eq_getElem (by omega),fun e he hb=>?_⟩⟩
        ·rw [Array.getD_eq_getD_getElem?,Array.getElem?_eq_getElem (by rw [hI.size];omega)] at hxl ⊢;exact hxl
        ·refine hall e.on ?_;unfold A0;rw [Array.getElem?_eq_getElem (show x<ops.size by omega)];simp only [Option.map_some,Option.getD_some,Array.any_eq_true'];exact ⟨e,he,by rw [hb];simp⟩
       ·obtain ⟨j,hj⟩:=Classical.not_forall.1 hall;obtain ⟨hj1,hj2⟩:=Classical.not_imp.1 hj;have hjx:j<x:=by
         have h1:=Bg hbk x (by omega);unfold A0 at hj1;rw [Array.getElem?_eq_getElem (show x<ops.size by omega)] at h1 hj1;simp only [Option.map_some,Option.getD_some,Array.all_eq_true',Array.any_eq_true'] at h1 hj1;obtain ⟨e,he,hb⟩:=hj1;simp only [Bool.and_eq_true,beq_iff_eq] at hb;have:=h1 e he;rw [hb.1,hb.2] at this;simpa using this
        exact ihn j (by omega) (by omega) (by simpa using hj2)
    obtain ⟨x,hx1,hx2⟩:=hex;obtain ⟨y,hy⟩:=hmin x x (Nat.le_refl _) hx1 hx2;rw [hnone] at hy;cases hy
   ·obtain ⟨hjun,oi,hoi,hdep⟩:=mem_ready.1 hi;have hil:i<listed.size:=by
     by_cases hc:i<listed.size
     ·exact hc
     ·rw [Array.getD_eq_getD_getElem?,Array.getElem?_eq_none (by omega)] at hjun;simp at hjun
    have hfalse:listed.getD i false=false:=by
     rw [Array.getD_eq_getD_getElem?,Array.getElem?_eq_getElem hil] at *;exact hjun
    have hdone:∀ j,A0 md ops i j=true→listed.getD j false=true:=by
     intro j hj;unfold A0 at hj;rw [hoi] at hj;simp only [Option.map_some,Option.getD_some,Array.any_eq_true'] at hj;obtain ⟨e,he,hb⟩:=hj;simp only [Bool.and_eq_true,beq_iff_eq] at hb;have:=hdep e he hb.1;rw [hb.2] at this;exact this
    by_cases him:i<m
    ·have hF:Finds md ops m V a0 W i (Av ops (fun i=>listed.getD i false) u m a0) w:=by
      refine ⟨hI.kept,Fr m,fun j t hw hs=>?_,fun t hu0=>?_⟩
      ·have hjl:=hdone j hw;have hjm:j<m:=by
        by_cases hc:j<m
        ·exact hc
        ·rw [hI.tail j (by omega)] at hjl;cases hjl
       have htn:t<a0.tmps.size:=by
        have:=Bg hin j hjm;rw [hs] at this;simpa using this
       rw [Dw (i:=j) htn hjl hs m hjm (fun j' hj' hne=>?_)]
       ·exact hu j hjm hjl
       ·have h1:=Bg (Bg hap j hjm) j' hj';rw [hs] at h1;simp only [Bool.or_eq_true,beq_iff_eq,bne_iff_ne] at h1;rcases h1 with (h1 | h1) | h1
        ·exact absurd h1.symm hne
        ·cases h1
        ·exact fun h=>h1 h.symm
      ·refine Dv m (fun j hj hjl hs=>?_);have h1:=Bg hu0 j hj;rw [hs] at h1;simp only [bne_self_eq_false,Bool.false_or,Bool.or_eq_true,beq_iff_eq] at h1;rcases h1 with h1 | h1
       ·rw [←h1,hfalse] at hjl;cases hjl
       ·have:=hI.closed j i hjl h1;rw [hfalse] at this;cases this
     have hs:=hstep i oi him hoi _ w hF;unfold Bd at hs;unfold wpOp;simp only [hoi];have hput:∀ v w',Kept w w'→V i v w'→Inv md ops m V a0 W (listed.setIfInBounds i true) ((Av ops (fun i=>listed.getD i false) u m a0).put oi.dst v) w':=by
      intro v w' hk' hv;have hso:oi.dst=Am ops i:=by unfold Am;rw [hoi];rfl
      have hset:∀ j,(listed.setIfInBounds i true).getD j false=upd (fun i=>listed.getD i false) i true j:=by
       intro j;unfold upd;by_cases hj:j=i
       ·subst hj;rw [if_pos rfl,Array.getD_eq_getD_getElem?];simp [hil]
       ·rw [if_neg hj,getD_set_ne false (fun h=>hj h.symm)]
      refine ⟨hI.kept.trans hk',by rw [Array.size_setIfInBounds,hI.size],fun j hj=>?_,fun j l hj hw=>?_,upd u i v,?_,fun j hj hjl=>?_⟩
      ·rw [getD_set_ne false (by omega)];exact hI.tail j hj
      ·rw [hset] at hj ⊢;unfold upd at hj ⊢;by_cases hji:j=i
       ·subst hji;by_cases hli:l=j
        ·rw [if_pos hli]
        ·rw [if_neg hli];exact hdone l hw
       ·rw [if_neg hji] at hj;by_cases hli:l=i
        ·rw [if_pos hli]
        ·rw [if_neg hli];exact hI.closed j l hj hw
      ·rw [hso,Kb (S:=fun i=>listed.getD i false) hfalse m him (fun j hj hne=>?_)]
       ·exact Dj m (fun j _=>⟨(hset j).symm,rfl⟩)
       ·have h1:=Bg (Bg hap i him) j hj;simp only [Bool.or_eq_true,beq_iff_eq,bne_iff_ne] at h1;rcases h1 with (h1 | h1) | h1
        ·exact absurd h1.symm hne
        ·exact .inl h1
        ·exact .inr h1
      ·rw [hset] at hjl;unfold upd at hjl ⊢;by_cases hji:j=i
       ·subst hji;rw [if_pos rfl];exact hv
       ·rw [if_neg hji] at hjl ⊢;exact hmono j _ _ _ hk' (hu j hj hjl)
     have hcount : ((List.range m).filter fun j => !(listed.setIfInBounds i true).getD j false).length = k := by
      have h1:(List.range m).filter (fun j=>!(listed.setIfInBounds i true).getD j false)=((List.range m).filter (fun j=>!listed.getD j false)).filter (fun j=>j != i):=by
       rw [List.filter_filter];apply List.filter_congr;intro j _;by_cases hj:j=i
       ·subst hj;rw [Array.getD_eq_getD_getElem?];simp [hil]
       ·rw [getD_set_ne false (fun h=>hj h.symm)];simp [hj]
      rw [h1];have hnd:((List.range m).filter (fun j=>!listed.getD j false)).Nodup:=List.Pairwise.filter _ List.nodup_range;have hmem:i∈(List.range m).filter (fun j=>!listed.getD j false):=List.mem_filter.2 ⟨List.mem_range.2 him,by rw [hfalse];rfl⟩;have h2 : ∀ (l : List Nat), l.Nodup → i ∈ l → (l.filter (fun j => j != i)).length + 1 = l.length := by
       intro l
       induction l with
       | nil=>intro _ h;cases h
       | cons x xs ihx =>
         intro hn hm;obtain ⟨hx,hn'⟩:=List.nodup_cons.1 hn;by_cases hxi:x=i
         ·subst hxi;have:xs.filter (fun j=>j != x)=xs:=by
           rw [List.filter_eq_self];intro y hy;simp only [bne_iff_ne];rintro rfl;exact hx hy
          rw [List.filter_cons_of_neg (by simp),this];rfl
         ·have hm':i∈xs:=by
           rcases List.mem_cons.1 hm with h | h
           ·exact absurd h.symm hxi
           ·exact h
          rw [List.filter_cons_of_pos (by simp [hxi])];simp only [List.length_cons];rw [ihx hn' hm']
      have:=h2 _ hnd hmem;omega
     by_cases hw:Region.wanted oi (yielded ops (Av ops (fun i=>listed.getD i false) u m a0).tmps)=true
     ·rw [if_pos hw] at hs ⊢;refine .inl (Oper.wp_mono (fun a' w' h=>?_) hs);obtain ⟨v,rfl,hk',hv⟩:=h;exact ih _ _ _ hcount (hput v w' hk' hv)
     ·rw [if_neg hw] at hs ⊢;exact ih _ _ _ hcount (hput undef w (Below.refl _ _) hs)
    ·-- an operation behind: all but e have come up
     have honly:∀ x,x<m→x≠e→listed.getD x false=true:=by
      intro x hx hxe;cases hc:listed.getD x false with
      | true=>rfl
      | false =>
        exfalso;have h1:=Bg htl i (by rw [←hI.size];exact hil);simp only [Bool.or_eq_true,decide_eq_true_eq] at h1;have h3:=Bg (h1.resolve_left him) x hx;simp only [Bool.or_eq_true,beq_iff_eq] at h3;have h2:=F1 (L:=fun j=>listed.getD j false) hI.closed ops.size i x (by rw [←hI.size];exact hil) (h3.resolve_left hxe) hdone;rw [hc] at h2;cases h2
     have hmem:∀ x,x∈(List.range m).filter (fun i=>!listed.getD i false)→x=e:=by
      intro x hx;obtain ⟨h1,h2⟩:=List.mem_filter.1 hx;by_cases hxe:x=e
      ·exact hxe
      ·rw [honly x (List.mem_range.1 h1) hxe] at h2;cases h2
     have hnd:((List.range m).filter (fun i=>!listed.getD i false)).Nodup:=List.Pairwise.filter _ List.nodup_range;have hk0 : k = 0 ∧ listed.getD e false = false := by
      cases hl:(List.range m).filter (fun i=>!listed.getD i false) with
      | nil=>rw [hl] at hk;simp at hk
      | cons x xs =>
        have hxe:x=e:=hmem x (by rw [hl];exact List.mem_cons_self ..);have hxf:listed.getD x false=false:=by
         have hx:x∈(List.range m).filter (fun i=>!listed.getD i false):=by rw [hl];exact List.mem_cons_self ..
         simpa using (List.mem_filter.1 hx).2
        cases xs with
        | nil=>rw [hl] at hk;simp at hk;exact ⟨by omega,by rw [←hxe];exact hxf⟩
        | cons y ys =>
          exfalso;have hye:y=e:=hmem y (by rw [hl];simp);rw [hl] at hnd;have:=(List.nodup_cons.1 hnd).1;rw [hxe,hye] at this;exact this (List.mem_cons_self ..)
     obtain ⟨rfl,hef⟩:=hk0;have hlist:∀ j,listed.getD j false=(decide (j<m)&&decide (j≠e)):=by
      intro j;by_cases hj:j<m
      ·by_cases hje:j=e
       ·subst hje;rw [hef];simp
       ·rw [honly j hj hje];simp [hj,hje]
      ·rw [hI.tail j (by omega)];simp [hj]
     have ep:Av ops (fun i=>listed.getD i false) u m a0=Av ops (fun j=>decide (j≠e)) u m a0:=Dj m (fun j hj=>⟨by rw [hlist j];simp [hj],rfl⟩);rw [ep];exact hlate u w hI.kept (fun j hj hje=>hu j hj (honly j hj hje)) listed hI.size hlist i (by omega) hi
theorem H9 {i j:Nat}{listed:Array Bool}(hi:i∈Region.ready md ops listed)(h:A0 md ops i j=true):listed.getD j false=true:=by
 obtain ⟨_,oi,hoi,hdep⟩:=mem_ready.1 hi;unfold A0 at h;rw [hoi] at h;simp only [Option.map_some,Option.getD_some,Array.any_eq_true'] at h;obtain ⟨e,he,hb⟩:=h;simp only [Bool.and_eq_true,beq_iff_eq] at hb;have:=hdep e he hb.1;rw [hb.2] at this;exact this
theorem F4 {id m e:Nat}{V:Nat→Value→World→Prop}{a0:Act}{W:World}{o oe o':Oper}(hm:P.follows .mixedOrders=true)
 (hsz:m+2=ops.size) (ho:ops[m]?=some o) (hg:o.guard=none) (ho':ops[m+1]?=some o') (hg':o'.guard=none) (hoe:ops[e]?=some oe) (hge:oe.guard=none) (hem:e<m)
 (hw1:A0 .any ops (m+1) e=true) (hw2:A0 .any ops (m+1) m=true)
 (hap:Bm ops m=true) (hin:Cm ops m a0.tmps.size=true) (htl:Rn .any ops m e=true) (hbk:Ct .any ops=true)
 (hmono:∀ i v w w',Kept w w'→V i v w→V i v w')
 (hstep:∀ i o,i<m→ops[i]?=some o→∀ a w,Finds .any ops m V a0 W i a w→Bd P ops Q V i o a w)
 (hend:∀ u w,Kept W w→(∀ i,i<m→i≠e→V i (u i) w) →
   (V e (u e) w→o.wp P (Av ops (fun _=>true) u m a0) w (fun a w=>o'.wp P a w (Q .normal) Q) Q) ∧
   o.wp P (Av ops (fun j=>decide (j≠e)) u m a0) w (fun a w=>oe.wp P a w (fun a w=>o'.wp P a w (Q .normal) Q) Q) Q) :
 (Code.region id ops true).wp P Q a0 W:=by
 have hs:ops.size-m=1+1:=by omega
 have hdone:∀ (l:Array Bool) (a:Act) (w:World),l.size=ops.size→(∀ i,i<m+2→l.getD i false=true)→Q .normal a w→wpAny P .any ops Q 0 l a w:=by
  intro l a w hl h hq;refine ⟨?_,hq⟩;rw [List.eq_nil_iff_forall_not_mem];intro j hj;obtain ⟨h3,h4⟩:=Ec hl hj;rw [h j (by omega)] at h4;cases h4
 -- the last operation alone
 have hone:∀ (l:Array Bool) (a:Act) (w:World),l.size=ops.size→(∀ i,l.getD i false=decide (i<m+1))→o'.wp P a w (Q .normal) Q→wpAny P .any ops Q 1 l a w:=by
  intro l a w hl h hq;refine ⟨fun hn=>?_,fun j hj=>?_⟩
  ·have:=Fh (md:=.any) (m:=m+1) (by omega) hl hbk (fun i hi=>by rw [h];simp [hi]) (by rw [h];simp);rw [hn] at this;cases this
  ·obtain ⟨h3,h4⟩:=Ec hl hj;rw [h] at h4;simp at h4;obtain rfl:j=m+1:=by omega
   refine F7 ho' hg' (Oper.wp_mono (fun a w h'=>?_) hq);refine hdone _ a w (by rw [Array.size_setIfInBounds];exact hl) (fun i hi=>?_) h';rw [Fo (by omega),h];by_cases e1:i=m+1
   ·rw [if_pos e1]
   ·rw [if_neg e1];simp;omega
 refine wp_region_any hm ?_
 have h:=Ng (md:=.any) (W:=W) (a0:=a0) (V:=V) (Q:=Q) (P:=P) (e:=e) (by omega) hap hin htl hbk hmono hstep (fun u w hk hu listed hl hlt=>?_) (fun u w hk hu listed hl hlt i hmi hi=>?_)
  ((List.range m).filter fun i=>!(Array.replicate ops.size false).getD i false).length (Array.replicate ops.size false) a0 W.drew rfl ?_
 ·have e:ops.size-m+((List.range m).filter fun i=>!(Array.replicate ops.size false).getD i false).length=ops.size:=by
   have:(List.range m).filter (fun i=>!(Array.replicate ops.size false).getD i false)=List.range m:=by
    rw [List.filter_eq_self];intro i hi;rw [Dq];rfl
   rw [this,List.length_range];omega
  rw [e] at h;exact h
 ·-- all have come up, but the last two
  have hA:=(hend u w hk (fun i hi _=>hu i hi)).1 (hu e hem);rw [hs];refine ⟨fun hn=>?_,fun i hi=>?_⟩
  ·have:=Fh (md:=.any) (m:=m) (by omega) hl hbk (fun i hi=>by rw [hlt];simp [hi]) (by rw [hlt];simp);rw [hn] at this;cases this
  ·obtain ⟨h1,h2⟩:=Ec hl hi;have h2':=h2;rw [hlt] at h2;simp at h2;by_cases him:i=m
   ·subst him;refine F7 ho hg (Oper.wp_mono (fun a w h=>?_) hA);refine hone _ a w (by rw [Array.size_setIfInBounds];exact hl) (fun j=>?_) h;rw [Fo (by omega),hlt];by_cases e1:j=i
    ·rw [if_pos e1,e1];simp
    ·rw [if_neg e1];simp;omega
   ·exfalso;obtain rfl:i=m+1:=by omega
    have:=H9 hi hw2;rw [hlt] at this;simp at this
 ·-- all but e and the last two
  have hB:=(hend u w hk hu).2;obtain ⟨h1,h2⟩:=Ec hl hi;rw [hs];have him:i=m:=by
   by_cases him:i=m
   ·exact him
   ·exfalso;obtain rfl:i=m+1:=by omega
    have:=H9 hi hw1;rw [hlt] at this;simp at this
  subst him;refine F7 ho hg (Oper.wp_mono (fun a w h=>?_) hB);have hsz2:(listed.setIfInBounds i true).size=ops.size:=by rw [Array.size_setIfInBounds];exact hl
  have hl2:∀ j,(listed.setIfInBounds i true).getD j false=(decide (j<i+1)&&decide (j≠e)):=by
   intro j;rw [Fo (by omega),hlt];by_cases e1:j=i
   ·rw [if_pos e1,e1];simp;omega
   ·rw [if_neg e1];by_cases e2:j<i
    ·have:j<i+1:=by omega
     simp [e2,this]
    ·have:¬j<i+1:=by omega
     simp [e2,this]
  have hready:e∈Region.ready .any ops (listed.setIfInBounds i true):=by
   refine mem_ready.2 ⟨by rw [Fw (by omega),hl2];simp,oe,hoe,fun x hx hb=>?_⟩;have h1:=Bg hbk e (by omega);rw [hoe] at h1;simp only [Option.map_some,Option.getD_some,Array.all_eq_true'] at h1;have:=h1 x hx;rw [hb] at this;have hlt':x.on<e:=by simpa using this
   rw [hl2];have a1:x.on<i+1:=by omega
   have a2:x.on≠e:=by omega
   simp [a1,a2]
  refine ⟨fun hn=>?_,fun j hj=>?_⟩
  ·rw [hn] at hready;cases hready
  ·obtain ⟨h3,h4⟩:=Ec hsz2 hj;rw [hl2] at h4;have hje:j=e:=by
    by_cases hje:j=e
    ·exact hje
    ·exfalso;by_cases h5:j<i+1
     ·simp [h5,hje] at h4
     ·obtain rfl:j=i+1:=by omega
      have:=H9 hj hw1;rw [hl2] at this;simp at this
   subst hje;refine F7 hoe hge (Oper.wp_mono (fun a w h=>?_) h);refine hone _ a w (by rw [Array.size_setIfInBounds];exact hsz2) (fun l=>?_) h;rw [Fo (by omega),hl2];by_cases e1:l=j
   ·rw [if_pos e1,e1];simp;omega
   ·rw [if_neg e1];simp [e1]
 ·refine ⟨⟨rfl,rfl,rfl,Nat.le_refl _,fun _ _=>rfl⟩,by simp,fun i _=>?_,fun i j hi=>?_,fun _=>undef,?_,fun i _ hi=>?_⟩
  ·exact Dq _ _
  ·rw [Dq] at hi;cases hi
  ·have:∀ n,Av ops (fun i=>(Array.replicate ops.size false).getD i false) (fun _=>undef) n a0=a0:=by
    intro n
    induction n with
    | zero=>rfl
    | succ n ih =>
      unfold Av;rw [if_neg (by rw [Dq];simp),ih]
   exact (this m).symm
  ·rw [Dq] at hi;cases hi
end
end Go.Proofs.YtinbgjcooolbiaaGreatDoor
