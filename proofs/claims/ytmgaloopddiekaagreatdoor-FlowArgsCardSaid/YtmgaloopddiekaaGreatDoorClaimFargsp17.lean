/- Words and contracts, part 17. -/
import Derived.Test.YtmgaloopddiekaaGreatDoorClaimFargsp14
import Derived.Orders
set_option maxRecDepth 100000
set_option maxHeartbeats 0
namespace Go.Proofs.YtmgaloopddiekaaGreatDoor
open Go.RowKit
section
variable {P:Program} {ops:Array Oper} {Q:Exit→Act→World→Prop} {md:Region.Mode}
def Au (ops:Array Oper) (i:Nat):Option Tmp:=(ops[i]?).bind (·.dst)
def Bm (md:Region.Mode) (ops:Array Oper) (i j:Nat):Bool :=
 ((ops[i]?).map fun o=>o.after.any fun e=>Region.binds md e&&e.on==j).getD false
def Cb (ops:Array Oper) (m:Nat):Bool:=(List.range m).all fun i=>(List.range m).all fun j=>i==j||Au ops i==none||Au ops i != Au ops j
def Ef (md:Region.Mode) (ops:Array Oper) (m i t:Nat):Bool:=(List.range m).all fun j=>Au ops j != some t||i==j||Bm md ops j i
def Cy (ops:Array Oper) (m n:Nat):Bool:=(List.range m).all fun j=>(Au ops j).all fun t=>decide (t<n)
def N5 (md:Region.Mode) (ops:Array Oper):Nat→List (List Nat)
 | 0=>[]
 | n+1=>N5 md ops n++[(List.range n).filter fun j=>Bm md ops n j||(List.range n).any fun k=>Bm md ops n k&&((N5 md ops n).getD k []).contains j]
def Jb (md:Region.Mode) (ops:Array Oper) (m:Nat):Bool :=
 (List.range ops.size).all fun i=>decide (i<m)||(List.range m).all fun j=>((N5 md ops ops.size).getD i []).contains j
theorem Hx (md:Region.Mode)(ops:Array Oper):∀ n,(N5 md ops n).length=n
 | 0=>rfl
 | n+1=>by unfold N5;rw [List.length_append,Hx md ops n];rfl
theorem Hy {md:Region.Mode}{ops:Array Oper}{L:Nat→Bool}(hcl:∀ i j,L i=true→Bm md ops i j=true→L j=true) :
 ∀ n i j,i<n→((N5 md ops n).getD i []).contains j=true→(∀ k,Bm md ops i k=true→L k=true)→L j=true
 | 0,_,_,h,_,_=>absurd h (Nat.not_lt_zero _)
 | n + 1, i, j, h, hc, hd => by
   unfold N5 at hc;by_cases hi:i<n
   ·rw [List.getD_eq_getElem?_getD,List.getElem?_append_left (by rw [Hx];exact hi),←List.getD_eq_getElem?_getD] at hc;exact Hy hcl n i j hi hc hd
   ·obtain rfl:i=n:=by omega
    rw [List.getD_eq_getElem?_getD,List.getElem?_append_right (by rw [Hx];exact Nat.le_refl _),Hx,Nat.sub_self] at hc;simp only [List.getElem?_cons_zero,Option.getD_some,List.contains_eq_mem,List.mem_filter,List.mem_range,decide_eq_true_eq,Bool.or_eq_true,List.any_eq_true,Bool.and_eq_true] at hc;obtain ⟨_,hw | ⟨k,hk,hwk,hck⟩⟩:=hc
    ·exact hd j hw
    ·exact Hy hcl i k j hk (by simpa [List.contains_eq_mem] using hck) (fun k' hk'=>hcl k k' (hd k hwk) hk')
def Dc (md:Region.Mode) (ops:Array Oper):Bool:=(List.range ops.size).all fun i=>((ops[i]?).map fun o=>o.after.all fun e=>!Region.binds md e||decide (e.on<i)).getD true
def upd {α:Type} (f:Nat→α) (i:Nat) (v:α):Nat→α:=fun j=>if j=i then v else f j
def Bl (ops:Array Oper) (S:Nat→Bool) (u:Nat→Value):Nat→Act→Act
 | 0,a=>a
 | k+1,a=>if S k then (Bl ops S u k a).put (Au ops k) (u k) else Bl ops S u k a
theorem Ep {S S':Nat→Bool}{u u':Nat→Value}{a:Act}:∀ n,(∀ j,j<n→S j=S' j∧u j=u' j)→Bl ops S u n a=Bl ops S' u' n a
 | 0,_=>rfl
 | n + 1, h => by
   unfold Bl;obtain ⟨h1,h2⟩:=h n (by omega);rw [h1,h2,Ep n (fun j hj=>h j (by omega))]
theorem M7 {S:Nat→Bool}{u:Nat→Value}{a:Act}{i:Nat}{v:Value}(hS:S i=false):∀ n,i<n →
 (∀ j,j<n→j≠i→Au ops i=none∨Au ops i≠Au ops j)→(Bl ops S u n a).put (Au ops i) v=Bl ops (upd S i true) (upd u i v) n a
 | 0,h,_=>absurd h (Nat.not_lt_zero _)
 | n + 1, h, hap => by
   by_cases hi:i=n
   ·subst hi;have e1:upd S i true i=true:=by simp [upd]
    have e2:upd u i v i=v:=by simp [upd]
    unfold Bl;rw [hS,e1,e2];simp only [Bool.false_eq_true,if_false,if_true];rw [Ep (S':=upd S i true) (u':=upd u i v) i (fun j hj=>by unfold upd;rw [if_neg (by omega),if_neg (by omega)];exact ⟨rfl,rfl⟩)]
   ·have e1:upd S i true n=S n:=by simp [upd];intro h;exact absurd h.symm hi
    have e2:upd u i v n=u n:=by unfold upd;rw [if_neg (fun h=>hi h.symm)]
    have ih:=M7 (u:=u) (a:=a) (v:=v) hS n (by omega) (fun j hj=>hap j (by omega));unfold Bl;rw [e1,e2];cases hn:S n
    ·simp only [Bool.false_eq_true,if_false];exact ih
    ·simp only [if_true];rw [←ih];refine Act.put_comm _ _ _ (fun d hd=>?_);intro hc;rcases hap n (by omega) (fun h=>hi h.symm) with h | h
     ·rw [h] at hc;cases hc
     ·exact h (hc.trans hd.symm)
theorem U5 (a:Act)(x:Option Tmp)(v:Value):(a.put x v).defers=a.defers:=by cases x<;>rfl
theorem Adm (a:Act)(x:Option Tmp)(v:Value):(a.put x v).tmps.size=a.tmps.size:=by cases x<;>simp [Act.put]
theorem Hl {S:Nat→Bool}{u:Nat→Value}{a:Act}:∀ n,(Bl ops S u n a).defers=a.defers
 | 0=>rfl
 | n + 1 => by
   unfold Bl;split
   ·rw [U5,Hl n]
   ·exact Hl n
theorem Nq {S:Nat→Bool}{u:Nat→Value}{a:Act}:∀ n,(Bl ops S u n a).tmps.size=a.tmps.size
 | 0=>rfl
 | n + 1 => by
   unfold Bl;split
   ·rw [Adm,Nq n]
   ·exact Nq n
theorem N7 (a:Act)(x:Option Tmp)(v:Value)(t:Nat)(h:x≠some t):(a.put x v).tmps.getD t undef=a.tmps.getD t undef:=by
 cases x with
 | none=>rfl
 | some d =>
   have:d≠t:=fun e=>h (by rw [e])
   simp only [Act.put,Array.getD_eq_getD_getElem?];rw [Array.getElem?_setIfInBounds_ne this]
theorem Uk (a:Act)(v:Value)(t:Nat)(h:t<a.tmps.size):(a.put (some t) v).tmps.getD t undef=v:=by
 simp only [Act.put,Array.getD_eq_getD_getElem?];simp [h]
theorem Fa {S:Nat→Bool}{u:Nat→Value}{a:Act}{t:Nat}:∀ n,(∀ j,j<n→S j=true→Au ops j≠some t) →
 (Bl ops S u n a).tmps.getD t undef=a.tmps.getD t undef
 | 0,_=>rfl
 | n + 1, h => by
   unfold Bl;split
   ·rename_i hs;rw [N7 _ _ _ _ (h n (by omega) hs),Fa n (fun j hj=>h j (by omega))]
   ·exact Fa n (fun j hj=>h j (by omega))
theorem Fb {S:Nat→Bool}{u:Nat→Value}{a:Act}{t i:Nat}(ht:t<a.tmps.size)(hS:S i=true)(hi:Au ops i=some t):∀ n,i<n →
 (∀ j,j<n→j≠i→Au ops j≠some t)→(Bl ops S u n a).tmps.getD t undef=u i
 | 0,h,_=>absurd h (Nat.not_lt_zero _)
 | n + 1, h, hap => by
   unfold Bl;by_cases he:i=n
   ·subst he;rw [hS,hi];simp only [if_true];exact Uk _ _ _ (by rw [Nq];exact ht)
   ·split
    ·rw [N7 _ _ _ _ (hap n (by omega) (fun h=>he h.symm)),Fb ht hS hi n (by omega) (fun j hj=>hap j (by omega))]
    ·exact Fb ht hS hi n (by omega) (fun j hj=>hap j (by omega))
theorem Ew (n i:Nat):(Array.replicate n false).getD i false=false:=by
 rw [Array.getD_eq_getD_getElem?];by_cases h:i<n
 ·rw [Array.getElem?_eq_getElem (by simpa using h)];simp
 ·rw [Array.getElem?_eq_none (by simpa using h)];rfl
def Bp (P:Program) (ops:Array Oper) (Q:Exit→Act→World→Prop) (V:Nat→Value→World→Prop) (i:Nat) (o:Oper) (a:Act) (w:World):Prop :=
 if Region.wanted o (yielded ops a.tmps)=true then o.wp P a w (fun a' w'=>∃ v,a'=a.put o.dst v∧Kept w w'∧V i v w') Q else V i undef w
structure Finds (md:Region.Mode) (ops:Array Oper) (m:Nat) (V:Nat→Value→World→Prop) (a0:Act) (W:World) (i:Nat) (a:Act) (w:World):Prop where
 kept:Kept W w
 defers:a.defers=a0.defers
 done:∀ j t,Bm md ops i j=true→Au ops j=some t→V j (a.tmps.getD t undef) w
 old:∀ t,Ef md ops m i t=true→a.tmps.getD t undef=a0.tmps.getD t undef
theorem Bz {n:Nat}{p:Nat→Bool}(h:(List.range n).all p=true)(i:Nat)(hi:i<n):p i=true:=by
 rw [List.all_eq_true] at h;exact h i (List.mem_range.2 hi)
def Mg (P:Program) (ops:Array Oper) (Q:Exit→Act→World→Prop) (J:(Nat→Bool)→(Nat→Value)→World→Prop) (L:Nat→Bool) (u:Nat→Value) (i:Nat) (o:Oper) (a:Act) (w:World):Prop :=
 if Region.wanted o (yielded ops a.tmps)=true then o.wp P a w (fun a' w'=>∃ v,a'=a.put o.dst v∧J (upd L i true) (upd u i v) w') Q else J (upd L i true) (upd u i undef) w
structure L0 (md:Region.Mode) (ops:Array Oper) (m:Nat) (J:(Nat→Bool)→(Nat→Value)→World→Prop) (a0:Act) (L:Nat→Bool) (u:Nat→Value) (i:Nat) (a:Act) (w:World):Prop where
 frame:J L u w
 yet:L i=false
 wait:∀ j,Bm md ops i j=true→L j=true
 lt:∀ j,L j=true→j<m
 defers:a.defers=a0.defers
 done:∀ j t,Bm md ops i j=true→Au ops j=some t→a.tmps.getD t undef=u j
 old:∀ t,Ef md ops m i t=true→a.tmps.getD t undef=a0.tmps.getD t undef
structure Aiv (md:Region.Mode) (ops:Array Oper) (m:Nat) (J:(Nat→Bool)→(Nat→Value)→World→Prop) (a0:Act) (listed:Array Bool) (a:Act) (w:World):Prop where
 size:listed.size=ops.size
 tail:∀ i,m≤i→listed.getD i false=false
 closed:∀ i j,listed.getD i false=true→Bm md ops i j=true→listed.getD j false=true
 vals:∃ u,a=Bl ops (fun i=>listed.getD i false) u m a0∧J (fun i=>listed.getD i false) u w
theorem Qw            {m:Nat}{J:(Nat→Bool)→(Nat→Value)→World→Prop}{a0:Act}
 (hsz:m≤ops.size) (hap:Cb ops m=true) (hin:Cy ops m a0.tmps.size=true) (htl:Jb md ops m=true) (hbk:Dc md ops=true)
 (hstep:∀ i o,i<m→ops[i]?=some o→∀ L u a w,L0 md ops m J a0 L u i a w→Mg P ops Q J L u i o a w)
 (hend:∀ u w L,(∀ i,i<m→L i=true)→J L u w→∀ listed:Array Bool,listed.size=ops.size→(∀ i,listed.getD i false=decide (i<m))→wpAny P md ops Q (ops.size-m) listed (Bl ops (fun _=>true) u m a0) w) :
 ∀ (k:Nat) (listed:Array Bool) (a:Act) (w:World),((List.range m).filter fun i=>!listed.getD i false).length=k→Aiv md ops m J a0 listed a w→wpAny P md ops Q (ops.size-m+k) listed a w:=by
 intro k
 induction k with
 | zero =>
   intro listed a w hk hI;obtain ⟨u,rfl,hu⟩:=hI.vals;have hall:∀ i,i<m→listed.getD i false=true:=by
    intro i hi;have h1:=List.eq_nil_of_length_eq_zero hk;have h2:∀ x∈(List.range m).filter (fun i=>!listed.getD i false),False:=by rw [h1];intro x hx;cases hx
    cases hc:listed.getD i false
    ·exact (h2 i (List.mem_filter.2 ⟨List.mem_range.2 hi,by rw [hc];rfl⟩)).elim
    ·rfl
   have e:Bl ops (fun i=>listed.getD i false) u m a0=Bl ops (fun _=>true) u m a0:=Ep m (fun j hj=>⟨hall j hj,rfl⟩);rw [e];refine hend u w _ hall hu listed hI.size (fun i=>?_);by_cases hi:i<m
   ·rw [hall i hi];simp [hi]
   ·rw [hI.tail i (by omega)];simp [hi]
 | succ k ih =>
   intro listed a w hk hI;obtain ⟨u,rfl,hu⟩:=hI.vals
   -- the first one that has not come up is ready, or some are ready
   refine ⟨fun hnone=>?_,fun i hi=>?_⟩
   ·exfalso;have hex:∃ x,x<m∧listed.getD x false=false:=by
     cases hl:(List.range m).filter (fun i=>!listed.getD i false) with
     | nil=>rw [hl] at hk;simp at hk
     | cons x xs =>
       have hx:x∈(List.range m).filter (fun i=>!listed.getD i false):=by rw [hl];exact List.mem_cons_self ..
       obtain ⟨h1,h2⟩:=List.mem_filter.1 hx;exact ⟨x,List.mem_range.1 h1,by simpa using h2⟩
    have hmin : ∀ n x, x ≤ n → x < m → listed.getD x false = false → ∃ y, y ∈ Region.ready md ops listed := by
     intro n
     induction n with
     | zero => 
       intro x hx hxm hxl;obtain rfl:x=0:=by omega
       refine ⟨0,mem_ready.2 ⟨?_,ops[0],Array.getElem?_eq_getElem (by omega),fun e he hb=>?_⟩⟩
       ·rw [Array.getD_eq_getD_getElem?,Array.getElem?_eq_getElem (by rw [hI.size];omega)] at hxl ⊢;exact hxl
       ·have h1:=Bz hbk 0 (by omega);rw [Array.getElem?_eq_getElem (show 0<ops.size by omega)] at h1;simp only [Option.map_some,Option.getD_some,Array.all_eq_true'] at h1;have:=h1 e he;rw [hb] at this;simp at this
     | succ n ihn =>
       intro x hx hxm hxl;by_cases hall:∀ j,Bm md ops x j=true→listed.getD j false=true
       ·refine ⟨x,mem_ready.2 ⟨?_,ops[x],Array.getElem?_eq_getElem (by omega),fun e he hb=>?_⟩⟩
        ·rw [Array.getD_eq_getD_getElem?,Array.getElem?_eq_getElem (by rw [hI.size];omega)] at hxl ⊢;exact hxl
        ·refine hall e.on ?_;unfold Bm;rw [Array.getElem?_eq_getElem (show x<ops.size by omega)];simp only [Option.map_some,Option.getD_some,Array.any_eq_true'];exact ⟨e,he,by rw [hb];simp⟩
       ·obtain ⟨j,hj⟩:=Classical.not_forall.1 hall;obtain ⟨hj1,hj2⟩:=Classical.not_imp.1 hj;have hjx:j<x:=by
         have h1:=Bz hbk x (by omega);unfold Bm at hj1;rw [Array.getElem?_eq_getElem (show x<ops.size by omega)] at h1 hj1;simp only [Option.map_some,Option.getD_some,Array.all_eq_true',Array.any_eq_true'] at h1 hj1;obtain ⟨e,he,hb⟩:=hj1;simp only [Bool.and_eq_true,beq_iff_eq] at hb;have:=h1 e he;rw [hb.1,hb.2] at this;simpa using this
        exact ihn j (by omega) (by omega) (by simpa using hj2)
    obtain ⟨x,hx1,hx2⟩:=hex;obtain ⟨y,hy⟩:=hmin x x (Nat.le_refl _) hx1 hx2;rw [hnone] at hy;cases hy
   ·obtain ⟨hjun,oi,hoi,hdep⟩:=mem_ready.1 hi;have hil:i<listed.size:=by
     by_cases hc:i<listed.size
     ·exact hc
     ·rw [Array.getD_eq_getD_getElem?,Array.getElem?_eq_none (by omega)] at hjun;simp at hjun
    have hfalse:listed.getD i false=false:=by
     rw [Array.getD_eq_getD_getElem?,Array.getElem?_eq_getElem hil] at *;exact hjun
    have hdone:∀ j,Bm md ops i j=true→listed.getD j false=true:=by
     intro j hj;unfold Bm at hj;rw [hoi] at hj;simp only [Option.map_some,Option.getD_some,Array.any_eq_true'] at hj;obtain ⟨e,he,hb⟩:=hj;simp only [Bool.and_eq_true,beq_iff_eq] at hb;have:=hdep e he hb.1;rw [hb.2] at this;exact this
    by_cases him:i<m
    ·have hF:L0 md ops m J a0 (fun i=>listed.getD i false) u i (Bl ops (fun i=>listed.getD i false) u m a0) w:=by
      refine ⟨hu,hfalse,hdone,fun j hj=>Classical.byContradiction fun hc=>(by rw [hI.tail j (by omega)] at hj;cases hj),Hl m,fun j t hw hs=>?_,fun t hu0=>?_⟩
      ·have hjl:=hdone j hw;have hjm:j<m:=by
        by_cases hc:j<m
        ·exact hc
        ·rw [hI.tail j (by omega)] at hjl;cases hjl
       have htn:t<a0.tmps.size:=by
        have:=Bz hin j hjm;rw [hs] at this;simpa using this
       rw [Fb (i:=j) htn hjl hs m hjm (fun j' hj' hne=>?_)]
       ·have h1:=Bz (Bz hap j hjm) j' hj';rw [hs] at h1;simp only [Bool.or_eq_true,beq_iff_eq,bne_iff_ne] at h1;rcases h1 with (h1 | h1) | h1
        ·exact absurd h1.symm hne
        ·cases h1
        ·exact fun h=>h1 h.symm
      ·refine Fa m (fun j hj hjl hs=>?_);have h1:=Bz hu0 j hj;rw [hs] at h1;simp only [bne_self_eq_false,Bool.false_or,Bool.or_eq_true,beq_iff_eq] at h1;rcases h1 with h1 | h1
       ·rw [←h1,hfalse] at hjl;cases hjl
       ·have:=hI.closed j i hjl h1;rw [hfalse] at this;cases this
     have hs:=hstep i oi him hoi _ _ _ w hF;unfold Mg at hs;unfold wpOp;simp only [hoi];have hput:∀ v w',J (upd (fun i=>listed.getD i false) i true) (upd u i v) w'→Aiv md ops m J a0 (listed.setIfInBounds i true) ((Bl ops (fun i=>listed.getD i false) u m a0).put oi.dst v) w':=by
      intro v w' hk';have hso:oi.dst=Au ops i:=by unfold Au;rw [hoi];rfl
      have hset:∀ j,(listed.setIfInBounds i true).getD j false=upd (fun i=>listed.getD i false) i true j:=by
       intro j;unfold upd;by_cases hj:j=i
       ·subst hj;rw [if_pos rfl,Array.getD_eq_getD_getElem?];simp [hil]
       ·rw [if_neg hj,getD_set_ne false (fun h=>hj h.symm)]
      refine ⟨by rw [Array.size_setIfInBounds,hI.size],fun j hj=>?_,fun j l hj hw=>?_,upd u i v,?_,by rw [show (fun j=>(listed.setIfInBounds i true).getD j false)=upd (fun i=>listed.getD i false) i true from funext hset];exact hk'⟩
      ·rw [getD_set_ne false (by omega)];exact hI.tail j hj
      ·rw [hset] at hj ⊢;unfold upd at hj ⊢;by_cases hji:j=i
       ·subst hji;by_cases hli:l=j
        ·rw [if_pos hli]
        ·rw [if_neg hli];exact hdone l hw
       ·rw [if_neg hji] at hj;by_cases hli:l=i
        ·rw [if_pos hli]
        ·rw [if_neg hli];exact hI.closed j l hj hw
      ·rw [hso,M7 (S:=fun i=>listed.getD i false) hfalse m him (fun j hj hne=>?_)]
       ·exact Ep m (fun j _=>⟨(hset j).symm,rfl⟩)
       ·have h1:=Bz (Bz hap i him) j hj;simp only [Bool.or_eq_true,beq_iff_eq,bne_iff_ne] at h1;rcases h1 with (h1 | h1) | h1
        ·exact absurd h1.symm hne
        ·exact .inl h1
        ·exact .inr h1
     have hcount : ((List.range m).filter fun j => !(listed.setIfInBounds i true).getD j false).length = k := by
      have h1:(List.range m).filter (fun j=>!(listed.setIfInBounds i true).getD j false)=((List.range m).filter (fun j=>!listed.getD j false)).filter (fun j=>j != i):=by
       rw [List.filter_filter];apply List.filter_congr;intro j _;by_cases hj:j=i
       ·subst hj;rw [Array.getD_eq_getD_getElem?];simp [hil]
       ·rw [getD_set_ne false (fun h=>hj h.symm)];simp [hj]
      rw [h1];have hnd:((List.range m).filter (fun j=>!listed.getD j false)).Nodup:=List.Pairwise.filter _ List.nodup_range;have hmem:i∈(List.range m).filter (fun j=>!listed.getD j false):=List.mem_filter.2 ⟨List.mem_range.2 him,by rw [hfalse];rfl⟩;have h2 : ∀ (l : List Nat), l.Nodup → i ∈ l → (l.filter (fun j => j != i)).length + 1 = l.length := by
       intro l
       induction l with
       | nil=>intro _ h;cases h
       | cons x xs ihx =>
         intro hn hm;obtain ⟨hx,hn'⟩:=List.nodup_cons.1 hn;by_cases hxi:x=i
         ·subst hxi;have:xs.filter (fun j=>j != x)=xs:=by
           rw [List.filter_eq_self];intro y hy;simp only [bne_iff_ne];rintro rfl;exact hx hy
          rw [List.filter_cons_of_neg (by simp),this];rfl
         ·have hm':i∈xs:=by
           rcases List.mem_cons.1 hm with h | h
           ·exact absurd h.symm hxi
           ·exact h
          rw [List.filter_cons_of_pos (by simp [hxi])];simp only [List.length_cons];rw [ihx hn' hm']
      have:=h2 _ hnd hmem;omega
     by_cases hw:Region.wanted oi (yielded ops (Bl ops (fun i=>listed.getD i false) u m a0).tmps)=true
     ·rw [if_pos hw] at hs ⊢;refine .inl (Oper.wp_mono (fun a' w' h=>?_) hs);obtain ⟨v,rfl,hk'⟩:=h;exact ih _ _ _ hcount (hput v w' hk')
     ·rw [if_neg hw] at hs ⊢;exact ih _ _ _ hcount (hput undef w hs)
    ·-- an operation behind waits for one that has not come up
     exfalso;have hex:∃ x,x<m∧listed.getD x false=false:=by
      cases hl:(List.range m).filter (fun i=>!listed.getD i false) with
      | nil=>rw [hl] at hk;simp at hk
      | cons x xs =>
        have hx:x∈(List.range m).filter (fun i=>!listed.getD i false):=by rw [hl];exact List.mem_cons_self ..
        obtain ⟨h1,h2⟩:=List.mem_filter.1 hx;exact ⟨x,List.mem_range.1 h1,by simpa using h2⟩
     obtain ⟨x,hx1,hx2⟩:=hex;have h1:=Bz htl i (by rw [←hI.size];exact hil);simp only [Bool.or_eq_true,decide_eq_true_eq] at h1;have h2:=Hy (L:=fun j=>listed.getD j false) hI.closed ops.size i x (by rw [←hI.size];exact hil) (Bz (h1.resolve_left him) x hx1) hdone;rw [hx2] at h2;cases h2
theorem L8 {m:Nat}{J:(Nat→Bool)→(Nat→Value)→World→Prop}{a0:Act}{W:World}(hsz:m≤ops.size)(hap:Cb ops m=true)(hin:Cy ops m a0.tmps.size=true)(htl:Jb .any ops m=true)(hbk:Dc .any ops=true)
 (hJ:J (fun _=>false) (fun _=>undef) W.drew)
 (hstep:∀ i o,i<m→ops[i]?=some o→∀ L u a w,L0 .any ops m J a0 L u i a w→Mg P ops Q J L u i o a w)
 (hend:∀ u w L,(∀ i,i<m→L i=true)→J L u w→∀ listed:Array Bool,listed.size=ops.size→(∀ i,listed.getD i false=decide (i<m))→wpAny P .any ops Q (ops.size-m) listed (Bl ops (fun _=>true) u m a0) w) :
 wpAny P .any ops Q ops.size (Array.replicate ops.size false) a0 W.drew:=by
 have h:=Qw (md:=.any) (a0:=a0) (J:=J) (Q:=Q) (P:=P) hsz hap hin htl hbk hstep hend
  ((List.range m).filter fun i=>!(Array.replicate ops.size false).getD i false).length (Array.replicate ops.size false) a0 W.drew rfl ?_
 ·have e:ops.size-m+((List.range m).filter fun i=>!(Array.replicate ops.size false).getD i false).length=ops.size:=by
   have:(List.range m).filter (fun i=>!(Array.replicate ops.size false).getD i false)=List.range m:=by
    rw [List.filter_eq_self];intro i hi;rw [Ew];rfl
   rw [this,List.length_range];omega
  rw [e] at h;exact h
 ·refine ⟨by simp,fun i _=>?_,fun i j hi=>?_,fun _=>undef,?_,by rw [show (fun i=>(Array.replicate ops.size false).getD i false)=fun _=>false from funext fun i=>Ew _ _];exact hJ⟩
  ·exact Ew _ _
  ·rw [Ew] at hi;cases hi
  ·have:∀ n,Bl ops (fun i=>(Array.replicate ops.size false).getD i false) (fun _=>undef) n a0=a0:=by
    intro n
    induction n with
    | zero=>rfl
    | succ n ih =>
      unfold Bl;rw [if_neg (by rw [Ew];simp),ih]
   exact (this m).symm
theorem Hr {l:Array Bool}{i:Nat}(h:i<l.size):l.getD i true=l.getD i false:=by
 rw [Array.getD_eq_getD_getElem?,Array.getD_eq_getD_getElem?,Array.getElem?_eq_getElem h];rfl
theorem G4 {m:Nat}{listed:Array Bool}(hm:m<ops.size)(hl:listed.size=ops.size)(hbk:Dc md ops=true)(hd:∀ i,i<m→listed.getD i false=true)(h0:listed.getD m false=false):m∈Region.ready md ops listed:=by
 refine mem_ready.2 ⟨by rw [Hr (by omega)];exact h0,ops[m],Array.getElem?_eq_getElem hm,fun e he hb=>?_⟩;have h1:=Bz hbk m hm;rw [Array.getElem?_eq_getElem hm] at h1;simp only [Option.map_some,Option.getD_some,Array.all_eq_true'] at h1;have:=h1 e he;rw [hb] at this;exact hd _ (by simpa using this)
theorem Fh {i:Nat}{listed:Array Bool}(hl:listed.size=ops.size)(h:i∈Region.ready md ops listed):i<ops.size∧listed.getD i false=false:=by
 obtain ⟨h1,o,ho,_⟩:=mem_ready.1 h;have h3:i<ops.size:=(Array.getElem?_eq_some_iff.1 ho).1;rw [Hr (by omega)] at h1;exact ⟨h3,h1⟩
theorem Hh {l:Array Bool}{i:Nat}(h:i<l.size)(j:Nat):(l.setIfInBounds i true).getD j false=if j=i then true else l.getD j false:=by
 by_cases hj:j=i
 ·subst hj;rw [if_pos rfl,Array.getD_eq_getD_getElem?];simp [h]
 ·rw [if_neg hj,getD_set_ne false (fun h=>hj h.symm)]
theorem H5 {i:Nat}{o:Oper}{K:Act→World→Prop}{a:Act}{w:World}(ho:ops[i]?=some o)(hg:o.guard=none)(h:o.wp P a w K Q):wpOp P ops Q i K a w:=by
 unfold wpOp;simp only [ho];have:Region.wanted o (yielded ops a.tmps)=true:=by simp [Region.wanted,hg]
 rw [if_pos this];exact .inl h
theorem Ob {id m:Nat}{J:(Nat→Bool)→(Nat→Value)→World→Prop}{a0:Act}{W:World}(hm:P.follows .mixedOrders=true)
 (hsz:m=ops.size) (hap:Cb ops m=true) (hin:Cy ops m a0.tmps.size=true) (hbk:Dc .any ops=true)
 (hJ:J (fun _=>false) (fun _=>undef) W.drew)
 (hstep:∀ i o,i<m→ops[i]?=some o→∀ L u a w,L0 .any ops m J a0 L u i a w→Mg P ops Q J L u i o a w)
 (hend:∀ u w L,(∀ i,i<m→L i=true)→J L u w→Q .normal (Bl ops (fun _=>true) u m a0) w) :
 (Code.region id ops true).wp P Q a0 W:=by
 have htl:Jb .any ops m=true:=by
  unfold Jb;rw [List.all_eq_true];intro i hi;have:=List.mem_range.1 hi;simp;left;omega
 refine wp_region_any hm (L8 (by omega) hap hin htl hbk hJ hstep fun u w L hL hk listed hl hlt=>?_);have:ops.size-m=0:=by omega
 rw [this];refine ⟨?_,hend u w L hL hk⟩;rw [List.eq_nil_iff_forall_not_mem];intro i hi;obtain ⟨h1,o,ho,_⟩:=mem_ready.1 hi;have h2:=hlt i;have h3:i<ops.size:=(Array.getElem?_eq_some_iff.1 ho).1;rw [Array.getD_eq_getD_getElem?,Array.getElem?_eq_getElem (by omega)] at h1 h2;simp only [Option.getD_some] at h1 h2;rw [h1] at h2;simp at h2;omega
theorem S5 {id m:Nat}{J:(Nat→Bool)→(Nat→Value)→World→Prop}{a0:Act}{W:World}{o:Oper}(hm:P.follows .mixedOrders=true)
 (hsz:m+1=ops.size) (ho:ops[m]?=some o) (hg:o.guard=none) (hap:Cb ops m=true) (hin:Cy ops m a0.tmps.size=true) (htl:Jb .any ops m=true) (hbk:Dc .any ops=true)
 (hJ:J (fun _=>false) (fun _=>undef) W.drew)
 (hstep:∀ i o,i<m→ops[i]?=some o→∀ L u a w,L0 .any ops m J a0 L u i a w→Mg P ops Q J L u i o a w)
 (hend:∀ u w L,(∀ i,i<m→L i=true)→J L u w→o.wp P (Bl ops (fun _=>true) u m a0) w (Q .normal) Q) :
 (Code.region id ops true).wp P Q a0 W:=by
 refine wp_region_any hm (L8 (by omega) hap hin htl hbk hJ hstep fun u w L hL hk listed hl hlt=>?_);have hs:ops.size-m=0+1:=by omega
 rw [hs];refine ⟨fun hn=>?_,fun i hi=>?_⟩
 ·have:=G4 (md:=.any) (m:=m) (by omega) hl hbk (fun i hi=>by rw [hlt];simp [hi]) (by rw [hlt];simp);rw [hn] at this;cases this
 ·obtain ⟨h1,h2⟩:=Fh hl hi;rw [hlt] at h2;simp at h2;obtain rfl:i=m:=by omega
  refine H5 ho hg (Oper.wp_mono (fun a w h=>?_) (hend u w L hL hk));refine ⟨?_,h⟩;rw [List.eq_nil_iff_forall_not_mem];intro j hj;obtain ⟨h3,h4⟩:=Fh (by rw [Array.size_setIfInBounds];exact hl) hj;rw [Hh (by omega),hlt] at h4;by_cases hji:j=i
  ·rw [if_pos hji] at h4;cases h4
  ·rw [if_neg hji] at h4;simp at h4;omega
theorem S6 {id m:Nat}{J:(Nat→Bool)→(Nat→Value)→World→Prop}{a0:Act}{W:World}{o o':Oper}(hm:P.follows .mixedOrders=true)
 (hsz:m+2=ops.size) (ho:ops[m]?=some o) (hg:o.guard=none) (ho':ops[m+1]?=some o') (hg':o'.guard=none)
 (hap:Cb ops m=true) (hin:Cy ops m a0.tmps.size=true) (htl:Jb .any ops m=true) (hbk:Dc .any ops=true)
 (hJ:J (fun _=>false) (fun _=>undef) W.drew)
 (hstep:∀ i o,i<m→ops[i]?=some o→∀ L u a w,L0 .any ops m J a0 L u i a w→Mg P ops Q J L u i o a w)
 (hend:∀ u w L,(∀ i,i<m→L i=true)→J L u w→o.wp P (Bl ops (fun _=>true) u m a0) w (fun a w=>o'.wp P a w (Q .normal) Q) Q ∧
   (Bm .any ops (m+1) m=true∨o'.wp P (Bl ops (fun _=>true) u m a0) w (fun a w=>o.wp P a w (Q .normal) Q) Q)) :
 (Code.region id ops true).wp P Q a0 W:=by
 refine wp_region_any hm (L8 (by omega) hap hin htl hbk hJ hstep fun u w L hL hk listed hl hlt=>?_);obtain ⟨hA,hB⟩:=hend u w L hL hk;have hs:ops.size-m=1+1:=by omega
 rw [hs];have hdone:∀ (l:Array Bool) (a:Act) (w:World),l.size=ops.size→(∀ i,i<m+2→l.getD i false=true)→Q .normal a w→wpAny P .any ops Q 0 l a w:=by
  intro l a w hl h hq;refine ⟨?_,hq⟩;rw [List.eq_nil_iff_forall_not_mem];intro j hj;obtain ⟨h3,h4⟩:=Fh hl hj;rw [h j (by omega)] at h4;cases h4
 refine ⟨fun hn=>?_,fun i hi=>?_⟩
 ·have:=G4 (md:=.any) (m:=m) (by omega) hl hbk (fun i hi=>by rw [hlt];simp [hi]) (by rw [hlt];simp);rw [hn] at this;cases this
 ·obtain ⟨h1,h2⟩:=Fh hl hi;rw [hlt] at h2;simp at h2;have hsz2:∀ k:Nat,(listed.setIfInBounds k true).size=ops.size:=fun k=>by rw [Array.size_setIfInBounds];exact hl
  have hlk:∀ k j:Nat,k<ops.size→(listed.setIfInBounds k true).getD j false=if j=k then true else decide (j<m):=fun k j hk=>by
   rw [Hh (by omega),hlt]
  by_cases him:i=m
  ·subst him;refine H5 ho hg (Oper.wp_mono (fun a w h=>?_) hA);refine ⟨fun hn=>?_,fun j hj=>?_⟩
   ·have:=G4 (md:=.any) (m:=i+1) (by omega) (hsz2 i) hbk (fun j hj=>by rw [hlk i j h1];by_cases hji:j=i<;>simp [hji];omega) (by rw [hlk i _ h1];simp);rw [hn] at this;cases this
   ·obtain ⟨h3,h4⟩:=Fh (hsz2 i) hj;rw [hlk i j h1] at h4;by_cases hji:j=i
    ·rw [if_pos hji] at h4;cases h4
    ·rw [if_neg hji] at h4;simp at h4;obtain rfl:j=i+1:=by omega
     refine H5 ho' hg' (Oper.wp_mono (fun a w h=>?_) h);refine hdone _ a w (by rw [Array.size_setIfInBounds];exact hsz2 i) (fun l hl'=>?_) h;rw [Hh (by rw [hsz2];omega),hlk i l h1];by_cases e1:l=i+1
     ·rw [if_pos e1]
     ·rw [if_neg e1];by_cases e2:l=i
      ·rw [if_pos e2]
      ·rw [if_neg e2];simp;omega
  ·obtain rfl:i=m+1:=by omega
   rcases hB with hB | hB
   ·exfalso;obtain ⟨_,oi,hoi,hdep⟩:=mem_ready.1 hi;unfold Bm at hB;rw [hoi] at hB;simp only [Option.map_some,Option.getD_some,Array.any_eq_true'] at hB;obtain ⟨e,he,hb⟩:=hB;simp only [Bool.and_eq_true,beq_iff_eq] at hb;have:=hdep e he hb.1;rw [hb.2,hlt] at this;simp at this
   ·refine H5 ho' hg' (Oper.wp_mono (fun a w h=>?_) hB);refine ⟨fun hn=>?_,fun j hj=>?_⟩
    ·have:=G4 (md:=.any) (m:=m) (by omega) (hsz2 (m+1)) hbk (fun j hj=>by rw [hlk _ j h1,if_neg (by omega)];simp [hj]) (by rw [hlk _ _ h1,if_neg (by omega)];simp);rw [hn] at this;cases this
    ·obtain ⟨h3,h4⟩:=Fh (hsz2 (m+1)) hj;rw [hlk _ j h1] at h4;by_cases hji:j=m+1
     ·rw [if_pos hji] at h4;cases h4
     ·rw [if_neg hji] at h4;simp at h4;obtain rfl:j=m:=by omega
      refine H5 ho hg (Oper.wp_mono (fun a w h=>?_) h);refine hdone _ a w (by rw [Array.size_setIfInBounds];exact hsz2 _) (fun l hl'=>?_) h;rw [Hh (by rw [hsz2];omega),hlk _ l h1];by_cases e1:l=j
      ·rw [if_pos e1]
      ·rw [if_neg e1];by_cases e2:l=j+1
       ·rw [if_pos e2]
       ·rw [if_neg e2];simp;omega
theorem Qg {m:Nat}{V:Nat→Value→World→Prop}{a0:Act}{W:World}(hmono:∀ i v w w',Kept w w'→V i v w→V i v w')
 (hstep:∀ i o,i<m→ops[i]?=some o→∀ a w,Finds md ops m V a0 W i a w→Bp P ops Q V i o a w) :
 ∀ i o,i<m→ops[i]?=some o→∀ L u a w,L0 md ops m (fun L u w=>Kept W w∧∀ j,j<m→L j=true→V j (u j) w) a0 L u i a w→Mg P ops Q (fun L u w=>Kept W w∧∀ j,j<m→L j=true→V j (u j) w) L u i o a w:=by
 intro i o hi ho L u a w F;obtain ⟨f1,f2⟩:=F.frame;have h:=hstep i o hi ho a w ⟨f1,F.defers,fun j t h1 h2=>by rw [F.done j t h1 h2];exact f2 j (F.lt j (F.wait j h1)) (F.wait j h1),F.old⟩;have up:∀ (v:Value) (w':World),Kept w w'→V i v w'→Kept W w'∧∀ j,j<m→upd L i true j=true→V j (upd u i v j) w':=by
  intro v w' k hv;refine ⟨f1.trans k,fun j hj hL=>?_⟩;by_cases e:j=i
  ·subst e;simpa [upd] using hv
  ·have:L j=true:=by simpa [upd,e] using hL
   have:=hmono j _ w w' k (f2 j hj this);simpa [upd,e] using this
 unfold Bp at h;unfold Mg;by_cases hw:Region.wanted o (yielded ops a.tmps)=true
 ·rw [if_pos hw] at h ⊢;refine Oper.wp_mono (fun a' w' q=>?_) h;obtain ⟨v,rfl,k,hv⟩:=q;exact ⟨v,rfl,up v w' k hv⟩
 ·rw [if_neg hw] at h ⊢;exact up undef w (Below.refl _ _) h
theorem Xh {id m:Nat}{V:Nat→Value→World→Prop}{a0:Act}{W:World}(hm:P.follows .mixedOrders=true)
 (hsz:m=ops.size) (hap:Cb ops m=true) (hin:Cy ops m a0.tmps.size=true) (hbk:Dc .any ops=true)
 (hmono:∀ i v w w',Kept w w'→V i v w→V i v w')
 (hstep:∀ i o,i<m→ops[i]?=some o→∀ a w,Finds .any ops m V a0 W i a w→Bp P ops Q V i o a w)
 (hend:∀ u w,Kept W w→(∀ i,i<m→V i (u i) w)→Q .normal (Bl ops (fun _=>true) u m a0) w) :
 (Code.region id ops true).wp P Q a0 W :=
 Ob (J:=fun L u w=>Kept W w∧∀ j,j<m→L j=true→V j (u j) w) hm hsz hap hin hbk ⟨(Below.refl _ _).drew,fun _ _ h=>by cases h⟩ (Qg hmono hstep) (fun u w L hL hJ=>hend u w hJ.1 fun i hi=>hJ.2 i hi (hL i hi))
theorem Vc {id m:Nat}{V:Nat→Value→World→Prop}{a0:Act}{W:World}{o:Oper}(hm:P.follows .mixedOrders=true)
 (hsz:m+1=ops.size) (ho:ops[m]?=some o) (hg:o.guard=none) (hap:Cb ops m=true) (hin:Cy ops m a0.tmps.size=true) (htl:Jb .any ops m=true) (hbk:Dc .any ops=true)
 (hmono:∀ i v w w',Kept w w'→V i v w→V i v w')
 (hstep:∀ i o,i<m→ops[i]?=some o→∀ a w,Finds .any ops m V a0 W i a w→Bp P ops Q V i o a w)
 (hend:∀ u w,Kept W w→(∀ i,i<m→V i (u i) w)→o.wp P (Bl ops (fun _=>true) u m a0) w (Q .normal) Q) :
 (Code.region id ops true).wp P Q a0 W :=
 S5 (J:=fun L u w=>Kept W w∧∀ j,j<m→L j=true→V j (u j) w) hm hsz ho hg hap hin htl hbk ⟨(Below.refl _ _).drew,fun _ _ h=>by cases h⟩ (Qg hmono hstep) (fun u w L hL hJ=>hend u w hJ.1 fun i hi=>hJ.2 i hi (hL i hi))
theorem Vd {id m:Nat}{V:Nat→Value→World→Prop}{a0:Act}{W:World}{o o':Oper}(hm:P.follows .mixedOrders=true)
 (hsz:m+2=ops.size) (ho:ops[m]?=some o) (hg:o.guard=none) (ho':ops[m+1]?=some o') (hg':o'.guard=none)
 (hap:Cb ops m=true) (hin:Cy ops m a0.tmps.size=true) (htl:Jb .any ops m=true) (hbk:Dc .any ops=true)
 (hmono:∀ i v w w',Kept w w'→V i v w→V i v w')
 (hstep:∀ i o,i<m→ops[i]?=some o→∀ a w,Finds .any ops m V a0 W i a w→Bp P ops Q V i o a w)
 (hend:∀ u w,Kept W w→(∀ i,i<m→V i (u i) w)→o.wp P (Bl ops (fun _=>true) u m a0) w (fun a w=>o'.wp P a w (Q .normal) Q) Q ∧
   (Bm .any ops (m+1) m=true∨o'.wp P (Bl ops (fun _=>true) u m a0) w (fun a w=>o.wp P a w (Q .normal) Q) Q)) :
 (Code.region id ops true).wp P Q a0 W :=
 S6 (J:=fun L u w=>Kept W w∧∀ j,j<m→L j=true→V j (u j) w) hm hsz ho hg ho' hg' hap hin htl hbk ⟨(Below.refl _ _).drew,fun _ _ h=>by cases h⟩ (Qg hmono hstep) (fun u w L hL hJ=>hend u w hJ.1 fun i hi=>hJ.2 i hi (hL i hi))
end
section
variable {P:Program} {ops:Array Oper} {Q:Exit→Act→World→Prop} {md:Region.Mode}
def Lm (P:Program) (ops:Array Oper) (Q:Exit→Act→World→Prop) (J:(Nat→Bool)→World→Prop) (V:Nat→Value→World→Prop) (L:Nat→Bool) (i:Nat) (o:Oper) (a:Act) (w:World):Prop :=
 if Region.wanted o (yielded ops a.tmps)=true then o.wp P a w (fun a' w'=>∃ v,a'=a.put o.dst v∧(J (upd L i true) w'∧∀ j,j≠i→∀ u,V j u w→V j u w')∧V i v w') Q else J (upd L i true) w∧V i undef w
structure FindsG (md:Region.Mode) (ops:Array Oper) (m:Nat) (J:(Nat→Bool)→World→Prop) (V:Nat→Value→World→Prop) (a0:Act) (L:Nat→Bool) (i:Nat) (a:Act) (w:World):Prop where
 frame:J L w
 yet:L i=false
 wait:∀ j,Bm md ops i j=true→L j=true
 defers:a.defers=a0.defers
 done:∀ j t,Bm md ops i j=true→Au ops j=some t→V j (a.tmps.getD t undef) w
 old:∀ t,Ef md ops m i t=true→a.tmps.getD t undef=a0.tmps.getD t undef
theorem Ve {id m:Nat}{J:(Nat→Bool)→World→Prop}{V:Nat→Value→World→Prop}{a0:Act}{W:World}(hm:P.follows .mixedOrders=true)
 (hsz:m=ops.size) (hap:Cb ops m=true) (hin:Cy ops m a0.tmps.size=true) (hbk:Dc .any ops=true)
 (hJ:J (fun _=>false) W.drew)
 (hstep:∀ i o,i<m→ops[i]?=some o→∀ L a w,FindsG .any ops m J V a0 L i a w→Lm P ops Q J V L i o a w)
 (hend:∀ u w L,(∀ i,i<m→L i=true)→J L w→(∀ i,i<m→V i (u i) w)→Q .normal (Bl ops (fun _=>true) u m a0) w) :
 (Code.region id ops true).wp P Q a0 W:=by
 refine Ob (m:=m) (J:=fun L u w=>J L w∧∀ j,j<m→L j=true→V j (u j) w) hm hsz hap hin hbk ⟨hJ,fun _ _ h=>by cases h⟩ (fun i o hi ho L u a w F=>?_) (fun u w L hL hk=>hend u w L hL hk.1 (fun i hi=>hk.2 i hi (hL i hi)));obtain ⟨f1,f2⟩:=F.frame;have h:=hstep i o hi ho L a w ⟨f1,F.yet,F.wait,F.defers,fun j t h1 h2=>by rw [F.done j t h1 h2];exact f2 j (F.lt j (F.wait j h1)) (F.wait j h1),F.old⟩;have up:∀ (v:Value) (w':World),(∀ j,j≠i→∀ u,V j u w→V j u w')→V i v w'→∀ j,j<m→upd L i true j=true→V j (upd u i v j) w':=by
  intro v w' hs hv j hj hL;by_cases e:j=i
  ·subst e;simpa [upd] using hv
  ·have:L j=true:=by simpa [upd,e] using hL
   have:=hs j e _ (f2 j hj this);simpa [upd,e] using this
 unfold Lm at h;unfold Mg;by_cases hw:Region.wanted o (yielded ops a.tmps)=true
 ·rw [if_pos hw] at h ⊢;refine Oper.wp_mono (fun a' w' q=>?_) h;obtain ⟨v,rfl,⟨k1,k2⟩,hv⟩:=q;exact ⟨v,rfl,k1,up v w' k2 hv⟩
 ·rw [if_neg hw] at h ⊢;exact ⟨h.1,up undef w (fun j _ u h=>h) h.2⟩
end
section
variable {P:Program} {md:Region.Mode} {ops:Array Oper} {Q:Exit→Act→World→Prop}
structure Inv (md:Region.Mode) (ops:Array Oper) (m:Nat) (V:Nat→Value→World→Prop) (a0:Act) (W:World) (listed:Array Bool) (a:Act) (w:World):Prop where
 kept:Kept W w
 size:listed.size=ops.size
 tail:∀ i,m≤i→listed.getD i false=false
 closed:∀ i j,listed.getD i false=true→Bm md ops i j=true→listed.getD j false=true
 vals:∃ u,a=Bl ops (fun i=>listed.getD i false) u m a0∧∀ i,i<m→listed.getD i false=true→V i (u i) w
def Vt (md:Region.Mode) (ops:Array Oper) (m e:Nat):Bool :=
 (List.range ops.size).all fun i=>decide (i<m)||(List.range m).all fun j=>j==e||((N5 md ops ops.size).getD i []).contains j
theorem Qv {m e:Nat}{V:Nat→Value→World→Prop}{a0:Act}{W:World}
 (hsz:m≤ops.size) (hap:Cb ops m=true) (hin:Cy ops m a0.tmps.size=true) (htl:Vt md ops m e=true) (hbk:Dc md ops=true)
 (hmono:∀ i v w w',Kept w w'→V i v w→V i v w')
 (hstep:∀ i o,i<m→ops[i]?=some o→∀ a w,Finds md ops m V a0 W i a w→Bp P ops Q V i o a w)
 (hend:∀ u w,Kept W w→(∀ i,i<m→V i (u i) w)→∀ listed:Array Bool,listed.size=ops.size→(∀ i,listed.getD i false=decide (i<m))→wpAny P md ops Q (ops.size-m) listed (Bl ops (fun _=>true) u m a0) w)
 (hlate:∀ u w,Kept W w→(∀ i,i<m→i≠e→V i (u i) w)→∀ listed:Array Bool,listed.size=ops.size→(∀ i,listed.getD i false=(decide (i<m)&&decide (i≠e)))→∀ i,m≤i→i∈Region.ready md ops listed →
   wpOp P ops Q i (wpAny P md ops Q (ops.size-m) (listed.setIfInBounds i true)) (Bl ops (fun j=>decide (j≠e)) u m a0) w) :
 ∀ (k:Nat) (listed:Array Bool) (a:Act) (w:World),((List.range m).filter fun i=>!listed.getD i false).length=k→Inv md ops m V a0 W listed a w→wpAny P md ops Q (ops.size-m+k) listed a w:=by
 intro k
 induction k with
 | zero =>
   intro listed a w hk hI;obtain ⟨u,rfl,hu⟩:=hI.vals;have hall:∀ i,i<m→listed.getD i false=true:=by
    intro i hi;have h1:=List.eq_nil_of_length_eq_zero hk;have h2:∀ x∈(List.range m).filter (fun i=>!listed.getD i false),False:=by rw [h1];intro x hx;cases hx
    cases hc:listed.getD i false
    ·exact (h2 i (List.mem_filter.2 ⟨List.mem_range.2 hi,by rw [hc];rfl⟩)).elim
    ·rfl
   have e:Bl ops (fun i=>listed.getD i false) u m a0=Bl ops (fun _=>true) u m a0:=Ep m (fun j hj=>⟨hall j hj,rfl⟩);rw [e];refine hend u w hI.kept (fun i hi=>hu i hi (hall i hi)) listed hI.size (fun i=>?_);by_cases hi:i<m
   ·rw [hall i hi];simp [hi]
   ·rw [hI.tail i (by omega)];simp [hi]
 | succ k ih =>
   intro listed a w hk hI;obtain ⟨u,rfl,hu⟩:=hI.vals
   -- the first one that has not come up is ready, or some are ready
   refine ⟨fun hnone=>?_,fun i hi=>?_⟩
   ·exfalso;have hex:∃ x,x<m∧listed.getD x false=false:=by
     cases hl:(List.range m).filter (fun i=>!listed.getD i false) with
     | nil=>rw [hl] at hk;simp at hk
     | cons x xs =>
       have hx:x∈(List.range m).filter (fun i=>!listed.getD i false):=by rw [hl];exact List.mem_cons_self ..
       obtain ⟨h1,h2⟩:=List.mem_filter.1 hx;exact ⟨x,List.mem_range.1 h1,by simpa using h2⟩
    have hmin : ∀ n x, x ≤ n → x < m → listed.getD x false = false → ∃ y, y ∈ Region.ready md ops listed := by
     intro n
     induction n with
     | zero => 
       intro x hx hxm hxl;obtain rfl:x=0:=by omega
       refine ⟨0,mem_ready.2 ⟨?_,ops[0],Array.getElem?_eq_getElem (by omega),fun e he hb=>?_⟩⟩
       ·rw [Array.getD_eq_getD_getElem?,Array.getElem?_eq_getElem (by rw [hI.size];omega)] at hxl ⊢;exact hxl
       ·have h1:=Bz hbk 0 (by omega);rw [Array.getElem?_eq_getElem (show 0<ops.size by omega)] at h1;simp only [Option.map_some,Option.getD_some,Array.all_eq_true'] at h1;have:=h1 e he;rw [hb] at this;simp at this
     | succ n ihn =>
       intro x hx hxm hxl;by_cases hall:∀ j,Bm md ops x j=true→listed.getD j false=true
       ·refine ⟨x,mem_ready.2 ⟨?_,ops[x],Array.getElem?_eq_getElem (by omega),fun e he hb=>?_⟩⟩
        ·rw [Array.getD_eq_getD_getElem?,Array.getElem?_eq_getElem (by rw [hI.size];omega)] at hxl ⊢;exact hxl
        ·refine hall e.on ?_;unfold Bm;rw [Array.getElem?_eq_getElem (show x<ops.size by omega)];simp only [Option.map_some,Option.getD_some,Array.any_eq_true'];exact ⟨e,he,by rw [hb];simp⟩
       ·obtain ⟨j,hj⟩:=Classical.not_forall.1 hall;obtain ⟨hj1,hj2⟩:=Classical.not_imp.1 hj;have hjx:j<x:=by
         have h1:=Bz hbk x (by omega);unfold Bm at hj1;rw [Array.getElem?_eq_getElem (show x<ops.size by omega)] at h1 hj1;simp only [Option.map_some,Option.getD_some,Array.all_eq_true',Array.any_eq_true'] at h1 hj1;obtain ⟨e,he,hb⟩:=hj1;simp only [Bool.and_eq_true,beq_iff_eq] at hb;have:=h1 e he;rw [hb.1,hb.2] at this;simpa using this
        exact ihn j (by omega) (by omega) (by simpa using hj2)
    obtain ⟨x,hx1,hx2⟩:=hex;obtain ⟨y,hy⟩:=hmin x x (Nat.le_refl _) hx1 hx2;rw [hnone] at hy;cases hy
   ·obtain ⟨hjun,oi,hoi,hdep⟩:=mem_ready.1 hi;have hil:i<listed.size:=by
     by_cases hc:i<listed.size
     ·exact hc
     ·rw [Array.getD_eq_getD_getElem?,Array.getElem?_eq_none (by omega)] at hjun;simp at hjun
    have hfalse:listed.getD i false=false:=by
     rw [Array.getD_eq_getD_getElem?,Array.getElem?_eq_getElem hil] at *;exact hjun
    have hdone:∀ j,Bm md ops i j=true→listed.getD j false=true:=by
     intro j hj;unfold Bm at hj;rw [hoi] at hj;simp only [Option.map_some,Option.getD_some,Array.any_eq_true'] at hj;obtain ⟨e,he,hb⟩:=hj;simp only [Bool.and_eq_true,beq_iff_eq] at hb;have:=hdep e he hb.1;rw [hb.2] at this;exact this
    by_cases him:i<m
    ·have hF:Finds md ops m V a0 W i (Bl ops (fun i=>listed.getD i false) u m a0) w:=by
      refine ⟨hI.kept,Hl m,fun j t hw hs=>?_,fun t hu0=>?_⟩
      ·have hjl:=hdone j hw;have hjm:j<m:=by
        by_cases hc:j<m
        ·exact hc
        ·rw [hI.tail j (by omega)] at hjl;cases hjl
       have htn:t<a0.tmps.size:=by
        have:=Bz hin j hjm;rw [hs] at this;simpa using this
       rw [Fb (i:=j) htn hjl hs m hjm (fun j' hj' hne=>?_)]
       ·exact hu j hjm hjl
       ·have h1:=Bz (Bz hap j hjm) j' hj';rw [hs] at h1;simp only [Bool.or_eq_true,beq_iff_eq,bne_iff_ne] at h1;rcases h1 with (h1 | h1) | h1
        ·exact absurd h1.symm hne
        ·cases h1
        ·exact fun h=>h1 h.symm
      ·refine Fa m (fun j hj hjl hs=>?_);have h1:=Bz hu0 j hj;rw [hs] at h1;simp only [bne_self_eq_false,Bool.false_or,Bool.or_eq_true,beq_iff_eq] at h1;rcases h1 with h1 | h1
       ·rw [←h1,hfalse] at hjl;cases hjl
       ·have:=hI.closed j i hjl h1;rw [hfalse] at this;cases this
     have hs:=hstep i oi him hoi _ w hF;unfold Bp at hs;unfold wpOp;simp only [hoi];have hput:∀ v w',Kept w w'→V i v w'→Inv md ops m V a0 W (listed.setIfInBounds i true) ((Bl ops (fun i=>listed.getD i false) u m a0).put oi.dst v) w':=by
      intro v w' hk' hv;have hso:oi.dst=Au ops i:=by unfold Au;rw [hoi];rfl
      have hset:∀ j,(listed.setIfInBounds i true).getD j false=upd (fun i=>listed.getD i false) i true j:=by
       intro j;unfold upd;by_cases hj:j=i
       ·subst hj;rw [if_pos rfl,Array.getD_eq_getD_getElem?];simp [hil]
       ·rw [if_neg hj,getD_set_ne false (fun h=>hj h.symm)]
      refine ⟨hI.kept.trans hk',by rw [Array.size_setIfInBounds,hI.size],fun j hj=>?_,fun j l hj hw=>?_,upd u i v,?_,fun j hj hjl=>?_⟩
      ·rw [getD_set_ne false (by omega)];exact hI.tail j hj
      ·rw [hset] at hj ⊢;unfold upd at hj ⊢;by_cases hji:j=i
       ·subst hji;by_cases hli:l=j
        ·rw [if_pos hli]
        ·rw [if_neg hli];exact hdone l hw
       ·rw [if_neg hji] at hj;by_cases hli:l=i
        ·rw [if_pos hli]
        ·rw [if_neg hli];exact hI.closed j l hj hw
      ·rw [hso,M7 (S:=fun i=>listed.getD i false) hfalse m him (fun j hj hne=>?_)]
       ·exact Ep m (fun j _=>⟨(hset j).symm,rfl⟩)
       ·have h1:=Bz (Bz hap i him) j hj;simp only [Bool.or_eq_true,beq_iff_eq,bne_iff_ne] at h1;rcases h1 with (h1 | h1) | h1
        ·exact absurd h1.symm hne
        ·exact .inl h1
        ·exact .inr h1
      ·rw [hset] at hjl;unfold upd at hjl ⊢;by_cases hji:j=i
       ·subst hji;rw [if_pos rfl];exact hv
       ·rw [if_neg hji] at hjl ⊢;exact hmono j _ _ _ hk' (hu j hj hjl)
     have hcount : ((List.range m).filter fun j => !(listed.setIfInBounds i true).getD j false).length = k := by
      have h1:(List.range m).filter (fun j=>!(listed.setIfInBounds i true).getD j false)=((List.range m).filter (fun j=>!listed.getD j false)).filter (fun j=>j != i):=by
       rw [List.filter_filter];apply List.filter_congr;intro j _;by_cases hj:j=i
       ·subst hj;rw [Array.getD_eq_getD_getElem?];simp [hil]
       ·rw [getD_set_ne false (fun h=>hj h.symm)];simp [hj]
      rw [h1];have hnd:((List.range m).filter (fun j=>!listed.getD j false)).Nodup:=List.Pairwise.filter _ List.nodup_range;have hmem:i∈(List.range m).filter (fun j=>!listed.getD j false):=List.mem_filter.2 ⟨List.mem_range.2 him,by rw [hfalse];rfl⟩;have h2 : ∀ (l : List Nat), l.Nodup → i ∈ l → (l.filter (fun j => j != i)).length + 1 = l.length := by
       intro l
       induction l with
       | nil=>intro _ h;cases h
       | cons x xs ihx =>
         intro hn hm;obtain ⟨hx,hn'⟩:=List.nodup_cons.1 hn;by_cases hxi:x=i
         ·subst hxi;have:xs.filter (fun j=>j != x)=xs:=by
           rw [List.filter_eq_self];intro y hy;simp only [bne_iff_ne];rintro rfl;exact hx hy
          rw [List.filter_cons_of_neg (by simp),this];rfl
         ·have hm':i∈xs:=by
           rcases List.mem_cons.1 hm with h | h
           ·exact absurd h.symm hxi
           ·exact h
          rw [List.filter_cons_of_pos (by simp [hxi])];simp only [List.length_cons];rw [ihx hn' hm']
      have:=h2 _ hnd hmem;omega
     by_cases hw:Region.wanted oi (yielded ops (Bl ops (fun i=>listed.getD i false) u m a0).tmps)=true
     ·rw [if_pos hw] at hs ⊢;refine .inl (Oper.wp_mono (fun a' w' h=>?_) hs);obtain ⟨v,rfl,hk',hv⟩:=h;exact ih _ _ _ hcount (hput v w' hk' hv)
     ·rw [if_neg hw] at hs ⊢;exact ih _ _ _ hcount (hput undef w (Below.refl _ _) hs)
    ·-- an operation behind: all but e have come up
     have honly:∀ x,x<m→x≠e→listed.getD x false=true:=by
      intro x hx hxe;cases hc:listed.getD x false with
      | true=>rfl
      | false =>
        exfalso;have h1:=Bz htl i (by rw [←hI.size];exact hil);simp only [Bool.or_eq_true,decide_eq_true_eq] at h1;have h3:=Bz (h1.resolve_left him) x hx;simp only [Bool.or_eq_true,beq_iff_eq] at h3;have h2:=Hy (L:=fun j=>listed.getD j false) hI.closed ops.size i x (by rw [←hI.size];exact hil) (h3.resolve_left hxe) hdone;rw [hc] at h2;cases h2
     have hmem:∀ x,x∈(List.range m).filter (fun i=>!listed.getD i false)→x=e:=by
      intro x hx;obtain ⟨h1,h2⟩:=List.mem_filter.1 hx;by_cases hxe:x=e
      ·exact hxe
      ·rw [honly x (List.mem_range.1 h1) hxe] at h2;cases h2
     have hnd:((List.range m).filter (fun i=>!listed.getD i false)).Nodup:=List.Pairwise.filter _ List.nodup_range;have hk0 : k = 0 ∧ listed.getD e false = false := by
      cases hl:(List.range m).filter (fun i=>!listed.getD i false) with
      | nil=>rw [hl] at hk;simp at hk
      | cons x xs =>
        have hxe:x=e:=hmem x (by rw [hl];exact List.mem_cons_self ..);have hxf:listed.getD x false=false:=by
         have hx:x∈(List.range m).filter (fun i=>!listed.getD i false):=by rw [hl];exact List.mem_cons_self ..
         simpa using (List.mem_filter.1 hx).2
        cases xs with
        | nil=>rw [hl] at hk;simp at hk;exact ⟨by omega,by rw [←hxe];exact hxf⟩
        | cons y ys =>
          exfalso;have hye:y=e:=hmem y (by rw [hl];simp);rw [hl] at hnd;have:=(List.nodup_cons.1 hnd).1;rw [hxe,hye] at this;exact this (List.mem_cons_self ..)
     obtain ⟨rfl,hef⟩:=hk0;have hlist:∀ j,listed.getD j false=(decide (j<m)&&decide (j≠e)):=by
      intro j;by_cases hj:j<m
      ·by_cases hje:j=e
       ·subst hje;rw [hef];simp
       ·rw [honly j hj hje];simp [hj,hje]
      ·rw [hI.tail j (by omega)];simp [hj]
     have ep:Bl ops (fun i=>listed.getD i false) u m a0=Bl ops (fun j=>decide (j≠e)) u m a0:=Ep m (fun j hj=>⟨by rw [hlist j];simp [hj],rfl⟩);rw [ep];exact hlate u w hI.kept (fun j hj hje=>hu j hj (honly j hj hje)) listed hI.size hlist i (by omega) hi
theorem J8 {i j:Nat}{listed:Array Bool}(hi:i∈Region.ready md ops listed)(h:Bm md ops i j=true):listed.getD j false=true:=by
 obtain ⟨_,oi,hoi,hdep⟩:=mem_ready.1 hi;unfold Bm at h;rw [hoi] at h;simp only [Option.map_some,Option.getD_some,Array.any_eq_true'] at h;obtain ⟨e,he,hb⟩:=h;simp only [Bool.and_eq_true,beq_iff_eq] at hb;have:=hdep e he hb.1;rw [hb.2] at this;exact this
theorem Na {id m e:Nat}{V:Nat→Value→World→Prop}{a0:Act}{W:World}{o oe o':Oper}(hm:P.follows .mixedOrders=true)
 (hsz:m+2=ops.size) (ho:ops[m]?=some o) (hg:o.guard=none) (ho':ops[m+1]?=some o') (hg':o'.guard=none) (hoe:ops[e]?=some oe) (hge:oe.guard=none) (hem:e<m)
 (hw1:Bm .any ops (m+1) e=true) (hw2:Bm .any ops (m+1) m=true)
 (hap:Cb ops m=true) (hin:Cy ops m a0.tmps.size=true) (htl:Vt .any ops m e=true) (hbk:Dc .any ops=true)
 (hmono:∀ i v w w',Kept w w'→V i v w→V i v w')
 (hstep:∀ i o,i<m→ops[i]?=some o→∀ a w,Finds .any ops m V a0 W i a w→Bp P ops Q V i o a w)
 (hend:∀ u w,Kept W w→(∀ i,i<m→i≠e→V i (u i) w) →
   (V e (u e) w→o.wp P (Bl ops (fun _=>true) u m a0) w (fun a w=>o'.wp P a w (Q .normal) Q) Q) ∧
   o.wp P (Bl ops (fun j=>decide (j≠e)) u m a0) w (fun a w=>oe.wp P a w (fun a w=>o'.wp P a w (Q .normal) Q) Q) Q) :
 (Code.region id ops true).wp P Q a0 W:=by
 have hs:ops.size-m=1+1:=by omega
 have hdone:∀ (l:Array Bool) (a:Act) (w:World),l.size=ops.size→(∀ i,i<m+2→l.getD i false=true)→Q .normal a w→wpAny P .any ops Q 0 l a w:=by
  intro l a w hl h hq;refine ⟨?_,hq⟩;rw [List.eq_nil_iff_forall_not_mem];intro j hj;obtain ⟨h3,h4⟩:=Fh hl hj;rw [h j (by omega)] at h4;cases h4
 -- the last operation alone
 have hone:∀ (l:Array Bool) (a:Act) (w:World),l.size=ops.size→(∀ i,l.getD i false=decide (i<m+1))→o'.wp P a w (Q .normal) Q→wpAny P .any ops Q 1 l a w:=by
  intro l a w hl h hq;refine ⟨fun hn=>?_,fun j hj=>?_⟩
  ·have:=G4 (md:=.any) (m:=m+1) (by omega) hl hbk (fun i hi=>by rw [h];simp [hi]) (by rw [h];simp);rw [hn] at this;cases this
  ·obtain ⟨h3,h4⟩:=Fh hl hj;rw [h] at h4;simp at h4;obtain rfl:j=m+1:=by omega
   refine H5 ho' hg' (Oper.wp_mono (fun a w h'=>?_) hq);refine hdone _ a w (by rw [Array.size_setIfInBounds];exact hl) (fun i hi=>?_) h';rw [Hh (by omega),h];by_cases e1:i=m+1
   ·rw [if_pos e1]
   ·rw [if_neg e1];simp;omega
 refine wp_region_any hm ?_
 have h:=Qv (md:=.any) (W:=W) (a0:=a0) (V:=V) (Q:=Q) (P:=P) (e:=e) (by omega) hap hin htl hbk hmono hstep (fun u w hk hu listed hl hlt=>?_) (fun u w hk hu listed hl hlt i hmi hi=>?_)
  ((List.range m).filter fun i=>!(Array.replicate ops.size false).getD i false).length (Array.replicate ops.size false) a0 W.drew rfl ?_
 ·have e:ops.size-m+((List.range m).filter fun i=>!(Array.replicate ops.size false).getD i false).length=ops.size:=by
   have:(List.range m).filter (fun i=>!(Array.replicate ops.size false).getD i false)=List.range m:=by
    rw [List.filter_eq_self];intro i hi;rw [Ew];rfl
   rw [this,List.length_range];omega
  rw [e] at h;exact h
 ·-- all have come up, but the last two
  have hA:=(hend u w hk (fun i hi _=>hu i hi)).1 (hu e hem);rw [hs];refine ⟨fun hn=>?_,fun i hi=>?_⟩
  ·have:=G4 (md:=.any) (m:=m) (by omega) hl hbk (fun i hi=>by rw [hlt];simp [hi]) (by rw [hlt];simp);rw [hn] at this;cases this
  ·obtain ⟨h1,h2⟩:=Fh hl hi;have h2':=h2;rw [hlt] at h2;simp at h2;by_cases him:i=m
   ·subst him;refine H5 ho hg (Oper.wp_mono (fun a w h=>?_) hA);refine hone _ a w (by rw [Array.size_setIfInBounds];exact hl) (fun j=>?_) h;rw [Hh (by omega),hlt];by_cases e1:j=i
    ·rw [if_pos e1,e1];simp
    ·rw [if_neg e1];simp;omega
   ·exfalso;obtain rfl:i=m+1:=by omega
    have:=J8 hi hw2;rw [hlt] at this;simp at this
 ·-- all but e and the last two
  have hB:=(hend u w hk hu).2;obtain ⟨h1,h2⟩:=Fh hl hi;rw [hs];have him:i=m:=by
   by_cases him:i=m
   ·exact him
   ·exfalso;obtain rfl:i=m+1:=by omega
    have:=J8 hi hw1;rw [hlt] at this;simp at this
  subst him;refine H5 ho hg (Oper.wp_mono (fun a w h=>?_) hB);have hsz2:(listed.setIfInBounds i true).size=ops.size:=by rw [Array.size_setIfInBounds];exact hl
  have hl2:∀ j,(listed.setIfInBounds i true).getD j false=(decide (j<i+1)&&decide (j≠e)):=by
   intro j;rw [Hh (by omega),hlt];by_cases e1:j=i
   ·rw [if_pos e1,e1];simp;omega
   ·rw [if_neg e1];by_cases e2:j<i
    ·have:j<i+1:=by omega
     simp [e2,this]
    ·have:¬j<i+1:=by omega
     simp [e2,this]
  have hready:e∈Region.ready .any ops (listed.setIfInBounds i true):=by
   refine mem_ready.2 ⟨by rw [Hr (by omega),hl2];simp,oe,hoe,fun x hx hb=>?_⟩;have h1:=Bz hbk e (by omega);rw [hoe] at h1;simp only [Option.map_some,Option.getD_some,Array.all_eq_true'] at h1;have:=h1 x hx;rw [hb] at this;have hlt':x.on<e:=by simpa using this
   rw [hl2];have a1:x.on<i+1:=by omega
   have a2:x.on≠e:=by omega
   simp [a1,a2]
  refine ⟨fun hn=>?_,fun j hj=>?_⟩
  ·rw [hn] at hready;cases hready
  ·obtain ⟨h3,h4⟩:=Fh hsz2 hj;rw [hl2] at h4;have hje:j=e:=by
    by_cases hje:j=e
    ·exact hje
    ·exfalso;by_cases h5:j<i+1
     ·simp [h5,hje] at h4
     ·obtain rfl:j=i+1:=by omega
      have:=J8 hj hw1;rw [hl2] at this;simp at this
   subst hje;refine H5 hoe hge (Oper.wp_mono (fun a w h=>?_) h);refine hone _ a w (by rw [Array.size_setIfInBounds];exact hsz2) (fun l=>?_) h;rw [Hh (by omega),hl2];by_cases e1:l=j
   ·rw [if_pos e1,e1];simp;omega
   ·rw [if_neg e1];simp [e1]
 ·refine ⟨⟨rfl,rfl,rfl,Nat.le_refl _,fun _ _=>rfl⟩,by simp,fun i _=>?_,fun i j hi=>?_,fun _=>undef,?_,fun i _ hi=>?_⟩
  ·exact Ew _ _
  ·rw [Ew] at hi;cases hi
  ·have:∀ n,Bl ops (fun i=>(Array.replicate ops.size false).getD i false) (fun _=>undef) n a0=a0:=by
    intro n
    induction n with
    | zero=>rfl
    | succ n ih =>
      unfold Bl;rw [if_neg (by rw [Ew];simp),ih]
   exact (this m).symm
  ·rw [Ew] at hi;cases hi
end
end Go.Proofs.YtmgaloopddiekaaGreatDoor
