/- Words and contracts, part 19. -/
import Derived.Test.YtinbgjcooolbiaaGreatDoorClaimPartsp15
import Derived.Orders
set_option maxRecDepth 100000
set_option maxHeartbeats 0
namespace Go.Proofs.YtinbgjcooolbiaaGreatDoor
open Go.RowKit
section
variable {P:Program} {ops:Array Oper} {Q:Exit→Act→World→Prop} {md:Region.Mode}
def Am (ops:Array Oper) (i:Nat):Option Tmp:=(ops[i]?).bind (·.dst)
def A0 (md:Region.Mode) (ops:Array Oper) (i j:Nat):Bool :=
 ((ops[i]?).map fun o=>o.after.any fun e=>Region.binds md e&&e.on==j).getD false
def Bm (ops:Array Oper) (m:Nat):Bool:=(List.range m).all fun i=>(List.range m).all fun j=>i==j||Am ops i==none||Am ops i != Am ops j
def Fj (md:Region.Mode) (ops:Array Oper) (m i t:Nat):Bool:=(List.range m).all fun j=>Am ops j != some t||i==j||A0 md ops j i
def Cm (ops:Array Oper) (m n:Nat):Bool:=(List.range m).all fun j=>(Am ops j).all fun t=>decide (t<n)
def K0 (md:Region.Mode) (ops:Array Oper):Nat→List (List Nat)
 | 0=>[]
 | n+1=>K0 md ops n++[(List.range n).filter fun j=>A0 md ops n j||(List.range n).any fun k=>A0 md ops n k&&((K0 md ops n).getD k []).contains j]
def Gy (md:Region.Mode) (ops:Array Oper) (m:Nat):Bool :=
 (List.range ops.size).all fun i=>decide (i<m)||(List.range m).all fun j=>((K0 md ops ops.size).getD i []).contains j
theorem F0 (md:Region.Mode)(ops:Array Oper):∀ n,(K0 md ops n).length=n
 | 0=>rfl
 | n+1=>by unfold K0;rw [List.length_append,F0 md ops n];rfl
theorem F1 {md:Region.Mode}{ops:Array Oper}{L:Nat→Bool}(hcl:∀ i j,L i=true→A0 md ops i j=true→L j=true) :
 ∀ n i j,i<n→((K0 md ops n).getD i []).contains j=true→(∀ k,A0 md ops i k=true→L k=true)→L j=true
 | 0,_,_,h,_,_=>absurd h (Nat.not_lt_zero _)
 | n + 1, i, j, h, hc, hd => by
   unfold K0 at hc;by_cases hi:i<n
   ·rw [List.getD_eq_getElem?_getD,List.getElem?_append_left (by rw [F0];exact hi),←List.getD_eq_getElem?_getD] at hc;exact F1 hcl n i j hi hc hd
   ·obtain rfl:i=n:=by omega
    rw [List.getD_eq_getElem?_getD,List.getElem?_append_right (by rw [F0];exact Nat.le_refl _),F0,Nat.sub_self] at hc;simp only [List.getElem?_cons_zero,Option.getD_some,List.contains_eq_mem,List.mem_filter,List.mem_range,decide_eq_true_eq,Bool.or_eq_true,List.any_eq_true,Bool.and_eq_true] at hc;obtain ⟨_,hw | ⟨k,hk,hwk,hck⟩⟩:=hc
    ·exact hd j hw
    ·exact F1 hcl i k j hk (by simpa [List.contains_eq_mem] using hck) (fun k' hk'=>hcl k k' (hd k hwk) hk')
def Ct (md:Region.Mode) (ops:Array Oper):Bool:=(List.range ops.size).all fun i=>((ops[i]?).map fun o=>o.after.all fun e=>!Region.binds md e||decide (e.on<i)).getD true
def upd {α:Type} (f:Nat→α) (i:Nat) (v:α):Nat→α:=fun j=>if j=i then v else f j
def Av (ops:Array Oper) (S:Nat→Bool) (u:Nat→Value):Nat→Act→Act
 | 0,a=>a
 | k+1,a=>if S k then (Av ops S u k a).put (Am ops k) (u k) else Av ops S u k a
theorem Dj {S S':Nat→Bool}{u u':Nat→Value}{a:Act}:∀ n,(∀ j,j<n→S j=S' j∧u j=u' j)→Av ops S u n a=Av ops S' u' n a
 | 0,_=>rfl
 | n + 1, h => by
   unfold Av;obtain ⟨h1,h2⟩:=h n (by omega);rw [h1,h2,Dj n (fun j hj=>h j (by omega))]
theorem Kb {S:Nat→Bool}{u:Nat→Value}{a:Act}{i:Nat}{v:Value}(hS:S i=false):∀ n,i<n →
 (∀ j,j<n→j≠i→Am ops i=none∨Am ops i≠Am ops j)→(Av ops S u n a).put (Am ops i) v=Av ops (upd S i true) (upd u i v) n a
 | 0,h,_=>absurd h (Nat.not_lt_zero _)
 | n + 1, h, hap => by
   by_cases hi:i=n
   ·subst hi;have e1:upd S i true i=true:=by simp [upd]
    have e2:upd u i v i=v:=by simp [upd]
    unfold Av;rw [hS,e1,e2];simp only [Bool.false_eq_true,if_false,if_true];rw [Dj (S':=upd S i true) (u':=upd u i v) i (fun j hj=>by unfold upd;rw [if_neg (by omega),if_neg (by omega)];exact ⟨rfl,rfl⟩)]
   ·have e1:upd S i true n=S n:=by simp [upd];intro h;exact absurd h.symm hi
    have e2:upd u i v n=u n:=by unfold upd;rw [if_neg (fun h=>hi h.symm)]
    have ih:=Kb (u:=u) (a:=a) (v:=v) hS n (by omega) (fun j hj=>hap j (by omega));unfold Av;rw [e1,e2];cases hn:S n
    ·simp only [Bool.false_eq_true,if_false];exact ih
    ·simp only [if_true];rw [←ih];refine Act.put_comm _ _ _ (fun d hd=>?_);intro hc;rcases hap n (by omega) (fun h=>hi h.symm) with h | h
     ·rw [h] at hc;cases hc
     ·exact h (hc.trans hd.symm)
theorem Qv (a:Act)(x:Option Tmp)(v:Value):(a.put x v).defers=a.defers:=by cases x<;>rfl
theorem Yc (a:Act)(x:Option Tmp)(v:Value):(a.put x v).tmps.size=a.tmps.size:=by cases x<;>simp [Act.put]
theorem Fr {S:Nat→Bool}{u:Nat→Value}{a:Act}:∀ n,(Av ops S u n a).defers=a.defers
 | 0=>rfl
 | n + 1 => by
   unfold Av;split
   ·rw [Qv,Fr n]
   ·exact Fr n
theorem Kp {S:Nat→Bool}{u:Nat→Value}{a:Act}:∀ n,(Av ops S u n a).tmps.size=a.tmps.size
 | 0=>rfl
 | n + 1 => by
   unfold Av;split
   ·rw [Yc,Kp n]
   ·exact Kp n
theorem K8 (a:Act)(x:Option Tmp)(v:Value)(t:Nat)(h:x≠some t):(a.put x v).tmps.getD t undef=a.tmps.getD t undef:=by
 cases x with
 | none=>rfl
 | some d =>
   have:d≠t:=fun e=>h (by rw [e])
   simp only [Act.put,Array.getD_eq_getD_getElem?];rw [Array.getElem?_setIfInBounds_ne this]
theorem Qi (a:Act)(v:Value)(t:Nat)(h:t<a.tmps.size):(a.put (some t) v).tmps.getD t undef=v:=by
 simp only [Act.put,Array.getD_eq_getD_getElem?];simp [h]
theorem Dv {S:Nat→Bool}{u:Nat→Value}{a:Act}{t:Nat}:∀ n,(∀ j,j<n→S j=true→Am ops j≠some t) →
 (Av ops S u n a).tmps.getD t undef=a.tmps.getD t undef
 | 0,_=>rfl
 | n + 1, h => by
   unfold Av;split
   ·rename_i hs;rw [K8 _ _ _ _ (h n (by omega) hs),Dv n (fun j hj=>h j (by omega))]
   ·exact Dv n (fun j hj=>h j (by omega))
theorem Dw {S:Nat→Bool}{u:Nat→Value}{a:Act}{t i:Nat}(ht:t<a.tmps.size)(hS:S i=true)(hi:Am ops i=some t):∀ n,i<n →
 (∀ j,j<n→j≠i→Am ops j≠some t)→(Av ops S u n a).tmps.getD t undef=u i
 | 0,h,_=>absurd h (Nat.not_lt_zero _)
 | n + 1, h, hap => by
   unfold Av;by_cases he:i=n
   ·subst he;rw [hS,hi];simp only [if_true];exact Qi _ _ _ (by rw [Kp];exact ht)
   ·split
    ·rw [K8 _ _ _ _ (hap n (by omega) (fun h=>he h.symm)),Dw ht hS hi n (by omega) (fun j hj=>hap j (by omega))]
    ·exact Dw ht hS hi n (by omega) (fun j hj=>hap j (by omega))
theorem Dq (n i:Nat):(Array.replicate n false).getD i false=false:=by
 rw [Array.getD_eq_getD_getElem?];by_cases h:i<n
 ·rw [Array.getElem?_eq_getElem (by simpa using h)];simp
 ·rw [Array.getElem?_eq_none (by simpa using h)];rfl
def Bd (P:Program) (ops:Array Oper) (Q:Exit→Act→World→Prop) (V:Nat→Value→World→Prop) (i:Nat) (o:Oper) (a:Act) (w:World):Prop :=
 if Region.wanted o (yielded ops a.tmps)=true then o.wp P a w (fun a' w'=>∃ v,a'=a.put o.dst v∧Kept w w'∧V i v w') Q else V i undef w
structure Finds (md:Region.Mode) (ops:Array Oper) (m:Nat) (V:Nat→Value→World→Prop) (a0:Act) (W:World) (i:Nat) (a:Act) (w:World):Prop where
 kept:Kept W w
 defers:a.defers=a0.defers
 done:∀ j t,A0 md ops i j=true→Am ops j=some t→V j (a.tmps.getD t undef) w
 old:∀ t,Fj md ops m i t=true→a.tmps.getD t undef=a0.tmps.getD t undef
theorem Bg {n:Nat}{p:Nat→Bool}(h:(List.range n).all p=true)(i:Nat)(hi:i<n):p i=true:=by
 rw [List.all_eq_true] at h;exact h i (List.mem_range.2 hi)
def Ky (P:Program) (ops:Array Oper) (Q:Exit→Act→World→Prop) (J:(Nat→Bool)→(Nat→Value)→World→Prop) (L:Nat→Bool) (u:Nat→Value) (i:Nat) (o:Oper) (a:Act) (w:World):Prop :=
 if Region.wanted o (yielded ops a.tmps)=true then o.wp P a w (fun a' w'=>∃ v,a'=a.put o.dst v∧J (upd L i true) (upd u i v) w') Q else J (upd L i true) (upd u i undef) w
structure Ji (md:Region.Mode) (ops:Array Oper) (m:Nat) (J:(Nat→Bool)→(Nat→Value)→World→Prop) (a0:Act) (L:Nat→Bool) (u:Nat→Value) (i:Nat) (a:Act) (w:World):Prop where
 frame:J L u w
 yet:L i=false
 wait:∀ j,A0 md ops i j=true→L j=true
 lt:∀ j,L j=true→j<m
 defers:a.defers=a0.defers
 done:∀ j t,A0 md ops i j=true→Am ops j=some t→a.tmps.getD t undef=u j
 old:∀ t,Fj md ops m i t=true→a.tmps.getD t undef=a0.tmps.getD t undef
structure Ac0 (md:Region.Mode) (ops:Array Oper) (m:Nat) (J:(Nat→Bool)→(Nat→Value)→World→Prop) (a0:Act) (listed:Array Bool) (a:Act) (w:World):Prop where
 size:listed.size=ops.size
 tail:∀ i,m≤i→listed.getD i false=false
 closed:∀ i j,listed.getD i false=true→A0 md ops i j=true→listed.getD j false=true
 vals:∃ u,a=Av ops (fun i=>listed.getD i false) u m a0∧J (fun i=>listed.getD i false) u w
theorem Nh            {m:Nat}{J:(Nat→Bool)→(Nat→Value)→World→Prop}{a0:Act}
 (hsz:m≤ops.size) (hap:Bm ops m=true) (hin:Cm ops m a0.tmps.size=true) (htl:Gy md ops m=true) (hbk:Ct md ops=true)
 (hstep:∀ i o,i<m→ops[i]?=some o→∀ L u a w,Ji md ops m J a0 L u i a w→Ky P ops Q J L u i o a w)
 (hend:∀ u w L,(∀ i,i<m→L i=true)→J L u w→∀ listed:Array Bool,listed.size=ops.size→(∀ i,listed.getD i false=decide (i<m))→wpAny P md ops Q (ops.size-m) listed (Av ops (fun _=>true) u m a0) w) :
 ∀ (k:Nat) (listed:Array Bool) (a:Act) (w:World),((List.range m).filter fun i=>!listed.getD i false).length=k→Ac0 md ops m J a0 listed a w→wpAny P md ops Q (ops.size-m+k) listed a w:=by
 intro k
 induction k with
 | zero =>
   intro listed a w hk hI;obtain ⟨u,rfl,hu⟩:=hI.vals;have hall:∀ i,i<m→listed.getD i false=true:=by
    intro i hi;have h1:=List.eq_nil_of_length_eq_zero hk;have h2:∀ x∈(List.range m).filter (fun i=>!listed.getD i false),False:=by rw [h1];intro x hx;cases hx
    cases hc:listed.getD i false
    ·exact (h2 i (List.mem_filter.2 ⟨List.mem_range.2 hi,by rw [hc];rfl⟩)).elim
    ·rfl
   have e:Av ops (fun i=>listed.getD i false) u m a0=Av ops (fun _=>true) u m a0:=Dj m (fun j hj=>⟨hall j hj,rfl⟩);rw [e];refine hend u w _ hall hu listed hI.size (fun i=>?_);by_cases hi:i<m
   ·rw [hall i hi];simp [hi]
   ·rw [hI.tail i (by omega)];simp [hi]
 | succ k ih =>
   intro listed a w hk hI;obtain ⟨u,rfl,hu⟩:=hI.vals
   -- the first one that has not come up is ready, or some are ready
   refine ⟨fun hnone=>?_,fun i hi=>?_⟩
   ·exfalso;have hex:∃ x,x<m∧listed.getD x false=false:=by
     cases hl:(List.range m).filter (fun i=>!listed.getD i false) with
     | nil=>rw [hl] at hk;simp at hk
     | cons x xs =>
       have hx:x∈(List.range m).filter (fun i=>!listed.getD i false):=by rw [hl];exact List.mem_cons_self ..
       obtain ⟨h1,h2⟩:=List.mem_filter.1 hx;exact ⟨x,List.mem_range.1 h1,by simpa using h2⟩
    have hmin : ∀ n x, x ≤ n → x < m → listed.getD x false = false → ∃ y, y ∈ Region.ready md ops listed := by
     intro n
     induction n with
     | zero => 
       intro x hx hxm hxl;obtain rfl:x=0:=by omega
       refine ⟨0,mem_ready.2 ⟨?_,ops[0],Array.getElem?_eq_getElem (by omega),fun e he hb=>?_⟩⟩
       ·rw [Array.getD_eq_getD_getElem?,Array.getElem?_eq_getElem (by rw [hI.size];omega)] at hxl ⊢;exact hxl
       ·have h1:=Bg hbk 0 (by omega);rw [Array.getElem?_eq_getElem (show 0<ops.size by omega)] at h1;simp only [Option.map_some,Option.getD_some,Array.all_eq_true'] at h1;have:=h1 e he;rw [hb] at this;simp at this
     | succ n ihn =>
       intro x hx hxm hxl;by_cases hall:∀ j,A0 md ops x j=true→listed.getD j false=true
       ·refine ⟨x,mem_ready.2 ⟨?_,ops[x],Array.getElem?_eq_getElem (by omega),fun e he hb=>?_⟩⟩
        ·rw [Array.getD_eq_getD_getElem?,Array.getElem?_eq_getElem (by rw [hI.size];omega)] at hxl ⊢;exact hxl
        ·refine hall e.on ?_;unfold A0;rw [Array.getElem?_eq_getElem (show x<ops.size by omega)];simp only [Option.map_some,Option.getD_some,Array.any_eq_true'];exact ⟨e,he,by rw [hb];simp⟩
       ·obtain ⟨j,hj⟩:=Classical.not_forall.1 hall;obtain ⟨hj1,hj2⟩:=Classical.not_imp.1 hj;have hjx:j<x:=by
         have h1:=Bg hbk x (by omega);unfold A0 at hj1;rw [Array.getElem?_eq_getElem (show x<ops.size by omega)] at h1 hj1;simp only [Option.map_some,Option.getD_some,Array.all_eq_true',Array.any_eq_true'] at h1 hj1;obtain ⟨e,he,hb⟩:=hj1;simp only [Bool.and_eq_true,beq_iff_eq] at hb;have:=h1 e he;rw [hb.1,hb.2] at this;simpa using this
        exact ihn j (by omega) (by omega) (by simpa using hj2)
    obtain ⟨x,hx1,hx2⟩:=hex;obtain ⟨y,hy⟩:=hmin x x (Nat.le_refl _) hx1 hx2;rw [hnone] at hy;cases hy
   ·obtain ⟨hjun,oi,hoi,hdep⟩:=mem_ready.1 hi;have hil:i<listed.size:=by
     by_cases hc:i<listed.size
     ·exact hc
     ·rw [Array.getD_eq_getD_getElem?,Array.getElem?_eq_none (by omega)] at hjun;simp at hjun
    have hfalse:listed.getD i false=false:=by
     rw [Array.getD_eq_getD_getElem?,Array.getElem?_eq_getElem hil] at *;exact hjun
    have hdone:∀ j,A0 md ops i j=true→listed.getD j false=true:=by
     intro j hj;unfold A0 at hj;rw [hoi] at hj;simp only [Option.map_some,Option.getD_some,Array.any_eq_true'] at hj;obtain ⟨e,he,hb⟩:=hj;simp only [Bool.and_eq_true,beq_iff_eq] at hb;have:=hdep e he hb.1;rw [hb.2] at this;exact this
    by_cases him:i<m
    ·have hF:Ji md ops m J a0 (fun i=>listed.getD i false) u i (Av ops (fun i=>listed.getD i false) u m a0) w:=by
      refine ⟨hu,hfalse,hdone,fun j hj=>Classical.byContradiction fun hc=>(by rw [hI.tail j (by omega)] at hj;cases hj),Fr m,fun j t hw hs=>?_,fun t hu0=>?_⟩
      ·have hjl:=hdone j hw;have hjm:j<m:=by
        by_cases hc:j<m
        ·exact hc
        ·rw [hI.tail j (by omega)] at hjl;cases hjl
       have htn:t<a0.tmps.size:=by
        have:=Bg hin j hjm;rw [hs] at this;simpa using this
       rw [Dw (i:=j) htn hjl hs m hjm (fun j' hj' hne=>?_)]
       ·have h1:=Bg (Bg hap j hjm) j' hj';rw [hs] at h1;simp only [Bool.or_eq_true,beq_iff_eq,bne_iff_ne] at h1;rcases h1 with (h1 | h1) | h1
        ·exact absurd h1.symm hne
        ·cases h1
        ·exact fun h=>h1 h.symm
      ·refine Dv m (fun j hj hjl hs=>?_);have h1:=Bg hu0 j hj;rw [hs] at h1;simp only [bne_self_eq_false,Bool.false_or,Bool.or_eq_true,beq_iff_eq] at h1;rcases h1 with h1 | h1
       ·rw [←h1,hfalse] at hjl;cases hjl
       ·have:=hI.closed j i hjl h1;rw [hfalse] at this;cases this
     have hs:=hstep i oi him hoi _ _ _ w hF;unfold Ky at hs;unfold wpOp;simp only [hoi];have hput:∀ v w',J (upd (fun i=>listed.getD i false) i true) (upd u i v) w'→Ac0 md ops m J a0 (listed.setIfInBounds i true) ((Av ops (fun i=>listed.getD i false) u m a0).put oi.dst v) w':=by
      intro v w' hk';have hso:oi.dst=Am ops i:=by unfold Am;rw [hoi];rfl
      have hset:∀ j,(listed.setIfInBounds i true).getD j false=upd (fun i=>listed.getD i false) i true j:=by
       intro j;unfold upd;by_cases hj:j=i
       ·subst hj;rw [if_pos rfl,Array.getD_eq_getD_getElem?];simp [hil]
       ·rw [if_neg hj,getD_set_ne false (fun h=>hj h.symm)]
      refine ⟨by rw [Array.size_setIfInBounds,hI.size],fun j hj=>?_,fun j l hj hw=>?_,upd u i v,?_,by rw [show (fun j=>(listed.setIfInBounds i true).getD j false)=upd (fun i=>listed.getD i false) i true from funext hset];exact hk'⟩
      ·rw [getD_set_ne false (by omega)];exact hI.tail j hj
      ·rw [hset] at hj ⊢;unfold upd at hj ⊢;by_cases hji:j=i
       ·subst hji;by_cases hli:l=j
        ·rw [if_pos hli]
        ·rw [if_neg hli];exact hdone l hw
       ·rw [if_neg hji] at hj;by_cases hli:l=i
        ·rw [if_pos hli]
        ·rw [if_neg hli];exact hI.closed j l hj hw
      ·rw [hso,Kb (S:=fun i=>listed.getD i false) hfalse m him (fun j hj hne=>?_)]
       ·exact Dj m (fun j _=>⟨(hset j).symm,rfl⟩)
       ·have h1:=Bg (Bg hap i him) j hj;simp only [Bool.or_eq_true,beq_iff_eq,bne_iff_ne] at h1;rcases h1 with (h1 | h1) | h1
        ·exact absurd h1.symm hne
        ·exact .inl h1
        ·exact .inr h1
     have hcount : ((List.range m).filter fun j => !(listed.setIfInBounds i true).getD j false).length = k := by
      have h1:(List.range m).filter (fun j=>!(listed.setIfInBounds i true).getD j false)=((List.range m).filter (fun j=>!listed.getD j false)).filter (fun j=>j != i):=by
       rw [List.filter_filter];apply List.filter_congr;intro j _;by_cases hj:j=i
       ·subst hj;rw [Array.getD_eq_getD_getElem?];simp [hil]
       ·rw [getD_set_ne false (fun h=>hj h.symm)];simp [hj]
      rw [h1];have hnd:((List.range m).filter (fun j=>!listed.getD j false)).Nodup:=List.Pairwise.filter _ List.nodup_range;have hmem:i∈(List.range m).filter (fun j=>!listed.getD j false):=List.mem_filter.2 ⟨List.mem_range.2 him,by rw [hfalse];rfl⟩;have h2 : ∀ (l : List Nat), l.Nodup → i ∈ l → (l.filter (fun j => j != i)).length + 1 = l.length := by
       intro l
       induction l with
       | nil=>intro _ h;cases h
       | cons x xs ihx =>
         intro hn hm;obtain ⟨hx,hn'⟩:=List.nodup_cons.1 hn;by_cases hxi:x=i
         ·subst hxi;have:xs.filter (fun j=>j != x)=xs:=by
           rw [List.filter_eq_self];intro y hy;simp only [bne_iff_ne];rintro rfl;exact hx hy
          rw [List.filter_cons_of_neg (by simp),this];rfl
         ·have hm':i∈xs:=by
           rcases List.mem_cons.1 hm with h | h
           ·exact absurd h.symm hxi
           ·exact h
          rw [List.filter_cons_of_pos (by simp [hxi])];simp only [List.length_cons];rw [ihx hn' hm']
      have:=h2 _ hnd hmem;omega
     by_cases hw:Region.wanted oi (yielded ops (Av ops (fun i=>listed.getD i false) u m a0).tmps)=true
     ·rw [if_pos hw] at hs ⊢;refine .inl (Oper.wp_mono (fun a' w' h=>?_) hs);obtain ⟨v,rfl,hk'⟩:=h;exact ih _ _ _ hcount (hput v w' hk')
     ·rw [if_neg hw] at hs ⊢;exact ih _ _ _ hcount (hput undef w hs)
    ·-- an operation behind waits for one that has not come up
     exfalso;have hex:∃ x,x<m∧listed.getD x false=false:=by
      cases hl:(List.range m).filter (fun i=>!listed.getD i false) with
      | nil=>rw [hl] at hk;simp at hk
      | cons x xs =>
        have hx:x∈(List.range m).filter (fun i=>!listed.getD i false):=by rw [hl];exact List.mem_cons_self ..
        obtain ⟨h1,h2⟩:=List.mem_filter.1 hx;exact ⟨x,List.mem_range.1 h1,by simpa using h2⟩
     obtain ⟨x,hx1,hx2⟩:=hex;have h1:=Bg htl i (by rw [←hI.size];exact hil);simp only [Bool.or_eq_true,decide_eq_true_eq] at h1;have h2:=F1 (L:=fun j=>listed.getD j false) hI.closed ops.size i x (by rw [←hI.size];exact hil) (Bg (h1.resolve_left him) x hx1) hdone;rw [hx2] at h2;cases h2
theorem Jo {m:Nat}{J:(Nat→Bool)→(Nat→Value)→World→Prop}{a0:Act}{W:World}(hsz:m≤ops.size)(hap:Bm ops m=true)(hin:Cm ops m a0.tmps.size=true)(htl:Gy .any ops m=true)(hbk:Ct .any ops=true)
 (hJ:J (fun _=>false) (fun _=>undef) W.drew)
 (hstep:∀ i o,i<m→ops[i]?=some o→∀ L u a w,Ji .any ops m J a0 L u i a w→Ky P ops Q J L u i o a w)
 (hend:∀ u w L,(∀ i,i<m→L i=true)→J L u w→∀ listed:Array Bool,listed.size=ops.size→(∀ i,listed.getD i false=decide (i<m))→wpAny P .any ops Q (ops.size-m) listed (Av ops (fun _=>true) u m a0) w) :
 wpAny P .any ops Q ops.size (Array.replicate ops.size false) a0 W.drew:=by
 have h:=Nh (md:=.any) (a0:=a0) (J:=J) (Q:=Q) (P:=P) hsz hap hin htl hbk hstep hend
  ((List.range m).filter fun i=>!(Array.replicate ops.size false).getD i false).length (Array.replicate ops.size false) a0 W.drew rfl ?_
 ·have e:ops.size-m+((List.range m).filter fun i=>!(Array.replicate ops.size false).getD i false).length=ops.size:=by
   have:(List.range m).filter (fun i=>!(Array.replicate ops.size false).getD i false)=List.range m:=by
    rw [List.filter_eq_self];intro i hi;rw [Dq];rfl
   rw [this,List.length_range];omega
  rw [e] at h;exact h
 ·refine ⟨by simp,fun i _=>?_,fun i j hi=>?_,fun _=>undef,?_,by rw [show (fun i=>(Array.replicate ops.size false).getD i false)=fun _=>false from funext fun i=>Dq _ _];exact hJ⟩
  ·exact Dq _ _
  ·rw [Dq] at hi;cases hi
  ·have:∀ n,Av ops (fun i=>(Array.replicate ops.size false).getD i false) (fun _=>undef) n a0=a0:=by
    intro n
    induction n with
    | zero=>rfl
    | succ n ih =>
      unfold Av;rw [if_neg (by rw [Dq];simp),ih]
   exact (this m).symm
theorem Fw {l:Array Bool}{i:Nat}(h:i<l.size):l.getD i true=l.getD i false:=by
 rw [Array.getD_eq_getD_getElem?,Array.getD_eq_getD_getElem?,Array.getElem?_eq_getElem h];rfl
theorem Fh {m:Nat}{listed:Array Bool}(hm:m<ops.size)(hl:listed.size=ops.size)(hbk:Ct md ops=true)(hd:∀ i,i<m→listed.getD i false=true)(h0:listed.getD m false=false):m∈Region.ready md ops listed:=by
 refine mem_ready.2 ⟨by rw [Fw (by omega)];exact h0,ops[m],Array.getElem?_eq_getElem hm,fun e he hb=>?_⟩;have h1:=Bg hbk m hm;rw [Array.getElem?_eq_getElem hm] at h1;simp only [Option.map_some,Option.getD_some,Array.all_eq_true'] at h1;have:=h1 e he;rw [hb] at this;exact hd _ (by simpa using this)
theorem Ec {i:Nat}{listed:Array Bool}(hl:listed.size=ops.size)(h:i∈Region.ready md ops listed):i<ops.size∧listed.getD i false=false:=by
 obtain ⟨h1,o,ho,_⟩:=mem_ready.1 h;have h3:i<ops.size:=(Array.getElem?_eq_some_iff.1 ho).1;rw [Fw (by omega)] at h1;exact ⟨h3,h1⟩
theorem Fo {l:Array Bool}{i:Nat}(h:i<l.size)(j:Nat):(l.setIfInBounds i true).getD j false=if j=i then true else l.getD j false:=by
 by_cases hj:j=i
 ·subst hj;rw [if_pos rfl,Array.getD_eq_getD_getElem?];simp [h]
 ·rw [if_neg hj,getD_set_ne false (fun h=>hj h.symm)]
theorem F7 {i:Nat}{o:Oper}{K:Act→World→Prop}{a:Act}{w:World}(ho:ops[i]?=some o)(hg:o.guard=none)(h:o.wp P a w K Q):wpOp P ops Q i K a w:=by
 unfold wpOp;simp only [ho];have:Region.wanted o (yielded ops a.tmps)=true:=by simp [Region.wanted,hg]
 rw [if_pos this];exact .inl h
theorem Q6 {id m:Nat}{J:(Nat→Bool)→(Nat→Value)→World→Prop}{a0:Act}{W:World}(hm:P.follows .mixedOrders=true)
 (hsz:m=ops.size) (hap:Bm ops m=true) (hin:Cm ops m a0.tmps.size=true) (hbk:Ct .any ops=true)
 (hJ:J (fun _=>false) (fun _=>undef) W.drew)
 (hstep:∀ i o,i<m→ops[i]?=some o→∀ L u a w,Ji .any ops m J a0 L u i a w→Ky P ops Q J L u i o a w)
 (hend:∀ u w L,(∀ i,i<m→L i=true)→J L u w→Q .normal (Av ops (fun _=>true) u m a0) w) :
 (Code.region id ops true).wp P Q a0 W:=by
 have htl:Gy .any ops m=true:=by
  unfold Gy;rw [List.all_eq_true];intro i hi;have:=List.mem_range.1 hi;simp;left;omega
 refine wp_region_any hm (Jo (by omega) hap hin htl hbk hJ hstep fun u w L hL hk listed hl hlt=>?_);have:ops.size-m=0:=by omega
 rw [this];refine ⟨?_,hend u w L hL hk⟩;rw [List.eq_nil_iff_forall_not_mem];intro i hi;obtain ⟨h1,o,ho,_⟩:=mem_ready.1 hi;have h2:=hlt i;have h3:i<ops.size:=(Array.getElem?_eq_some_iff.1 ho).1;rw [Array.getD_eq_getD_getElem?,Array.getElem?_eq_getElem (by omega)] at h1 h2;simp only [Option.getD_some] at h1 h2;rw [h1] at h2;simp at h2;omega
theorem Ph {id m:Nat}{J:(Nat→Bool)→(Nat→Value)→World→Prop}{a0:Act}{W:World}{o:Oper}(hm:P.follows .mixedOrders=true)
 (hsz:m+1=ops.size) (ho:ops[m]?=some o) (hg:o.guard=none) (hap:Bm ops m=true) (hin:Cm ops m a0.tmps.size=true) (htl:Gy .any ops m=true) (hbk:Ct .any ops=true)
 (hJ:J (fun _=>false) (fun _=>undef) W.drew)
 (hstep:∀ i o,i<m→ops[i]?=some o→∀ L u a w,Ji .any ops m J a0 L u i a w→Ky P ops Q J L u i o a w)
 (hend:∀ u w L,(∀ i,i<m→L i=true)→J L u w→o.wp P (Av ops (fun _=>true) u m a0) w (Q .normal) Q) :
 (Code.region id ops true).wp P Q a0 W:=by
 refine wp_region_any hm (Jo (by omega) hap hin htl hbk hJ hstep fun u w L hL hk listed hl hlt=>?_);have hs:ops.size-m=0+1:=by omega
 rw [hs];refine ⟨fun hn=>?_,fun i hi=>?_⟩
 ·have:=Fh (md:=.any) (m:=m) (by omega) hl hbk (fun i hi=>by rw [hlt];simp [hi]) (by rw [hlt];simp);rw [hn] at this;cases this
 ·obtain ⟨h1,h2⟩:=Ec hl hi;rw [hlt] at h2;simp at h2;obtain rfl:i=m:=by omega
  refine F7 ho hg (Oper.wp_mono (fun a w h=>?_) (hend u w L hL hk));refine ⟨?_,h⟩;rw [List.eq_nil_iff_forall_not_mem];intro j hj;obtain ⟨h3,h4⟩:=Ec (by rw [Array.size_setIfInBounds];exact hl) hj;rw [Fo (by omega),hlt] at h4;by_cases hji:j=i
  ·rw [if_pos hji] at h4;cases h4
  ·rw [if_neg hji] at h4;simp at h4;omega
theorem Pi {id m:Nat}{J:(Nat→Bool)→(Nat→Value)→World→Prop}{a0:Act}{W:World}{o o':Oper}(hm:P.follows .mixedOrders=true)
 (hsz:m+2=ops.size) (ho:ops[m]?=some o) (hg:o.guard=none) (ho':ops[m+1]?=some o') (hg':o'.guard=none)
 (hap:Bm ops m=true) (hin:Cm ops m a0.tmps.size=true) (htl:Gy .any ops m=true) (hbk:Ct .any ops=true)
 (hJ:J (fun _=>false) (fun _=>undef) W.drew)
 (hstep:∀ i o,i<m→ops[i]?=some o→∀ L u a w,Ji .any ops m J a0 L u i a w→Ky P ops Q J L u i o a w)
 (hend:∀ u w L,(∀ i,i<m→L i=true)→J L u w→o.wp P (Av ops (fun _=>true) u m a0) w (fun a w=>o'.wp P a w (Q .normal) Q) Q ∧
   (A0 .any ops (m+1) m=true∨o'.wp P (Av ops (fun _=>true) u m a0) w (fun a w=>o.wp P a w (Q .normal) Q) Q)) :
 (Code.region id ops true).wp P Q a0 W:=by
 refine wp_region_any hm (Jo (by omega) hap hin htl hbk hJ hstep fun u w L hL hk listed hl hlt=>?_);obtain ⟨hA,hB⟩:=hend u w L hL hk;have hs:ops.size-m=1+1:=by omega
 rw [hs];have hdone:∀ (l:Array Bool) (a:Act) (w:World),l.size=ops.size→(∀ i,i<m+2→l.getD i false=true)→Q .normal a w→wpAny P .any ops Q 0 l a w:=by
  intro l a w hl h hq;refine ⟨?_,hq⟩;rw [List.eq_nil_iff_forall_not_mem];intro j hj;obtain ⟨h3,h4⟩:=Ec hl hj;rw [h j (by omega)] at h4;cases h4
 refine ⟨fun hn=>?_,fun i hi=>?_⟩
 ·have:=Fh (md:=.any) (m:=m) (by omega) hl hbk (fun i hi=>by rw [hlt];simp [hi]) (by rw [hlt];simp);rw [hn] at this;cases this
 ·obtain ⟨h1,h2⟩:=Ec hl hi;rw [hlt] at h2;simp at h2;have hsz2:∀ k:Nat,(listed.setIfInBounds k true).size=ops.size:=fun k=>by rw [Array.size_setIfInBounds];exact hl
  have hlk:∀ k j:Nat,k<ops.size→(listed.setIfInBounds k true).getD j false=if j=k then true else decide (j<m):=fun k j hk=>by
   rw [Fo (by omega),hlt]
  by_cases him:i=m
  ·subst him;refine F7 ho hg (Oper.wp_mono (fun a w h=>?_) hA);refine ⟨fun hn=>?_,fun j hj=>?_⟩
   ·have:=Fh (md:=.any) (m:=i+1) (by omega) (hsz2 i) hbk (fun j hj=>by rw [hlk i j h1];by_cases hji:j=i<;>simp [hji];omega) (by rw [hlk i _ h1];simp);rw [hn] at this;cases this
   ·obtain ⟨h3,h4⟩:=Ec (hsz2 i) hj;rw [hlk i j h1] at h4;by_cases hji:j=i
    ·rw [if_pos hji] at h4;cases h4
    ·rw [if_neg hji] at h4;simp at h4;obtain rfl:j=i+1:=by omega
     refine F7 ho' hg' (Oper.wp_mono (fun a w h=>?_) h);refine hdone _ a w (by rw [Array.size_setIfInBounds];exact hsz2 i) (fun l hl'=>?_) h;rw [Fo (by rw [hsz2];omega),hlk i l h1];by_cases e1:l=i+1
     ·rw [if_pos e1]
     ·rw [if_neg e1];by_cases e2:l=i
      ·rw [if_pos e2]
      ·rw [if_neg e2];simp;omega
  ·obtain rfl:i=m+1:=by omega
   rcases hB with hB | hB
   ·exfalso;obtain ⟨_,oi,hoi,hdep⟩:=mem_ready.1 hi;unfold A0 at hB;rw [hoi] at hB;simp only [Option.map_some,Option.getD_some,Array.any_eq_true'] at hB;obtain ⟨e,he,hb⟩:=hB;simp only [Bool.and_eq_true,beq_iff_eq] at hb;have:=hdep e he hb.1;rw [hb.2,hlt] at this;simp at this
   ·refine F7 ho' hg' (Oper.wp_mono (fun a w h=>?_) hB);refine ⟨fun hn=>?_,fun j hj=>?_⟩
    ·have:=Fh (md:=.any) (m:=m) (by omega) (hsz2 (m+1)) hbk (fun j hj=>by rw [hlk _ j h1,if_neg (by omega)];simp [hj]) (by rw [hlk _ _ h1,if_neg (by omega)];simp);rw [hn] at this;cases this
    ·obtain ⟨h3,h4⟩:=Ec (hsz2 (m+1)) hj;rw [hlk _ j h1] at h4;by_cases hji:j=m+1
     ·rw [if_pos hji] at h4;cases h4
     ·rw [if_neg hji] at h4;simp at h4;obtain rfl:j=m:=by omega
      refine F7 ho hg (Oper.wp_mono (fun a w h=>?_) h);refine hdone _ a w (by rw [Array.size_setIfInBounds];exact hsz2 _) (fun l hl'=>?_) h;rw [Fo (by rw [hsz2];omega),hlk _ l h1];by_cases e1:l=j
      ·rw [if_pos e1]
      ·rw [if_neg e1];by_cases e2:l=j+1
       ·rw [if_pos e2]
       ·rw [if_neg e2];simp;omega
theorem Mz {m:Nat}{V:Nat→Value→World→Prop}{a0:Act}{W:World}(hmono:∀ i v w w',Kept w w'→V i v w→V i v w')
 (hstep:∀ i o,i<m→ops[i]?=some o→∀ a w,Finds md ops m V a0 W i a w→Bd P ops Q V i o a w) :
 ∀ i o,i<m→ops[i]?=some o→∀ L u a w,Ji md ops m (fun L u w=>Kept W w∧∀ j,j<m→L j=true→V j (u j) w) a0 L u i a w→Ky P ops Q (fun L u w=>Kept W w∧∀ j,j<m→L j=true→V j (u j) w) L u i o a w:=by
 intro i o hi ho L u a w F;obtain ⟨f1,f2⟩:=F.frame;have h:=hstep i o hi ho a w ⟨f1,F.defers,fun j t h1 h2=>by rw [F.done j t h1 h2];exact f2 j (F.lt j (F.wait j h1)) (F.wait j h1),F.old⟩;have up:∀ (v:Value) (w':World),Kept w w'→V i v w'→Kept W w'∧∀ j,j<m→upd L i true j=true→V j (upd u i v j) w':=by
  intro v w' k hv;refine ⟨f1.trans k,fun j hj hL=>?_⟩;by_cases e:j=i
  ·subst e;simpa [upd] using hv
  ·have:L j=true:=by simpa [upd,e] using hL
   have:=hmono j _ w w' k (f2 j hj this);simpa [upd,e] using this
 unfold Bd at h;unfold Ky;by_cases hw:Region.wanted o (yielded ops a.tmps)=true
 ·rw [if_pos hw] at h ⊢;refine Oper.wp_mono (fun a' w' q=>?_) h;obtain ⟨v,rfl,k,hv⟩:=q;exact ⟨v,rfl,up v w' k hv⟩
 ·rw [if_neg hw] at h ⊢;exact up undef w (Below.refl _ _) h
theorem Ss {id m:Nat}{V:Nat→Value→World→Prop}{a0:Act}{W:World}(hm:P.follows .mixedOrders=true)
 (hsz:m=ops.size) (hap:Bm ops m=true) (hin:Cm ops m a0.tmps.size=true) (hbk:Ct .any ops=true)
 (hmono:∀ i v w w',Kept w w'→V i v w→V i v w')
 (hstep:∀ i o,i<m→ops[i]?=some o→∀ a w,Finds .any ops m V a0 W i a w→Bd P ops Q V i o a w)
 (hend:∀ u w,Kept W w→(∀ i,i<m→V i (u i) w)→Q .normal (Av ops (fun _=>true) u m a0) w) :
 (Code.region id ops true).wp P Q a0 W :=
 Q6 (J:=fun L u w=>Kept W w∧∀ j,j<m→L j=true→V j (u j) w) hm hsz hap hin hbk ⟨(Below.refl _ _).drew,fun _ _ h=>by cases h⟩ (Mz hmono hstep) (fun u w L hL hJ=>hend u w hJ.1 fun i hi=>hJ.2 i hi (hL i hi))
theorem Q4 {id m:Nat}{V:Nat→Value→World→Prop}{a0:Act}{W:World}{o:Oper}(hm:P.follows .mixedOrders=true)
 (hsz:m+1=ops.size) (ho:ops[m]?=some o) (hg:o.guard=none) (hap:Bm ops m=true) (hin:Cm ops m a0.tmps.size=true) (htl:Gy .any ops m=true) (hbk:Ct .any ops=true)
 (hmono:∀ i v w w',Kept w w'→V i v w→V i v w')
 (hstep:∀ i o,i<m→ops[i]?=some o→∀ a w,Finds .any ops m V a0 W i a w→Bd P ops Q V i o a w)
 (hend:∀ u w,Kept W w→(∀ i,i<m→V i (u i) w)→o.wp P (Av ops (fun _=>true) u m a0) w (Q .normal) Q) :
 (Code.region id ops true).wp P Q a0 W :=
 Ph (J:=fun L u w=>Kept W w∧∀ j,j<m→L j=true→V j (u j) w) hm hsz ho hg hap hin htl hbk ⟨(Below.refl _ _).drew,fun _ _ h=>by cases h⟩ (Mz hmono hstep) (fun u w L hL hJ=>hend u w hJ.1 fun i hi=>hJ.2 i hi (hL i hi))
theorem Q5 {id m:Nat}{V:Nat→Value→World→Prop}{a0:Act}{W:World}{o o':Oper}(hm:P.follows .mixedOrders=true)
 (hsz:m+2=ops.size) (ho:ops[m]?=some o) (hg:o.guard=none) (ho':ops[m+1]?=some o') (hg':o'.guard=none)
 (hap:Bm ops m=true) (hin:Cm ops m a0.tmps.size=true) (htl:Gy .any ops m=true) (hbk:Ct .any ops=true)
 (hmono:∀ i v w w',Kept w w'→V i v w→V i v w')
 (hstep:∀ i o,i<m→ops[i]?=some o→∀ a w,Finds .any ops m V a0 W i a w→Bd P ops Q V i o a w)
 (hend:∀ u w,Kept W w→(∀ i,i<m→V i (u i) w)→o.wp P (Av ops (fun _=>true) u m a0) w (fun a w=>o'.wp P a w (Q .normal) Q) Q ∧
   (A0 .any ops (m+1) m=true∨o'.wp P (Av ops (fun _=>true) u m a0) w (fun a w=>o.wp P a w (Q .normal) Q) Q)) :
 (Code.region id ops true).wp P Q a0 W :=
 Pi (J:=fun L u w=>Kept W w∧∀ j,j<m→L j=true→V j (u j) w) hm hsz ho hg ho' hg' hap hin htl hbk ⟨(Below.refl _ _).drew,fun _ _ h=>by cases h⟩ (Mz hmono hstep) (fun u w L hL hJ=>hend u w hJ.1 fun i hi=>hJ.2 i hi (hL i hi))
end
end Go.Proofs.YtinbgjcooolbiaaGreatDoor
