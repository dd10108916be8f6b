/- Words and contracts, part 28. -/
import Derived.Test.YtinbgjcooolbiaaGreatDoorClaimPartsp25
set_option maxRecDepth 100000
set_option maxHeartbeats 0
namespace Go.Proofs.YtinbgjcooolbiaaGreatDoor
open Go.Lib (hid)
open Go.RowKit
section
variable {P:Program} {ops:Array Oper} {Q:Exit→Act→World→Prop}
theorem Vb {m:Nat}{V:Nat→Value→World→Prop}{a0:Act}{W:World}
 (hsz:m≤ops.size) (hap:Bm ops m=true) (hin:Cm ops m a0.tmps.size=true) (hbk:Ct .any ops=true)
 (hmono:∀ i v w w',Kept w w'→V i v w→V i v w')
 (hstep:∀ i o,i<m→ops[i]?=some o→∀ a w,Finds .any ops m V a0 W i a w→Bd P ops Q V i o a w)
 (hend:∀ u w,Kept W w→(∀ i,i<m→V i (u i) w)→wpOps P ops Q (List.range' m (ops.size-m)) (Av ops (fun _=>true) u m a0) w) :
 ∀ (k i:Nat) (u:Nat→Value) (w:World),i+k=m→Kept W w→(∀ j,j<i→V j (u j) w)→wpOps P ops Q (List.range' i (ops.size-i)) (Av ops (fun j=>decide (j<i)) u m a0) w:=by
 intro k
 induction k with
 | zero =>
   intro i u w hi hk hu;obtain rfl:i=m:=by omega
   have e:Av ops (fun j=>decide (j<i)) u i a0=Av ops (fun _=>true) u i a0:=Dj i (fun j hj=>⟨by simp [hj],rfl⟩);rw [e];exact hend u w hk hu
 | succ k ih =>
   intro i u w hi hk hu;have him:i<m:=by omega
   have his:i<ops.size:=by omega
   obtain ⟨r,hr⟩:∃ r,ops.size-i=r+1:=⟨ops.size-i-1,by omega⟩;have hr':ops.size-(i+1)=r:=by omega
   rw [hr,List.range'_succ];have hoi:=Array.getElem?_eq_getElem his;have hback:∀ x y,A0 .any ops x y=true→y<x:=by
    intro x y hxy;unfold A0 at hxy;by_cases hx:x<ops.size
    ·have h1:=Bg hbk x hx;rw [Array.getElem?_eq_getElem hx] at h1 hxy;simp only [Option.map_some,Option.getD_some,Array.all_eq_true',Array.any_eq_true'] at h1 hxy;obtain ⟨e,he,hb⟩:=hxy;simp only [Bool.and_eq_true,beq_iff_eq] at hb;have:=h1 e he;rw [hb.1,hb.2] at this;simpa using this
    ·rw [Array.getElem?_eq_none (by omega)] at hxy;simp at hxy
   have hF:Finds .any ops m V a0 W i (Av ops (fun j=>decide (j<i)) u m a0) w:=by
    refine ⟨hk,Fr m,fun j t hw hs=>?_,fun t hu0=>?_⟩
    ·have hji:=hback i j hw;have hjm:j<m:=by omega
     have htn:t<a0.tmps.size:=by
      have:=Bg hin j hjm;rw [hs] at this;simpa using this
     rw [Dw (i:=j) htn (by simp [hji]) hs m hjm (fun j' hj' hne=>?_)]
     ·exact hu j hji
     ·have h1:=Bg (Bg hap j hjm) j' hj';rw [hs] at h1;simp only [Bool.or_eq_true,beq_iff_eq,bne_iff_ne] at h1;rcases h1 with (h1 | h1) | h1
      ·exact absurd h1.symm hne
      ·cases h1
      ·exact fun h=>h1 h.symm
    ·refine Dv m (fun j hj hjl hs=>?_);have h1:=Bg hu0 j hj;rw [hs] at h1;simp only [bne_self_eq_false,Bool.false_or,Bool.or_eq_true,beq_iff_eq] at h1;simp only [decide_eq_true_eq] at hjl;rcases h1 with h1 | h1
     ·omega
     ·have:=hback j i h1;omega
   have hs:=hstep i ops[i] him hoi _ w hF;unfold Bd at hs;have hso:(ops[i]).dst=Am ops i:=by unfold Am;rw [hoi];rfl
   have hput:∀ v,(Av ops (fun j=>decide (j<i)) u m a0).put (ops[i]).dst v=Av ops (fun j=>decide (j<i+1)) (upd u i v) m a0:=by
    intro v;rw [hso,Kb (S:=fun j=>decide (j<i)) (by simp) m him (fun j hj hne=>?_)]
    ·refine Dj m (fun j _=>⟨?_,rfl⟩);unfold upd;by_cases hj:j=i
     ·rw [if_pos hj];simp;omega
     ·rw [if_neg hj];by_cases h2:j<i
      ·simp [h2];omega
      ·simp [h2];omega
    ·have h1:=Bg (Bg hap i him) j hj;simp only [Bool.or_eq_true,beq_iff_eq,bne_iff_ne] at h1;rcases h1 with (h1 | h1) | h1
     ·exact absurd h1.symm hne
     ·exact .inl h1
     ·exact .inr h1
   have hnext:∀ v w',Kept w w'→V i v w'→wpOps P ops Q (List.range' (i+1) r) ((Av ops (fun j=>decide (j<i)) u m a0).put (ops[i]).dst v) w':=by
    intro v w' hk' hv;rw [hput];have:=ih (i+1) (upd u i v) w' (by omega) (hk.trans hk') (fun j hj=>by
     unfold upd;by_cases hji:j=i
     ·subst hji;rw [if_pos rfl];exact hv
     ·rw [if_neg hji];exact hmono j _ _ _ hk' (hu j (by omega)))
    rw [hr'] at this;exact this
   unfold wpOps;simp only [hoi];by_cases hw:Region.wanted ops[i] (yielded ops (Av ops (fun j=>decide (j<i)) u m a0).tmps)=true
   ·rw [if_pos hw] at hs ⊢;refine .inl (Oper.wp_mono (fun a' w' h=>?_) hs);obtain ⟨v,rfl,hk',hv⟩:=h;exact hnext v w' hk' hv
   ·rw [if_neg hw] at hs ⊢;exact hnext undef w (Below.refl _ _) hs
theorem Kv {id m:Nat}{V:Nat→Value→World→Prop}{a0:Act}{W:World}
 (hsz:m≤ops.size) (hap:Bm ops m=true) (hin:Cm ops m a0.tmps.size=true) (hbk:Ct .any ops=true)
 (hmono:∀ i v w w',Kept w w'→V i v w→V i v w')
 (hstep:∀ i o,i<m→ops[i]?=some o→∀ a w,Finds .any ops m V a0 W i a w→Bd P ops Q V i o a w)
 (hend:∀ u w,Kept W w→(∀ i,i<m→V i (u i) w)→wpOps P ops Q (List.range' m (ops.size-m)) (Av ops (fun _=>true) u m a0) w) :
 (Code.region id ops false).wp P Q a0 W:=by
 refine wp_region ?_;rw [List.range_eq_range'];have h:=Vb hsz hap hin hbk hmono hstep hend m 0 (fun _=>undef) W (by omega) (Below.refl _ _) (fun j hj=>absurd hj (Nat.not_lt_zero _));have e:∀ n,Av ops (fun j=>decide (j<0)) (fun _=>undef) n a0=a0:=by
  intro n
  induction n with
  | zero=>rfl
  | succ n ih=>unfold Av;rw [if_neg (by simp),ih]
 rw [e m,Nat.sub_zero] at h;exact h
theorem St {id m:Nat}{V:Nat→Value→World→Prop}{a0:Act}{W:World}
 (hsz:m=ops.size) (hap:Bm ops m=true) (hin:Cm ops m a0.tmps.size=true) (hbk:Ct .any ops=true)
 (hmono:∀ i v w w',Kept w w'→V i v w→V i v w')
 (hstep:∀ i o,i<m→ops[i]?=some o→∀ a w,Finds .any ops m V a0 W i a w→Bd P ops Q V i o a w)
 (hend:∀ u w,Kept W w→(∀ i,i<m→V i (u i) w)→Q .normal (Av ops (fun _=>true) u m a0) w) :
 (Code.region id ops false).wp P Q a0 W:=by
 refine Kv (by omega) hap hin hbk hmono hstep (fun u w k hu=>?_);have:ops.size-m=0:=by omega
 rw [this];exact hend u w k hu
theorem Kx {i:Nat}{o:Oper}{a:Act}{w:World}{rest:List Nat}(ho:ops[i]?=some o)(hg:o.guard=none)(h:o.wp P a w (fun a w=>wpOps P ops Q rest a w) Q):wpOps P ops Q (i::rest) a w:=by
 unfold wpOps;simp only [ho];have:Region.wanted o (yielded ops a.tmps)=true:=by simp [Region.wanted,hg]
 rw [if_pos this];exact .inl h
theorem Q7 {id m:Nat}{V:Nat→Value→World→Prop}{a0:Act}{W:World}{o:Oper}
 (hsz:m+1=ops.size) (ho:ops[m]?=some o) (hg:o.guard=none) (hap:Bm ops m=true) (hin:Cm ops m a0.tmps.size=true) (hbk:Ct .any ops=true)
 (hmono:∀ i v w w',Kept w w'→V i v w→V i v w')
 (hstep:∀ i o,i<m→ops[i]?=some o→∀ a w,Finds .any ops m V a0 W i a w→Bd P ops Q V i o a w)
 (hend:∀ u w,Kept W w→(∀ i,i<m→V i (u i) w)→o.wp P (Av ops (fun _=>true) u m a0) w (Q .normal) Q) :
 (Code.region id ops false).wp P Q a0 W:=by
 refine Kv (by omega) hap hin hbk hmono hstep (fun u w k hu=>?_);have:ops.size-m=0+1:=by omega
 rw [this,List.range'_succ];exact Kx ho hg (hend u w k hu)
theorem Q8 {id m:Nat}{V:Nat→Value→World→Prop}{a0:Act}{W:World}{o o':Oper}
 (hsz:m+2=ops.size) (ho:ops[m]?=some o) (hg:o.guard=none) (ho':ops[m+1]?=some o') (hg':o'.guard=none) (hap:Bm ops m=true) (hin:Cm ops m a0.tmps.size=true) (hbk:Ct .any ops=true)
 (hmono:∀ i v w w',Kept w w'→V i v w→V i v w')
 (hstep:∀ i o,i<m→ops[i]?=some o→∀ a w,Finds .any ops m V a0 W i a w→Bd P ops Q V i o a w)
 (hend:∀ u w,Kept W w→(∀ i,i<m→V i (u i) w)→o.wp P (Av ops (fun _=>true) u m a0) w (fun a w=>o'.wp P a w (Q .normal) Q) Q) :
 (Code.region id ops false).wp P Q a0 W:=by
 refine Kv (by omega) hap hin hbk hmono hstep (fun u w k hu=>?_);have:ops.size-m=1+1:=by omega
 rw [this,List.range'_succ];refine Kx ho hg (Oper.wp_mono (fun a w h=>?_) (hend u w k hu));rw [List.range'_succ];exact Kx ho' hg' h
theorem rS {id:Nat}{a0:Act}{W:World}(m:Nat)(l:List (Value→World→Prop))(hs:Fz P .any ops Q m (VL l) a0 W 0 m ops.toList)(he:∀ u w,Kept W w→(∀ i,i<m→VL l i (u i) w)→Q .normal (Av ops (fun _=>true) u m a0) w)(hM:Nonempty (Ic l):=by infer_instance)
 (hz:m=ops.size:=by exact rfl) (ha:Bm ops m=true:=by kernel_rfl) (hi:Cm ops m a0.tmps.size=true:=by kernel_rfl) (hb:Ct .any ops=true:=by kernel_rfl):(Code.region id ops false).wp P Q a0 W :=
 St hz ha hi hb (E7 l (Er hM)) (Ep hs) he
theorem rS1 {id:Nat}{a0:Act}{W:World}{o:Oper}(m:Nat)(l:List (Value→World→Prop))(hs:Fz P .any ops Q m (VL l) a0 W 0 m ops.toList)(he:∀ u w,Kept W w→(∀ i,i<m→VL l i (u i) w)→o.wp P (Av ops (fun _=>true) u m a0) w (Q .normal) Q)(hM:Nonempty (Ic l):=by infer_instance)
 (hz:m+1=ops.size:=by exact rfl) (ho:ops[m]?=some o:=by exact rfl) (hg:o.guard=none:=by exact rfl) (ha:Bm ops m=true:=by kernel_rfl) (hi:Cm ops m a0.tmps.size=true:=by kernel_rfl)
 (hb:Ct .any ops=true:=by kernel_rfl):(Code.region id ops false).wp P Q a0 W :=
 Q7 hz ho hg ha hi hb (E7 l (Er hM)) (Ep hs) he
theorem rS2 {id:Nat}{a0:Act}{W:World}{o o':Oper}(m:Nat)(l:List (Value→World→Prop))(hs:Fz P .any ops Q m (VL l) a0 W 0 m ops.toList)(he:∀ u w,Kept W w→(∀ i,i<m→VL l i (u i) w)→o.wp P (Av ops (fun _=>true) u m a0) w (fun a w=>o'.wp P a w (Q .normal) Q) Q)(hM:Nonempty (Ic l):=by infer_instance)
 (hz:m+2=ops.size:=by exact rfl) (ho:ops[m]?=some o:=by exact rfl) (hg:o.guard=none:=by exact rfl) (ho':ops[m+1]?=some o':=by exact rfl) (hg':o'.guard=none:=by exact rfl) (ha:Bm ops m=true:=by kernel_rfl) (hi:Cm ops m a0.tmps.size=true:=by kernel_rfl)
 (hb:Ct .any ops=true:=by kernel_rfl):(Code.region id ops false).wp P Q a0 W :=
 Q8 hz ho hg ho' hg' ha hi hb (E7 l (Er hM)) (Ep hs) he
end
theorem L7 {w:World}{b:Nat}{cs:Array Value}{t:TypeId}(h:w.heap[b]?=some (.cells cs t (0,0)))(i:Nat):w.cell? ⟨b,i,none⟩=cs[i]?:=by
 simp [World.cell?,h]
theorem Lim.setBlock {w w':World}{s:Value}{xs:List Nat}{b:Nat}{cs:Array Value}{t:TypeId}(h:Lim w s xs)(hb:w.heap[b]?=some (.cells cs t (0,0)))(hn:∀ (i:Nat) (v:Value),cs[i]?=some v→Bl v)
 (hs:w.heap.size≤w'.heap.size) (ho:∀ k,k<w.heap.size→k≠b→w'.heap[k]?=w.heap[k]?):Lim w' s xs:=by
 obtain ⟨hsm,A,c,rfl,hc,hA⟩:=h;refine ⟨hsm,A,c,rfl,hc,fun hp=>?_⟩;obtain ⟨b1,off,rfl,hb1,hcell⟩:=hA hp;have hne:b1≠b:=by
  rintro rfl;have h5:=hcell 0 hp;rw [L7 hb] at h5;exact hn _ _ h5 _ rfl
 refine ⟨b1,off,rfl,Nat.lt_of_lt_of_le hb1 hs,fun i hi=>?_⟩;rw [←hcell i hi];exact World.cell?_of_block (ho b1 hb1 hne)
def ivW (w:World) (b:Nat) (x y z x' y' z':Value):World :=
 (((((w.setCell ⟨b,0,none⟩ x).setCell ⟨b,1,none⟩ y).setCell ⟨b,2,none⟩ z).setCell ⟨b,3,none⟩ x').setCell ⟨b,4,none⟩ y').setCell ⟨b,5,none⟩ z'
theorem BlkI.laid {w:World}{b:Nat}{p q r p' q' r':Value}(h:BlkI w b p q r p' q' r')(x y z x' y' z':Value):BlkI (ivW w b x y z x' y' z') b x y z x' y' z' :=
 Aw (Aw (Aw (Aw (Aw (Aw h _) _) _) _) _) _
theorem Cq {w0 w:World}{b:Nat}{x y z x' y' z':Value}(h:Kept w0 w)(h2:w0.heap.size≤b):Kept w0 (ivW w b x y z x' y' z') :=
 (((((h.setCell (p:=⟨b,0,none⟩) h2 x).setCell (p:=⟨b,1,none⟩) h2 y).setCell (p:=⟨b,2,none⟩) h2 z).setCell (p:=⟨b,3,none⟩) h2 x').setCell (p:=⟨b,4,none⟩) h2 y').setCell (p:=⟨b,5,none⟩) h2 z'
theorem G7 (w:World)(b k:Nat)(x y z x' y' z':Value)(h:k≠b):(ivW w b x y z x' y' z').heap[k]?=w.heap[k]?:=by
 unfold ivW;rw [Below.heap_setCell _ _ _ _ h,Below.heap_setCell _ _ _ _ h,Below.heap_setCell _ _ _ _ h,Below.heap_setCell _ _ _ _ h,Below.heap_setCell _ _ _ _ h,Below.heap_setCell _ _ _ _ h]
theorem BlkI.noLimb {w:World}{b:Nat}{n n':Bool}{A A':Option Addr}{l c l' c':Nat}{e e':Int}(_h:BlkI w b (.bool n) (.slice A l c) (.int .i64 e) (.bool n') (.slice A' l' c') (.int .i64 e')) :
 ∀ (i:Nat) (v:Value),(#[Value.bool n,.slice A l c,.int .i64 e,.bool n',.slice A' l' c',.int .i64 e']:Array Value)[i]?=some v→Bl v:=by
 intro i v hv;rcases i with _ | _ | _ | _ | _ | _ | i
 ·simp at hv;subst hv;exact Ah _
 ·simp at hv;subst hv;exact Ag _ _ _
 ·simp at hv;subst hv;exact Aj _
 ·simp at hv;subst hv;exact Ah _
 ·simp at hv;subst hv;exact Ag _ _ _
 ·simp at hv;subst hv;exact Aj _
 ·simp at hv
theorem Lim.ivW {w:World}{s:Value}{xs:List Nat}{b:Nat}{n n':Bool}{A A':Option Addr}{l c l' c':Nat}{e e':Int}(h:Lim w s xs)(hb:BlkI w b (.bool n) (.slice A l c) (.int .i64 e) (.bool n') (.slice A' l' c') (.int .i64 e'))(x y z x' y' z':Value) :
 Lim (Go.Proofs.YtinbgjcooolbiaaGreatDoor.ivW w b x y z x' y' z') s xs :=
 h.setBlock hb hb.noLimb (by simp [Go.Proofs.YtinbgjcooolbiaaGreatDoor.ivW,World.setCell]) (fun k _ hne=>G7 _ _ _ _ _ _ _ _ _ hne)
theorem DyR.ivW {w:World}{v:Value}{r:Raw}{b:Nat}{n n':Bool}{A A':Option Addr}{l c l' c':Nat}{e e':Int}(h:DyR w v r)(hb:BlkI w b (.bool n) (.slice A l c) (.int .i64 e) (.bool n') (.slice A' l' c') (.int .i64 e'))(x y z x' y' z':Value) :
 DyR (Go.Proofs.YtinbgjcooolbiaaGreatDoor.ivW w b x y z x' y' z') v r:=by
 obtain ⟨s,rfl,hs,h1,h2⟩:=h;exact ⟨s,rfl,hs.ivW hb _ _ _ _ _ _,h1,h2⟩
theorem BlkI.free {w:World}{b:Nat}{x y z x' y' z':Value}(h:BlkI w b x y z x' y' z'):w.frozen? ⟨b,0,none⟩=false∧w.frozen? ⟨b,1,none⟩=false∧w.frozen? ⟨b,2,none⟩=false∧w.frozen? ⟨b,3,none⟩=false∧w.frozen? ⟨b,4,none⟩=false∧w.frozen? ⟨b,5,none⟩=false :=
 ⟨An h 0,An h 1,An h 2,An h 3,An h 4,An h 5⟩
theorem Aci {fn:Func}{R:Ending→World→Prop}{a:Act}{w:World}{b t:Nat}{x y z x' y' z':Value}(h:BlkI w b x y z x' y' z')
 (hres:fn.results=#[.cell t 26]) (ht:a.tmps.getD t undef=.pointer (some ⟨b,0,none⟩)) (hd:a.defers=[]) (hR:R (.returned (.agg #[x,y,z,x',y',z'])) w) :
 bodyPost Tryz.prog fn R .ret a w:=by
 obtain ⟨_,c0,c1,c2,c3,c4,c5⟩:=h.facts;refine bodyPost_ret (v:=.agg #[x,y,z,x',y',z']) ?_ hd hR;have ht2:a.tmps[t]?.getD undef=.pointer (some ⟨b,0,none⟩):=by simpa using ht
 simp [results,hres,ht2,go_sem,c0,c1,c2,c3,c4,c5]
theorem Ei {fn:Func}{R:Ending→World→Prop}{a:Act}{w:World}{b t u:Nat}{x y z x' y' z':Value}(h:BlkI w b x y z x' y' z')
 (hres:fn.results=#[.cell t 26,.tmp u]) (ht:a.tmps.getD t undef=.pointer (some ⟨b,0,none⟩)) (hd:a.defers=[])
 (hR:R (.returned (.tuple #[.agg #[x,y,z,x',y',z'],a.tmps.getD u undef])) w):bodyPost Tryz.prog fn R .ret a w:=by
 obtain ⟨_,c0,c1,c2,c3,c4,c5⟩:=h.facts;refine bodyPost_ret (v:=.tuple #[.agg #[x,y,z,x',y',z'],a.tmps.getD u undef]) ?_ hd hR;have ht2:a.tmps[t]?.getD undef=.pointer (some ⟨b,0,none⟩):=by simpa using ht
 simp [results,hres,ht2,go_sem,c0,c1,c2,c3,c4,c5]
def RetI (a:RawI) (w:World) (e:Ending) (w':World):Prop:=Kept w w'∧∃ v,e=.returned v∧IvR w' v a
def RetIE (o:Outc RawI) (w:World) (e:Ending) (w':World):Prop:=Kept w w'∧∃ v,e=.returned (.tuple #[v,.int .i64 o.k])∧IvR w' v o.v
theorem G0 (w:World):BlkI (w.alloc (.cells #[.bool false,.slice none 0 0,.int .i64 0,.bool false,.slice none 0 0,.int .i64 0] 26)) w.heap.size (.bool false) (.slice none 0 0) (.int .i64 0) (.bool false) (.slice none 0 0) (.int .i64 0):=heap_alloc_new _ _
theorem Tm {w:World}{v:Value}{r:Raw}(hv:DyR w v r):Calls Tryz.prog 23 #[v] w (RetI ⟨r,r⟩ w):=by
 have hv':=hv;obtain ⟨A,l,c,rfl,hv⟩:=Bj hv;have HV:=hid hv;clear hv hv';have hb1:=Ez (w.alloc (.cells #[.bool r.neg,.slice A l c,.int .i64 r.e] 24)) (.bool r.neg) (.slice A l c) (.int .i64 r.e) (.bool r.neg) (.slice A l c) (.int .i64 r.e);simp only [World.size_alloc] at hb1;have HB:=hid hb1;clear hb1;go_enter Tryz.func23,Tryz.ntmps23;go_wp2_with fail;exact Aci HB.out rfl rfl rfl ⟨(Ad _ _).trans (Ad _ _),_,rfl,_,_,_,_,_,_,rfl,HV.out.kept ((Ad _ _).trans (Ad _ _)),HV.out.kept ((Ad _ _).trans (Ad _ _))⟩
theorem Vx {xs ys:List Nat}(hl:xs.length=ys.length)(h:∀ i,i<xs.length→nth xs i=nth ys i):xs=ys:=by
 apply List.ext_getElem hl;intro i h1 h2;have:=h i h1;unfold nth at this;rw [List.getD_eq_getElem?_getD,List.getD_eq_getElem?_getD,List.getElem?_eq_getElem h1,List.getElem?_eq_getElem h2] at this;exact this
theorem Zw {w:World}{v u:Value}{xs ys:List Nat}(hv:Lim w v xs)(hu:Lim w u ys)(hl:xs.length≤17592186044416) :
 Calls Tryz.prog 68 #[v,u] w (RetK (.bool (xs==ys)) w):=by
 obtain ⟨hs,A,c,rfl,hc,hA⟩:=hv;obtain ⟨hs',A',c',rfl,hc',hA'⟩:=hu;by_cases hne:xs.length=ys.length
 ·have hlb:((xs.length:Int)==(ys.length:Int))=true:=by rw [beq_iff_eq];omega
  have HE:=hid hne;obtain ⟨n,hn⟩:∃ n,n=xs.length:=⟨_,rfl⟩;have hn2:n=ys.length:=by omega
  rw [←hn] at hl hc hA ⊢;rw [←hn2] at hc' hA' ⊢;rw [←hn,←hn2] at hlb;have HA:=hid hA;have HA':=hid hA';have HS:=hid hs;have HS':=hid hs';have HN:=hid hn;clear hA hA' hs hs' hn hn2 hne hlb;have hlb:((n:Int)==(n:Int))=true:=by rw [beq_iff_eq]
  go_enter Tryz.func68,Tryz.ntmps68;go_wp2_with fail
  go_loopw [13] (fun t wr=>∃ k:Nat,k≤n∧t=.int .i64 k∧(∀ i,i<k→nth xs i=nth ys i)∧Kept w wr) (fun t _=>(n-intOf t).toNat)
  case atStart=>exact ⟨0,Nat.zero_le _,rfl,fun i hi=>absurd hi (Nat.not_lt_zero _),Below.refl _ _⟩
  case round =>
   obtain ⟨k,hk,rfl,heq,hK⟩:=hrel;have K:=hid hK;clear hK;have HQ:=hid heq;clear heq;by_cases hlt:k<n
   ·obtain ⟨b,off,rfl,hb,hcell⟩:=HA.out (by omega);obtain ⟨b',off',rfl,hb',hcell'⟩:=HA'.out (by omega);have h1:=fun w1 (q:Kept wr w1)=>((K.out.trans q).cell (p:=⟨b,off+k,none⟩) hb).trans (hcell k hlt)
    have h2:=fun w1 (q:Kept wr w1)=>((K.out.trans q).cell (p:=⟨b',off'+k,none⟩) hb').trans (hcell' k hlt)
    have H1:=hid h1;have H2:=hid h2;have hx0:(0:Int)≤(k:Int):=by omega
    have hx1:(k:Int)<(n:Int):=by omega
    clear hcell hcell' h1 h2;by_cases hxy:nth xs k=nth ys k
    ·have hb1:(((nth xs k:Nat):Int) != ((nth ys k:Nat):Int))=false:=by simp [hxy]
     have HXY:=hid hxy;clear hxy;generalize hgx:nth xs k=x at *;generalize hgy:nth ys k=y at *;have GX:=hid hgx;have GY:=hid hgy;clear hgx hgy;go_wp2_with fail
     refine rgL 9 ([(vE (.slice (some ⟨b,off,none⟩) n c)),(vE (.int .i64 k)),(vE (.pointer (some ⟨b,off+k,none⟩))),(vE (.int .u64 x)),(vE (.slice (some ⟨b',off',none⟩) n c')),(vE (.int .i64 k)),(vE (.pointer (some ⟨b',off'+k,none⟩))),(vE (.int .u64 y)),(vE (.bool false))])
      ⟨
       (gq 0),(gq 5),(gvv 0 16 1 17),(fun aF wF F=>by have s18:=F.v 2 18;exact sw (by have h:=H1.out _ F.kept;go_simp) rfl),(gq 1),(gq 5),(gvv 4 20 5 21),(fun aF wF F=>by have s22:=F.v 6 22;exact sw (by have h:=H2.out _ F.kept;go_simp) rfl),(gvv 3 19 7 23),
       trivial⟩ ?_
     intro u w1 k1 hu;simp only [Av,Am,if_true,Act.put,zlA,zlB,zlC,zlD,zlE,zlF,zlG,hv hu 0,hv hu 1,hv hu 2,hv hu 3,hv hu 4,hv hu 5,hv hu 6,hv hu 7,hv hu 8];clear hu;go_wp2_with fail;go_roundw
     case rel =>
      refine ⟨k+1,by omega,by go_num,fun i hi=>?_,K.out.trans k1⟩;by_cases hik:i=k
      ·rw [hik,GX.out,GY.out];exact HXY.out
      ·exact HQ.out i (by omega)
     case measure=>simp [intOf];omega
    ·have hb1:(((nth xs k:Nat):Int) != ((nth ys k:Nat):Int))=true:=by simp;omega
     have hres:(xs==ys)=false:=by
      rw [beq_eq_false_iff_ne];intro h;exact hxy (by rw [h])
     rw [hres];clear hres;have HXY:=hid hxy;clear hxy;generalize hgx:nth xs k=x at *;generalize hgy:nth ys k=y at *;have GX:=hid hgx;have GY:=hid hgy;clear hgx hgy;go_wp2_with fail
     refine rgL 9 ([(vE (.slice (some ⟨b,off,none⟩) n c)),(vE (.int .i64 k)),(vE (.pointer (some ⟨b,off+k,none⟩))),(vE (.int .u64 x)),(vE (.slice (some ⟨b',off',none⟩) n c')),(vE (.int .i64 k)),(vE (.pointer (some ⟨b',off'+k,none⟩))),(vE (.int .u64 y)),(vE (.bool true))])
      ⟨
       (gq 0),(gq 5),(gvv 0 16 1 17),(fun aF wF F=>by have s18:=F.v 2 18;exact sw (by have h:=H1.out _ F.kept;go_simp) rfl),(gq 1),(gq 5),(gvv 4 20 5 21),(fun aF wF F=>by have s22:=F.v 6 22;exact sw (by have h:=H2.out _ F.kept;go_simp) rfl),(gvv 3 19 7 23),
       trivial⟩ ?_
     intro u w1 k1 hu;simp only [Av,Am,if_true,Act.put,zlA,zlB,zlC,zlD,zlE,zlF,zlG,hv hu 0,hv hu 1,hv hu 2,hv hu 3,hv hu 4,hv hu 5,hv hu 6,hv hu 7,hv hu 8];clear hu;go_wp2_with fail;go_ret;exact ⟨rfl,K.out.trans k1⟩
   ·obtain rfl:k=n:=by omega
    have hres:(xs==ys)=true:=by
     rw [beq_iff_eq];exact Vx HE.out (fun i hi=>HQ.out i (by have:=HN.out;omega))
    go_wp2_with fail;go_ret;exact ⟨by rw [hres];rfl,K.out⟩
 ·have hres:(xs==ys)=false:=by
   rw [beq_eq_false_iff_ne];intro h;exact hne (by rw [h])
  rw [hres];have hlb:((xs.length:Int)==(ys.length:Int))=false:=by rw [beq_eq_false_iff_ne];omega
  clear hA hA' hs hs' hne hres;generalize xs.length=n at *;generalize ys.length=n' at *;go_enter Tryz.func68,Tryz.ntmps68;go_wp2_with fail;go_ret;exact ⟨rfl,Below.refl _ _⟩
def Abc (a b:Raw):Bool:=(a.neg==b.neg)&&(a.e==b.e)&&(a.m==b.m)
theorem Zt {w:World}{v u:Value}{a b:Raw}(ha:DyR w v a)(hb:DyR w u b)(hl:a.m.length≤17592186044416) :
 Calls Tryz.prog 26 #[v,u] w (RetK (.bool (Abc a b)) w):=by
 obtain ⟨A,l,c,rfl,-,la,-,-⟩:=ha.shape;obtain ⟨A2,l2,c2,rfl,-,lb,-,-⟩:=hb.shape;have he:=fun w1 (k:Kept w w1)=>Zw (la.kept k) (lb.kept k) hl
 unfold Abc;have HE:=hid he;clear he la lb ha hb hl;generalize (a.m==b.m)=r3 at *;generalize a.neg=n1 at *;generalize a.e=e1 at *;generalize b.neg=n2 at *;generalize b.e=e2 at *;obtain ⟨W,hW,kW,B0,B1⟩:=Kh w (.bool n1) (.slice A l c) (.int .i64 e1) (.bool n2) (.slice A2 l2 c2) (.int .i64 e2);have HW:=hid hW;have K:=hid kW;clear hW kW B0 B1;have hr1:(n1==n2)=true∨(n1==n2)=false:=Ca _;have hr2:(e1==e2)=true∨(e1==e2)=false:=Ca _;rcases hr1 with hr1 | hr1
 ·rw [hr1,Bool.true_and];rcases hr2 with hr2 | hr2
  ·rw [hr2,Bool.true_and];go_enter Tryz.func26,Tryz.ntmps26;go_wp2_with fail;rw [←HW.out];refine (HE.out _ K.out).mono ?_;rintro e w1 ⟨rfl,q⟩;simp only [];go_wp2_with fail;go_ret;exact ⟨rfl,K.out.trans q⟩
  ·rw [hr2,Bool.false_and];go_enter Tryz.func26,Tryz.ntmps26;go_wp2_with fail;go_ret;exact ⟨rfl,by have:=K.out;rwa [HW.out] at this⟩
 ·rw [hr1,Bool.false_and,Bool.false_and];clear hr2;go_enter Tryz.func26,Tryz.ntmps26;go_wp2_with fail;go_ret;exact ⟨rfl,by have:=K.out;rwa [HW.out] at this⟩
theorem Xr (k:Int)(w:World):Calls Tryz.prog 29 #[.bool true,.int .i64 k] w fun e w'=>e=.returned (.tuple #[])∧w=w':=by
 go_enter Tryz.func29,Tryz.ntmps29;go_wp2
 go_end0
 exact ⟨rfl,rfl⟩
theorem Uu (k:Int)(w:World):Calls Tryz.prog 29 #[.bool false,.int .i64 k] w fun e w'=>e=.panicked (Ck 66 k)∧w=w':=by
 go_enter Tryz.func29,Tryz.ntmps29;go_wp2;exact ⟨rfl,rfl,rfl⟩
theorem Hw (b:Bool)(k:Int)(w:World):Calls Tryz.prog 29 #[.bool b,.int .i64 k] w fun e w'=>e=Tu 66 b k∧w=w':=by
 cases b
 ·exact Uu k w
 ·exact Xr k w
theorem Gg (k:Int)(w:World):Calls Tryz.prog 29 #[.bool true,.int .i64 k] w (RetK (.tuple #[]) w):=(Hw true k w).mono fun _ _ ⟨he,hw⟩=>⟨he,hw▸Below.refl _ _⟩
theorem Kr (k:Int)(w:World):(Instr.typeAssert (.iface 66 (.agg #[.int .i64 k])) 20 66 true).run Tryz.prog w=.ok (.tuple #[.agg #[.int .i64 k],.bool true]) w:=by
 kernel_rfl
theorem Lj (w:World):(Instr.typeAssert .nilIface 20 66 true).run Tryz.prog w=.ok (.tuple #[.agg #[.int .i64 0],.bool false]) w:=by
 kernel_rfl
theorem RetIE.good {o:Outc RawI}{w w':World}{e:Ending}(h:RetIE o w e w'):Ef (fun u w=>∃ d,u=.tuple #[d,.int .i64 o.k]∧IvR w d o.v) w e w':=by
 obtain ⟨k,v,he,hl⟩:=h;exact ⟨_,he,k,v,rfl,hl⟩
theorem RetI.good {a:RawI}{w w':World}{e:Ending}(h:RetI a w e w'):Ef (fun u w=>IvR w u a) w e w':=by
 obtain ⟨k,v,he,hl⟩:=h;exact ⟨v,he,k,hl⟩
section
variable {P:Program} {ops:Array Oper} {Q:Exit→Act→World→Prop} {i:Nat} {a:Act} {w:World} {V:Nat→Value→World→Prop} {o:Oper} {f:FuncId} {args:Array Value}
theorem sI {x:RawI}(hc:Calls P f args w (RetI x w))(hp:∀ v w',IvR w' v x→V i v w')(hw:Region.wanted o (yielded ops a.tmps)=true:=by simp [Region.wanted])(h:(execOp a.eval o).run P w=.ok (.enter f args) w:=by go_simp):Bd P ops Q V i o a w :=
 Ao hw h hc (fun _ _ h=>RetI.good h) hp
theorem sP {x:Outc RawI}(hc:Calls P f args w (RetIE x w))(hp:∀ v w',(∃ d,v=.tuple #[d,.int .i64 x.k]∧IvR w' d x.v)→V i v w')(hw:Region.wanted o (yielded ops a.tmps)=true:=by simp [Region.wanted])(h:(execOp a.eval o).run P w=.ok (.enter f args) w:=by go_simp):Bd P ops Q V i o a w :=
 Ao hw h hc (fun _ _ h=>RetIE.good h) hp
end
theorem E4 (w:World):DyR w (.agg #[.bool false,.slice none 0 0,.int .i64 0]) rz:=⟨_,rfl,Lim.nil _ _ _,by decide,by decide⟩
theorem DyR.dyW {w:World}{v:Value}{r:Raw}{b:Nat}{x y z:Value}(h:DyR w v r)(h0:Blk w b x y z)(hx:Bl x)(hy:Bl y)(hz:Bl z)(x' y' z':Value):DyR (Go.Proofs.YtinbgjcooolbiaaGreatDoor.dyW w b x' y' z') v r:=by
 obtain ⟨s,rfl,hs,h1,h2⟩:=h;exact ⟨s,rfl,hs.dyW h0 hx hy hz,h1,h2⟩
theorem P0 (w:World)(x y z:Value):∃ V,V=w.alloc (.cells #[x,y,z] 24)∧Kept w V∧Blk V w.heap.size x y z∧w.heap.size<V.heap.size :=
 ⟨_,rfl,Ad _ _,blk_new _ _ _ _,by simp⟩
theorem Kk:limbs 1=[1]:=by rw [Bc 1 (by decide)];simp [limbs_zero]
def d1:Dy:=⟨false,1,0⟩
theorem Pb (n:Bool)(e:Int)(h1:-1048576≤e)(h2:e≤1048576):(Dy.mk n 1 e).Ok:=⟨by simp [Kk],fun h=>absurd h (by simp),fun _=>rfl,h1,h2⟩
theorem P9:d1.Ok:=Pb _ _ (by decide) (by decide)
theorem Aba:Bu false 1 0=⟨d1,0⟩:=I2 P9
theorem Wj:d1.raw=⟨false,[1],0⟩:=by unfold Dy.raw d1;simp only [Kk]
theorem Xd {w:World}{b:Nat}{T:TypeId}(h:w.heap[b]?=some (.cells #[.int .u64 1] T (0,0))):Lim w (.slice (some ⟨b,0,none⟩) 1 1) [1]:=by
 refine ⟨fun n hn=>by simp at hn;omega,_,_,rfl,Nat.le_refl _,fun _=>⟨b,0,rfl,(Array.getElem?_eq_some_iff.1 h).1,fun i hi=>?_⟩⟩;have:i=0:=by simpa using hi
 subst this;exact Ae h 0 _ rfl
theorem Ac6 (w:World)(x y z x' y' z':Value):∃ V,V=w.alloc (.cells #[x,y,z,x',y',z'] 26)∧Kept w V∧BlkI V w.heap.size x y z x' y' z'∧w.heap.size<V.heap.size :=
 ⟨_,rfl,Ad _ _,Ez _ _ _ _ _ _ _,by simp⟩
end Go.Proofs.YtinbgjcooolbiaaGreatDoor
