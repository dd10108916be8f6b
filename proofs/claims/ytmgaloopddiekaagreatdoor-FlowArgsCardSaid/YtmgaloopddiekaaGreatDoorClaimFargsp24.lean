/- Words and contracts, part 24. -/
import Derived.Test.YtmgaloopddiekaaGreatDoorClaimFargsp21
set_option maxRecDepth 100000
set_option maxHeartbeats 0
namespace Go.Proofs.YtmgaloopddiekaaGreatDoor
open Go.Lib (hid)
open Go.RowKit
theorem Pe {w:World}{b:Nat}{cs:Array Value}{t:TypeId}(h:w.heap[b]?=some (.cells cs t (0,0)))(i:Nat):w.cell? ⟨b,i,none⟩=cs[i]?:=by
 simp [World.cell?,h]
theorem Lim.setBlock {w w':World}{s:Value}{xs:List Nat}{b:Nat}{cs:Array Value}{t:TypeId}(h:Lim w s xs)(hb:w.heap[b]?=some (.cells cs t (0,0)))(hn:∀ (i:Nat) (v:Value),cs[i]?=some v→Bv v)
 (hs:w.heap.size≤w'.heap.size) (ho:∀ k,k<w.heap.size→k≠b→w'.heap[k]?=w.heap[k]?):Lim w' s xs:=by
 obtain ⟨hsm,A,c,rfl,hc,hA⟩:=h;refine ⟨hsm,A,c,rfl,hc,fun hp=>?_⟩;obtain ⟨b1,off,rfl,hb1,hcell⟩:=hA hp;have hne:b1≠b:=by
  rintro rfl;have h5:=hcell 0 hp;rw [Pe hb] at h5;exact hn _ _ h5 _ rfl
 refine ⟨b1,off,rfl,Nat.lt_of_lt_of_le hb1 hs,fun i hi=>?_⟩;rw [←hcell i hi];exact World.cell?_of_block (ho b1 hb1 hne)
def ivW (w:World) (b:Nat) (x y z x' y' z':Value):World :=
 (((((w.setCell ⟨b,0,none⟩ x).setCell ⟨b,1,none⟩ y).setCell ⟨b,2,none⟩ z).setCell ⟨b,3,none⟩ x').setCell ⟨b,4,none⟩ y').setCell ⟨b,5,none⟩ z'
theorem BlkI.laid {w:World}{b:Nat}{p q r p' q' r':Value}(h:BlkI w b p q r p' q' r')(x y z x' y' z':Value):BlkI (ivW w b x y z x' y' z') b x y z x' y' z' :=
 Av (Av (Av (Av (Av (Av h _) _) _) _) _) _
theorem B8 {w0 w:World}{b:Nat}{x y z x' y' z':Value}(h:Kept w0 w)(h2:w0.heap.size≤b):Kept w0 (ivW w b x y z x' y' z') :=
 (((((h.setCell (p:=⟨b,0,none⟩) h2 x).setCell (p:=⟨b,1,none⟩) h2 y).setCell (p:=⟨b,2,none⟩) h2 z).setCell (p:=⟨b,3,none⟩) h2 x').setCell (p:=⟨b,4,none⟩) h2 y').setCell (p:=⟨b,5,none⟩) h2 z'
theorem Jk (w:World)(b k:Nat)(x y z x' y' z':Value)(h:k≠b):(ivW w b x y z x' y' z').heap[k]?=w.heap[k]?:=by
 unfold ivW;rw [Below.heap_setCell _ _ _ _ h,Below.heap_setCell _ _ _ _ h,Below.heap_setCell _ _ _ _ h,Below.heap_setCell _ _ _ _ h,Below.heap_setCell _ _ _ _ h,Below.heap_setCell _ _ _ _ h]
theorem BlkI.noLimb {w:World}{b:Nat}{n n':Bool}{A A':Option Addr}{l c l' c':Nat}{e e':Int}(_h:BlkI w b (.bool n) (.slice A l c) (.int .i64 e) (.bool n') (.slice A' l' c') (.int .i64 e')) :
 ∀ (i:Nat) (v:Value),(#[Value.bool n,.slice A l c,.int .i64 e,.bool n',.slice A' l' c',.int .i64 e']:Array Value)[i]?=some v→Bv v:=by
 intro i v hv;rcases i with _ | _ | _ | _ | _ | _ | i
 ·simp at hv;subst hv;exact An _
 ·simp at hv;subst hv;exact Ak _ _ _
 ·simp at hv;subst hv;exact Aq _
 ·simp at hv;subst hv;exact An _
 ·simp at hv;subst hv;exact Ak _ _ _
 ·simp at hv;subst hv;exact Aq _
 ·simp at hv
theorem Lim.ivW {w:World}{s:Value}{xs:List Nat}{b:Nat}{n n':Bool}{A A':Option Addr}{l c l' c':Nat}{e e':Int}(h:Lim w s xs)(hb:BlkI w b (.bool n) (.slice A l c) (.int .i64 e) (.bool n') (.slice A' l' c') (.int .i64 e'))(x y z x' y' z':Value) :
 Lim (Go.Proofs.YtmgaloopddiekaaGreatDoor.ivW w b x y z x' y' z') s xs :=
 h.setBlock hb hb.noLimb (by simp [Go.Proofs.YtmgaloopddiekaaGreatDoor.ivW,World.setCell]) (fun k _ hne=>Jk _ _ _ _ _ _ _ _ _ hne)
theorem DyR.ivW {w:World}{v:Value}{r:Raw}{b:Nat}{n n':Bool}{A A':Option Addr}{l c l' c':Nat}{e e':Int}(h:DyR w v r)(hb:BlkI w b (.bool n) (.slice A l c) (.int .i64 e) (.bool n') (.slice A' l' c') (.int .i64 e'))(x y z x' y' z':Value) :
 DyR (Go.Proofs.YtmgaloopddiekaaGreatDoor.ivW w b x y z x' y' z') v r:=by
 obtain ⟨s,rfl,hs,h1,h2⟩:=h;exact ⟨s,rfl,hs.ivW hb _ _ _ _ _ _,h1,h2⟩
theorem BlkI.free {w:World}{b:Nat}{x y z x' y' z':Value}(h:BlkI w b x y z x' y' z'):w.frozen? ⟨b,0,none⟩=false∧w.frozen? ⟨b,1,none⟩=false∧w.frozen? ⟨b,2,none⟩=false∧w.frozen? ⟨b,3,none⟩=false∧w.frozen? ⟨b,4,none⟩=false∧w.frozen? ⟨b,5,none⟩=false :=
 ⟨Am h 0,Am h 1,Am h 2,Am h 3,Am h 4,Am h 5⟩
theorem Ns {fn:Func}{R:Ending→World→Prop}{a:Act}{w:World}{b t:Nat}{x y z x' y' z':Value}(h:BlkI w b x y z x' y' z')
 (hres:fn.results=#[.cell t 51]) (ht:a.tmps.getD t undef=.pointer (some ⟨b,0,none⟩)) (hd:a.defers=[]) (hR:R (.returned (.agg #[x,y,z,x',y',z'])) w) :
 bodyPost Tryz.prog fn R .ret a w:=by
 obtain ⟨_,c0,c1,c2,c3,c4,c5⟩:=h.facts;refine bodyPost_ret (v:=.agg #[x,y,z,x',y',z']) ?_ hd hR;have ht2:a.tmps[t]?.getD undef=.pointer (some ⟨b,0,none⟩):=by simpa using ht
 simp [results,hres,ht2,go_sem,c0,c1,c2,c3,c4,c5]
theorem Dm {fn:Func}{R:Ending→World→Prop}{a:Act}{w:World}{b t u:Nat}{x y z x' y' z':Value}(h:BlkI w b x y z x' y' z')
 (hres:fn.results=#[.cell t 51,.tmp u]) (ht:a.tmps.getD t undef=.pointer (some ⟨b,0,none⟩)) (hd:a.defers=[])
 (hR:R (.returned (.tuple #[.agg #[x,y,z,x',y',z'],a.tmps.getD u undef])) w):bodyPost Tryz.prog fn R .ret a w:=by
 obtain ⟨_,c0,c1,c2,c3,c4,c5⟩:=h.facts;refine bodyPost_ret (v:=.tuple #[.agg #[x,y,z,x',y',z'],a.tmps.getD u undef]) ?_ hd hR;have ht2:a.tmps[t]?.getD undef=.pointer (some ⟨b,0,none⟩):=by simpa using ht
 simp [results,hres,ht2,go_sem,c0,c1,c2,c3,c4,c5]
def RetI (a:RawI) (w:World) (e:Ending) (w':World):Prop:=Kept w w'∧∃ v,e=.returned v∧IvR w' v a
def RetIE (o:Outc RawI) (w:World) (e:Ending) (w':World):Prop:=Kept w w'∧∃ v,e=.returned (.tuple #[v,.int .i64 o.k])∧IvR w' v o.v
theorem Dv (w:World):BlkI (w.alloc (.cells #[.bool false,.slice none 0 0,.int .i64 0,.bool false,.slice none 0 0,.int .i64 0] 51)) w.heap.size (.bool false) (.slice none 0 0) (.int .i64 0) (.bool false) (.slice none 0 0) (.int .i64 0):=heap_alloc_new _ _
theorem Up {w:World}{v:Value}{r:Raw}(hv:DyR w v r):Calls Tryz.prog 43 #[v] w (RetI ⟨r,r⟩ w):=by
 have hv':=hv;obtain ⟨A,l,c,rfl,hv⟩:=By hv;have HV:=hid hv;clear hv hv';have hb1:=Cv (w.alloc (.cells #[.bool r.neg,.slice A l c,.int .i64 r.e] 30)) (.bool r.neg) (.slice A l c) (.int .i64 r.e) (.bool r.neg) (.slice A l c) (.int .i64 r.e);simp only [World.size_alloc] at hb1;have HB:=hid hb1;clear hb1;go_enter Tryz.func43,Tryz.ntmps43;go_wp2_with fail;exact Ns HB.out rfl rfl rfl ⟨(Ad _ _).trans (Ad _ _),_,rfl,_,_,_,_,_,_,rfl,HV.out.kept ((Ad _ _).trans (Ad _ _)),HV.out.kept ((Ad _ _).trans (Ad _ _))⟩
section
variable {P:Program} {ops:Array Oper} {Q:Exit→Act→World→Prop}
theorem Aai {m:Nat}{V:Nat→Value→World→Prop}{a0:Act}{W:World}
 (hsz:m≤ops.size) (hap:Cb ops m=true) (hin:Cy ops m a0.tmps.size=true) (hbk:Dc .any ops=true)
 (hmono:∀ i v w w',Kept w w'→V i v w→V i v w')
 (hstep:∀ i o,i<m→ops[i]?=some o→∀ a w,Finds .any ops m V a0 W i a w→Bp P ops Q V i o a w)
 (hend:∀ u w,Kept W w→(∀ i,i<m→V i (u i) w)→wpOps P ops Q (List.range' m (ops.size-m)) (Bl ops (fun _=>true) u m a0) w) :
 ∀ (k i:Nat) (u:Nat→Value) (w:World),i+k=m→Kept W w→(∀ j,j<i→V j (u j) w)→wpOps P ops Q (List.range' i (ops.size-i)) (Bl ops (fun j=>decide (j<i)) u m a0) w:=by
 intro k
 induction k with
 | zero =>
   intro i u w hi hk hu;obtain rfl:i=m:=by omega
   have e:Bl ops (fun j=>decide (j<i)) u i a0=Bl ops (fun _=>true) u i a0:=Ep i (fun j hj=>⟨by simp [hj],rfl⟩);rw [e];exact hend u w hk hu
 | succ k ih =>
   intro i u w hi hk hu;have him:i<m:=by omega
   have his:i<ops.size:=by omega
   obtain ⟨r,hr⟩:∃ r,ops.size-i=r+1:=⟨ops.size-i-1,by omega⟩;have hr':ops.size-(i+1)=r:=by omega
   rw [hr,List.range'_succ];have hoi:=Array.getElem?_eq_getElem his;have hback:∀ x y,Bm .any ops x y=true→y<x:=by
    intro x y hxy;unfold Bm at hxy;by_cases hx:x<ops.size
    ·have h1:=Bz hbk x hx;rw [Array.getElem?_eq_getElem hx] at h1 hxy;simp only [Option.map_some,Option.getD_some,Array.all_eq_true',Array.any_eq_true'] at h1 hxy;obtain ⟨e,he,hb⟩:=hxy;simp only [Bool.and_eq_true,beq_iff_eq] at hb;have:=h1 e he;rw [hb.1,hb.2] at this;simpa using this
    ·rw [Array.getElem?_eq_none (by omega)] at hxy;simp at hxy
   have hF:Finds .any ops m V a0 W i (Bl ops (fun j=>decide (j<i)) u m a0) w:=by
    refine ⟨hk,Hl m,fun j t hw hs=>?_,fun t hu0=>?_⟩
    ·have hji:=hback i j hw;have hjm:j<m:=by omega
     have htn:t<a0.tmps.size:=by
      have:=Bz hin j hjm;rw [hs] at this;simpa using this
     rw [Fb (i:=j) htn (by simp [hji]) hs m hjm (fun j' hj' hne=>?_)]
     ·exact hu j hji
     ·have h1:=Bz (Bz hap j hjm) j' hj';rw [hs] at h1;simp only [Bool.or_eq_true,beq_iff_eq,bne_iff_ne] at h1;rcases h1 with (h1 | h1) | h1
      ·exact absurd h1.symm hne
      ·cases h1
      ·exact fun h=>h1 h.symm
    ·refine Fa m (fun j hj hjl hs=>?_);have h1:=Bz hu0 j hj;rw [hs] at h1;simp only [bne_self_eq_false,Bool.false_or,Bool.or_eq_true,beq_iff_eq] at h1;simp only [decide_eq_true_eq] at hjl;rcases h1 with h1 | h1
     ·omega
     ·have:=hback j i h1;omega
   have hs:=hstep i ops[i] him hoi _ w hF;unfold Bp at hs;have hso:(ops[i]).dst=Au ops i:=by unfold Au;rw [hoi];rfl
   have hput:∀ v,(Bl ops (fun j=>decide (j<i)) u m a0).put (ops[i]).dst v=Bl ops (fun j=>decide (j<i+1)) (upd u i v) m a0:=by
    intro v;rw [hso,M7 (S:=fun j=>decide (j<i)) (by simp) m him (fun j hj hne=>?_)]
    ·refine Ep m (fun j _=>⟨?_,rfl⟩);unfold upd;by_cases hj:j=i
     ·rw [if_pos hj];simp;omega
     ·rw [if_neg hj];by_cases h2:j<i
      ·simp [h2];omega
      ·simp [h2];omega
    ·have h1:=Bz (Bz hap i him) j hj;simp only [Bool.or_eq_true,beq_iff_eq,bne_iff_ne] at h1;rcases h1 with (h1 | h1) | h1
     ·exact absurd h1.symm hne
     ·exact .inl h1
     ·exact .inr h1
   have hnext:∀ v w',Kept w w'→V i v w'→wpOps P ops Q (List.range' (i+1) r) ((Bl ops (fun j=>decide (j<i)) u m a0).put (ops[i]).dst v) w':=by
    intro v w' hk' hv;rw [hput];have:=ih (i+1) (upd u i v) w' (by omega) (hk.trans hk') (fun j hj=>by
     unfold upd;by_cases hji:j=i
     ·subst hji;rw [if_pos rfl];exact hv
     ·rw [if_neg hji];exact hmono j _ _ _ hk' (hu j (by omega)))
    rw [hr'] at this;exact this
   unfold wpOps;simp only [hoi];by_cases hw:Region.wanted ops[i] (yielded ops (Bl ops (fun j=>decide (j<i)) u m a0).tmps)=true
   ·rw [if_pos hw] at hs ⊢;refine .inl (Oper.wp_mono (fun a' w' h=>?_) hs);obtain ⟨v,rfl,hk',hv⟩:=h;exact hnext v w' hk' hv
   ·rw [if_neg hw] at hs ⊢;exact hnext undef w (Below.refl _ _) hs
theorem Nx {id m:Nat}{V:Nat→Value→World→Prop}{a0:Act}{W:World}
 (hsz:m≤ops.size) (hap:Cb ops m=true) (hin:Cy ops m a0.tmps.size=true) (hbk:Dc .any ops=true)
 (hmono:∀ i v w w',Kept w w'→V i v w→V i v w')
 (hstep:∀ i o,i<m→ops[i]?=some o→∀ a w,Finds .any ops m V a0 W i a w→Bp P ops Q V i o a w)
 (hend:∀ u w,Kept W w→(∀ i,i<m→V i (u i) w)→wpOps P ops Q (List.range' m (ops.size-m)) (Bl ops (fun _=>true) u m a0) w) :
 (Code.region id ops false).wp P Q a0 W:=by
 refine wp_region ?_;rw [List.range_eq_range'];have h:=Aai hsz hap hin hbk hmono hstep hend m 0 (fun _=>undef) W (by omega) (Below.refl _ _) (fun j hj=>absurd hj (Nat.not_lt_zero _));have e:∀ n,Bl ops (fun j=>decide (j<0)) (fun _=>undef) n a0=a0:=by
  intro n
  induction n with
  | zero=>rfl
  | succ n ih=>unfold Bl;rw [if_neg (by simp),ih]
 rw [e m,Nat.sub_zero] at h;exact h
theorem Xi {id m:Nat}{V:Nat→Value→World→Prop}{a0:Act}{W:World}
 (hsz:m=ops.size) (hap:Cb ops m=true) (hin:Cy ops m a0.tmps.size=true) (hbk:Dc .any ops=true)
 (hmono:∀ i v w w',Kept w w'→V i v w→V i v w')
 (hstep:∀ i o,i<m→ops[i]?=some o→∀ a w,Finds .any ops m V a0 W i a w→Bp P ops Q V i o a w)
 (hend:∀ u w,Kept W w→(∀ i,i<m→V i (u i) w)→Q .normal (Bl ops (fun _=>true) u m a0) w) :
 (Code.region id ops false).wp P Q a0 W:=by
 refine Nx (by omega) hap hin hbk hmono hstep (fun u w k hu=>?_);have:ops.size-m=0:=by omega
 rw [this];exact hend u w k hu
theorem N1 {i:Nat}{o:Oper}{a:Act}{w:World}{rest:List Nat}(ho:ops[i]?=some o)(hg:o.guard=none)(h:o.wp P a w (fun a w=>wpOps P ops Q rest a w) Q):wpOps P ops Q (i::rest) a w:=by
 unfold wpOps;simp only [ho];have:Region.wanted o (yielded ops a.tmps)=true:=by simp [Region.wanted,hg]
 rw [if_pos this];exact .inl h
theorem Vf {id m:Nat}{V:Nat→Value→World→Prop}{a0:Act}{W:World}{o:Oper}
 (hsz:m+1=ops.size) (ho:ops[m]?=some o) (hg:o.guard=none) (hap:Cb ops m=true) (hin:Cy ops m a0.tmps.size=true) (hbk:Dc .any ops=true)
 (hmono:∀ i v w w',Kept w w'→V i v w→V i v w')
 (hstep:∀ i o,i<m→ops[i]?=some o→∀ a w,Finds .any ops m V a0 W i a w→Bp P ops Q V i o a w)
 (hend:∀ u w,Kept W w→(∀ i,i<m→V i (u i) w)→o.wp P (Bl ops (fun _=>true) u m a0) w (Q .normal) Q) :
 (Code.region id ops false).wp P Q a0 W:=by
 refine Nx (by omega) hap hin hbk hmono hstep (fun u w k hu=>?_);have:ops.size-m=0+1:=by omega
 rw [this,List.range'_succ];exact N1 ho hg (hend u w k hu)
theorem Vg {id m:Nat}{V:Nat→Value→World→Prop}{a0:Act}{W:World}{o o':Oper}
 (hsz:m+2=ops.size) (ho:ops[m]?=some o) (hg:o.guard=none) (ho':ops[m+1]?=some o') (hg':o'.guard=none) (hap:Cb ops m=true) (hin:Cy ops m a0.tmps.size=true) (hbk:Dc .any ops=true)
 (hmono:∀ i v w w',Kept w w'→V i v w→V i v w')
 (hstep:∀ i o,i<m→ops[i]?=some o→∀ a w,Finds .any ops m V a0 W i a w→Bp P ops Q V i o a w)
 (hend:∀ u w,Kept W w→(∀ i,i<m→V i (u i) w)→o.wp P (Bl ops (fun _=>true) u m a0) w (fun a w=>o'.wp P a w (Q .normal) Q) Q) :
 (Code.region id ops false).wp P Q a0 W:=by
 refine Nx (by omega) hap hin hbk hmono hstep (fun u w k hu=>?_);have:ops.size-m=1+1:=by omega
 rw [this,List.range'_succ];refine N1 ho hg (Oper.wp_mono (fun a w h=>?_) (hend u w k hu));rw [List.range'_succ];exact N1 ho' hg' h
theorem rS {id:Nat}{a0:Act}{W:World}(m:Nat)(l:List (Value→World→Prop))(hs:Hw P .any ops Q m (VL l) a0 W 0 m ops.toList)(he:∀ u w,Kept W w→(∀ i,i<m→VL l i (u i) w)→Q .normal (Bl ops (fun _=>true) u m a0) w)(hM:Nonempty (Je l):=by infer_instance)
 (hz:m=ops.size:=by exact rfl) (ha:Cb ops m=true:=by kernel_rfl) (hi:Cy ops m a0.tmps.size=true:=by kernel_rfl) (hb:Dc .any ops=true:=by kernel_rfl):(Code.region id ops false).wp P Q a0 W :=
 Xi hz ha hi hb (Hc l (Fl hM)) (Ho hs) he
theorem rS1 {id:Nat}{a0:Act}{W:World}{o:Oper}(m:Nat)(l:List (Value→World→Prop))(hs:Hw P .any ops Q m (VL l) a0 W 0 m ops.toList)(he:∀ u w,Kept W w→(∀ i,i<m→VL l i (u i) w)→o.wp P (Bl ops (fun _=>true) u m a0) w (Q .normal) Q)(hM:Nonempty (Je l):=by infer_instance)
 (hz:m+1=ops.size:=by exact rfl) (ho:ops[m]?=some o:=by exact rfl) (hg:o.guard=none:=by exact rfl) (ha:Cb ops m=true:=by kernel_rfl) (hi:Cy ops m a0.tmps.size=true:=by kernel_rfl)
 (hb:Dc .any ops=true:=by kernel_rfl):(Code.region id ops false).wp P Q a0 W :=
 Vf hz ho hg ha hi hb (Hc l (Fl hM)) (Ho hs) he
theorem rS2 {id:Nat}{a0:Act}{W:World}{o o':Oper}(m:Nat)(l:List (Value→World→Prop))(hs:Hw P .any ops Q m (VL l) a0 W 0 m ops.toList)(he:∀ u w,Kept W w→(∀ i,i<m→VL l i (u i) w)→o.wp P (Bl ops (fun _=>true) u m a0) w (fun a w=>o'.wp P a w (Q .normal) Q) Q)(hM:Nonempty (Je l):=by infer_instance)
 (hz:m+2=ops.size:=by exact rfl) (ho:ops[m]?=some o:=by exact rfl) (hg:o.guard=none:=by exact rfl) (ho':ops[m+1]?=some o':=by exact rfl) (hg':o'.guard=none:=by exact rfl) (ha:Cb ops m=true:=by kernel_rfl) (hi:Cy ops m a0.tmps.size=true:=by kernel_rfl)
 (hb:Dc .any ops=true:=by kernel_rfl):(Code.region id ops false).wp P Q a0 W :=
 Vg hz ho hg ho' hg' ha hi hb (Hc l (Fl hM)) (Ho hs) he
end
theorem RetIE.good {o:Outc RawI}{w w':World}{e:Ending}(h:RetIE o w e w'):Ex (fun u w=>∃ d,u=.tuple #[d,.int .i64 o.k]∧IvR w d o.v) w e w':=by
 obtain ⟨k,v,he,hl⟩:=h;exact ⟨_,he,k,v,rfl,hl⟩
theorem RetI.good {a:RawI}{w w':World}{e:Ending}(h:RetI a w e w'):Ex (fun u w=>IvR w u a) w e w':=by
 obtain ⟨k,v,he,hl⟩:=h;exact ⟨v,he,k,hl⟩
section
variable {P:Program} {ops:Array Oper} {Q:Exit→Act→World→Prop} {i:Nat} {a:Act} {w:World} {V:Nat→Value→World→Prop} {o:Oper} {f:FuncId} {args:Array Value}
theorem sI {x:RawI}(hc:Calls P f args w (RetI x w))(hp:∀ v w',IvR w' v x→V i v w')(hw:Region.wanted o (yielded ops a.tmps)=true:=by simp [Region.wanted])(h:(execOp a.eval o).run P w=.ok (.enter f args) w:=by go_simp):Bp P ops Q V i o a w :=
 Bi hw h hc (fun _ _ h=>RetI.good h) hp
theorem sP {x:Outc RawI}(hc:Calls P f args w (RetIE x w))(hp:∀ v w',(∃ d,v=.tuple #[d,.int .i64 x.k]∧IvR w' d x.v)→V i v w')(hw:Region.wanted o (yielded ops a.tmps)=true:=by simp [Region.wanted])(h:(execOp a.eval o).run P w=.ok (.enter f args) w:=by go_simp):Bp P ops Q V i o a w :=
 Bi hw h hc (fun _ _ h=>RetIE.good h) hp
end
section
variable {P:Program} {ops:Array Oper} {Q:Exit→Act→World→Prop}
theorem Aea {V V1:Nat→Value→World→Prop}{i:Nat}{o:Oper}{a:Act}{w:World}(h:Bp P ops Q V1 i o a w)(hi:∀ v w',V1 i v w'→V i v w'):Bp P ops Q V i o a w:=by
 unfold Bp at *;by_cases hw:Region.wanted o (yielded ops a.tmps)=true
 ·rw [if_pos hw] at h ⊢;exact Oper.wp_mono (fun a' w' ⟨v,h1,h2,h3⟩=>⟨v,h1,h2,hi v w' h3⟩) h
 ·rw [if_neg hw] at h ⊢;exact hi _ _ h
theorem sOc {V:Nat→Value→World→Prop}{i:Nat}{o:Oper}{a:Act}{w:World}{g t:Nat}{b v:Bool}(hg:o.guard=some (g,b))(hs:Au ops g=some t)(sg:a.tmps.getD t undef=.bool v)(hb:(v==b)=false)(hv:V i undef w):Bp P ops Q V i o a w:=Vq ((Al hg hs sg).trans hb) hv
theorem sVc {V:Nat→Value→World→Prop}{i:Nat}{o:Oper}{a:Act}{w:World}{x:Value}{g t:Nat}{b v:Bool}(hg:o.guard=some (g,b))(hs:Au ops g=some t)(sg:a.tmps.getD t undef=.bool v)(hb:(v==b)=true)(hv:V i x w:=by exact rfl)(h:(execOp a.eval o).run P w=.ok (.value x) w:=by go_simp):Bp P ops Q V i o a w:=A0 ((Al hg hs sg).trans hb) h hv
instance iCond {C:Bool} {p:Value→World→Prop} [h:Nonempty (I6 p)]:Nonempty (I6 fun v w=>(C=true→p v w)∧(C=false→v=undef)):=⟨fun v w w' k q=>⟨fun e=>Fl h v w w' k (q.1 e),q.2⟩⟩
theorem nW {C:Bool}{q:Prop}(h:C=false):(C=true→q)∧(C=false→undef=undef):=⟨fun e=>absurd (h.symm.trans e) (by decide),fun _=>rfl⟩
theorem sIm {V:Nat→Value→World→Prop}{i:Nat}{o:Oper}{a:Act}{w:World}{C:Bool}(hC:C=true)(p:Value→World→Prop)(h:Bp P ops Q (fun _=>p) i o a w)(e:∀ v w',((C=true→p v w')→(C=false→v=undef)→V i v w'):=by exact fun _ _ a b=>⟨a,b⟩):Bp P ops Q V i o a w :=
 Aea h fun v w' q=>e v w' (fun _=>q) (fun n=>absurd (hC.symm.trans n) (by decide))
end
theorem Abg (w:World)(x y z x' y' z' p q r p' q' r':Value):∃ W,W=((w.alloc (.cells #[x,y,z,x',y',z'] 51)).alloc (.cells #[p,q,r,p',q',r'] 51)).alloc (.cells #[.bool false,.slice none 0 0,.int .i64 0,.bool false,.slice none 0 0,.int .i64 0] 51) ∧
 Kept w W∧BlkI W w.heap.size x y z x' y' z'∧BlkI W (w.heap.size+1) p q r p' q' r'∧BlkI W (w.heap.size+1+1) (.bool false) (.slice none 0 0) (.int .i64 0) (.bool false) (.slice none 0 0) (.int .i64 0):=by
 obtain ⟨W,hW,k,b1,b2⟩:=L5 w x y z x' y' z' p q r p' q' r';refine ⟨_,rfl,?_,?_,?_,?_⟩
 ·rw [←hW];exact k.trans (Ad _ _)
 ·rw [←hW];exact b1.kept (Ad _ _)
 ·rw [←hW];exact b2.kept (Ad _ _)
 ·have:=Dv ((w.alloc (.cells #[x,y,z,x',y',z'] 51)).alloc (.cells #[p,q,r,p',q',r'] 51));simp only [World.size_alloc] at this;exact this
def Gs (a b:Iv):Iv:=⟨F8 a.lo b.lo,Ki a.hi b.hi⟩
theorem Ah6 {w:World}{v u:Value}{a b:Iv}(hv:IvC w v a)(hu:IvC w u b)(ha:a.Ok)(hb:b.Ok)(hm:(Gs a b).Ok) :
 Calls Tryz.prog 190 #[v,u] w (RetIE ⟨(Gs a b).raw,0⟩ w):=by
 have m1:=fun w1 (k:Kept w w1)=>Ha (hv.kept k) ha
 have m2:=fun w1 (k:Kept w w1)=>Ha (hu.kept k) hb
 obtain ⟨A,l,c,A',l',c',rfl,h1,h2⟩:=Cc hv;obtain ⟨B,j,e,B',j',e',rfl,g1,g2⟩:=Cc hu;have q1:=fun w1 (k:Kept w w1)=>N8 (h1.kept k) (g1.kept k) ha.lo hb.lo
 have q2:=fun w1 (k:Kept w w1)=>Uo (h2.kept k) (g2.kept k) ha.hi hb.hi
 have hdef:(Gs a b).raw=⟨(F8 a.lo b.lo).raw,(Ki a.hi b.hi).raw⟩:=rfl;have M3:=hid (fun w1 v (h:IvR w1 v (Gs a b).raw)=>Ha (w:=w1) (a:=Gs a b) h hm);rw [hdef] at M3 ⊢;have M1:=hid m1;have M2:=hid m2;have Q1:=hid q1;have Q2:=hid q2;clear m1 m2 q1 q2 h1 h2 g1 g2 hv hu ha hb hdef hm;generalize (F8 a.lo b.lo).raw=r1 at *;generalize (Ki a.hi b.hi).raw=r2 at *;generalize a.lo.neg=n1 at *;generalize a.lo.e=e1 at *;generalize a.hi.neg=n2 at *;generalize a.hi.e=e2 at *;generalize b.lo.neg=n3 at *;generalize b.lo.e=e3 at *;generalize b.hi.neg=n4 at *;generalize b.hi.e=e4 at *
 obtain ⟨W,hW,kW,BI,BJ,BR⟩:=Abg w (.bool n1) (.slice A l c) (.int .i64 e1) (.bool n2) (.slice A' l' c') (.int .i64 e2) (.bool n3) (.slice B j e) (.int .i64 e3) (.bool n4) (.slice B' j' e') (.int .i64 e4);have HW:=hid hW;have K:=hid kW;have HB:=hid BI;have HD:=hid BJ;have HR:=hid BR;clear hW kW BI BJ BR;go_enter Tryz.func190,Tryz.ntmps190;go_upto_region 1 with fail;rw [←HW.out]
 refine rS 8 ([(vE (.agg #[.bool n1,.slice A l c,.int .i64 e1,.bool n2,.slice A' l' c',.int .i64 e2])),(vE (.bool true)),(vE (.bool false)),(vE (.bool false)),(vE (.agg #[.bool n3,.slice B j e,.int .i64 e3,.bool n4,.slice B' j' e',.int .i64 e4])),(vE (.bool true)),(vE (.bool false)),(vE (.bool false))])
  ⟨
   (gql 2 fun _ k=>c6 HB.out k),(fun aF wF F=>by have s7:=F.v 0 7;exact sK (M1.out _ (K.out.trans F.kept)) fun _ _ h=>h),(gv 1 8),(gv 2 9),(fun aF wF F=>by have s3:=F.q 3 (.pointer (some ⟨w.heap.size+1,0,none⟩));obtain ⟨c0,c1,c2,c3,c4,c5⟩:=c6 HD.out F.kept;exact sVc rfl rfl (F.v 3 10) rfl),(fun aF wF F=>by have s11:=F.v 4 11;have sg:=F.v 3 10;exact Bi ((Al rfl rfl sg).trans rfl) (by go_simp) (M2.out _ (K.out.trans F.kept)) (fun _ _ h=>RetK.good h) (fun _ _ h=>h)),(fun aF wF F=>by have s12:=F.v 5 12;exact sVc rfl rfl (F.v 3 10) rfl),(gvv 3 10 6 13),
   trivial⟩ ?_
 intro u w1 k1 hu;simp only [Bl,Au,if_true,Act.put,zlA,zlB,zlC,zlD,zlE,zlF,zlG,hv hu 0,hv hu 1,hv hu 2,hv hu 3,hv hu 4,hv hu 5,hv hu 6,hv hu 7];clear hu;replace K:=hid (K.out.trans k1);replace HB:=hid (HB.out.kept k1);replace HD:=hid (HD.out.kept k1);replace HR:=hid (HR.out.kept k1);clear k1 HW;go_wp2_with fail
 refine Nb 12 ([(vP w.heap.size 0),(vE (.agg #[.bool n1,.slice A l c,.int .i64 e1])),(vP (w.heap.size+1) 0),(vE (.agg #[.bool n3,.slice B j e,.int .i64 e3])),(fun v wv=>DyR wv v r1),(vP w.heap.size 3),(vE (.agg #[.bool n2,.slice A' l' c',.int .i64 e2])),(vP (w.heap.size+1) 3),(vE (.agg #[.bool n4,.slice B' j' e',.int .i64 e4])),(fun v wv=>DyR wv v r2),(fun v wv=>IvR wv v ⟨r1,r2⟩),(fun v wv=>∃ b,v=.pointer (some ⟨b,0,none⟩)∧w1.heap.size≤b∧BlkI wv b (.bool false) (.slice none 0 0) (.int .i64 0) (.bool false) (.slice none 0 0) (.int .i64 0))])
  ⟨
   (gq 2),(fun aF wF F=>by have s16:=F.v 0 16;have c0:=Ai HB.out F.kept 0 _ rfl;have c1:=Ai HB.out F.kept 1 _ rfl;have c2:=Ai HB.out F.kept 2 _ rfl;exact sv rfl),(gq 3),(fun aF wF F=>by have s18:=F.v 2 18;have c0:=Ai HD.out F.kept 0 _ rfl;have c1:=Ai HD.out F.kept 1 _ rfl;have c2:=Ai HD.out F.kept 2 _ rfl;exact sv rfl),(fun aF wF F=>by have s17:=F.v 1 17;have s19:=F.v 3 19;exact sD (Q1.out _ (K.out.trans F.kept)) fun _ _ h=>h),(gq 2),(fun aF wF F=>by have s21:=F.v 5 21;have c0:=Ai HB.out F.kept 3 _ rfl;have c1:=Ai HB.out F.kept 4 _ rfl;have c2:=Ai HB.out F.kept 5 _ rfl;exact sv rfl),(gq 3),(fun aF wF F=>by have s23:=F.v 7 23;have c0:=Ai HD.out F.kept 3 _ rfl;have c1:=Ai HD.out F.kept 4 _ rfl;have c2:=Ai HD.out F.kept 5 _ rfl;exact sv rfl),(fun aF wF F=>by have s22:=F.v 6 22;have s24:=F.v 8 24;exact sD (Q2.out _ (K.out.trans F.kept)) fun _ _ h=>h),(fun aF wF F=>by have s20:=F.p 4 20;have s25:=F.p 9 25;obtain ⟨X1,Y1,Z1,ee1,gg1⟩:=By s20;obtain ⟨X2,Y2,Z2,ee2,gg2⟩:=By s25;simp only [Array.getD_eq_getD_getElem?] at ee1 ee2;exact sv ⟨_,_,_,_,_,_,rfl,gg1,gg2⟩),(fun aF wF F=>by exact sN ⟨_,rfl,F.kept.size,Dv _⟩),
   trivial⟩ ?_
 intro u w2 k2 hu;have p20:=hp hu 4;have p25:=hp hu 9;have p26:=hp hu 10;have p6:=hp hu 11;simp only [Bl,Au,if_true,Act.put,zlA,zlB,zlC,zlD,zlE,zlF,zlG,hv hu 0,hv hu 1,hv hu 2,hv hu 3,hv hu 5,hv hu 6,hv hu 7,hv hu 8];clear hu;generalize u 4=v20,u 9=v25,u 10=v26,u 11=v6 at *;obtain ⟨b6,rfl,hb6,hB6⟩:=p6;obtain ⟨A1,j1,k1',A2,j2,k2',rfl,z1,z2⟩:=Ar p26;obtain ⟨-,c0,c1,c2,c3,c4,c5⟩:=hB6.facts;obtain ⟨f0,f1,f2,f3,f4,f5⟩:=hB6.free;clear p20 p25 p26;go_simp;go_upto_region 4 with fail;change Code.wp _ _ _ _ (ivW w2 b6 _ _ _ _ _ _);have lR:=HR.out.facts.1;have KX:=hid (B8 (x:=.bool r1.neg) (y:=.slice A1 j1 k1') (z:=.int .i64 r1.e) (x':=.bool r2.neg) (y':=.slice A2 j2 k2') (z':=.int .i64 r2.e) (K.out.trans k2) (show w.heap.size≤b6 by have:=K.out.size;omega))
 have HRX:Hid (BlkI (ivW w2 b6 (.bool r1.neg) (.slice A1 j1 k1') (.int .i64 r1.e) (.bool r2.neg) (.slice A2 j2 k2') (.int .i64 r2.e)) (w.heap.size+1+1) (.bool false) (.slice none 0 0) (.int .i64 0) (.bool false) (.slice none 0 0) (.int .i64 0)):=hid ((Jk _ _ _ _ _ _ _ _ _ (show w.heap.size+1+1≠b6 by omega)).trans (HR.out.kept k2));have H6:=hid (hB6.laid (.bool r1.neg) (.slice A1 j1 k1') (.int .i64 r1.e) (.bool r2.neg) (.slice A2 j2 k2') (.int .i64 r2.e));have Z1:=hid (z1.ivW hB6 (.bool r1.neg) (.slice A1 j1 k1') (.int .i64 r1.e) (.bool r2.neg) (.slice A2 j2 k2') (.int .i64 r2.e));have Z2:=hid (z2.ivW hB6 (.bool r1.neg) (.slice A1 j1 k1') (.int .i64 r1.e) (.bool r2.neg) (.slice A2 j2 k2') (.int .i64 r2.e))
 clear hB6 hb6 z1 z2 k2 c0 c1 c2 c3 c4 c5 f0 f1 f2 f3 f4 f5 K HB HD HR lR Q1 Q2 M1 M2;generalize ivW w2 b6 (.bool r1.neg) (.slice A1 j1 k1') (.int .i64 r1.e) (.bool r2.neg) (.slice A2 j2 k2') (.int .i64 r2.e)=X at *;obtain ⟨-,c0,c1,c2,c3,c4,c5⟩:=H6.out.facts;go_wp2_with fail;refine (M3.out _ _ ⟨_,_,_,_,_,_,rfl,Z1.out,Z2.out⟩).mono ?_;rintro e w3 ⟨rfl,q⟩;simp only [];clear c0 c1 c2 c3 c4 c5;have KK:=hid (KX.out.trans q);replace HRX:=hid (HRX.out.kept q);replace H6:=hid (H6.out.kept q);replace Z1:=hid (Z1.out.kept q);replace Z2:=hid (Z2.out.kept q);clear q KX M3;obtain ⟨-,c0,c1,c2,c3,c4,c5⟩:=H6.out.facts
 obtain ⟨hsz,d0,d1,d2,d3,d4,d5⟩:=HRX.out.facts;obtain ⟨f0,f1,f2,f3,f4,f5⟩:=HRX.out.free;go_wp2_with fail;exact Dm (HRX.out.laid _ _ _ _ _ _) rfl rfl rfl ⟨B8 KK.out (by omega),_,rfl,_,_,_,_,_,_,rfl,Z1.out.ivW HRX.out _ _ _ _ _ _,Z2.out.ivW HRX.out _ _ _ _ _ _⟩
theorem Dg.len_bl (n:Nat):(Dg.limbs n).length≤bl n:=by
 rw [Dg.length_limbs];unfold bl;split<;>omega
theorem Dg.box_nn (w:World)(x y z p q r:Value):∃ W,W=(w.alloc (.cells #[x,y,z] 62)).alloc (.cells #[p,q,r] 62) ∧
 Kept w W∧Dg.Blk W w.heap.size x y z∧Dg.Blk W (w.heap.size+1) p q r:=by
 refine ⟨_,rfl,(Ad _ _).trans (Ad _ _),(Dg.blk_new _ _ _ _).kept (Ad _ _),?_⟩;have:=Dg.blk_new (w.alloc (.cells #[x,y,z] 62)) p q r;simpa using this
theorem Age {w:World}{va vb:Value}{x y:Dy}(ha:Dg.DN w va x.neg x.m x.e)(hb:Dg.DN w vb y.neg y.m y.e)(hx:x.Ok)(hy:y.Ok)(hx0:x.m≠0)(hy0:y.m≠0) :
 Calls Tryz.prog 35 #[va,vb] w (RetK (.int .i64 (Fw x y)) w):=by
 obtain ⟨A,l,c,rfl,ha⟩:=ha;obtain ⟨A2,l2,c2,rfl,hb⟩:=hb;have bx:=Eb x.m 64 hx.len;have bY:=Eb y.m 64 hy.len;have lx:=Dg.len_bl x.m;have ly:=Dg.len_bl y.m;have hs1:=fun w1 (k:Kept w w1)=>Dg.bits_c (ha.kept k) (by omega)
 have hs2:=fun w1 (k:Kept w w1)=>Dg.bits_c (hb.kept k) (by omega)
 have x1:=hx.lo;have x2:=hx.hi;have y1:=hy.lo;have y2:=hy.hi;obtain ⟨j1,hj1⟩:∃ j:Nat,x.e-min x.e y.e=j:=⟨(x.e-min x.e y.e).toNat,by omega⟩;obtain ⟨j2,hj2⟩:∃ j:Nat,y.e-min x.e y.e=j:=⟨(y.e-min x.e y.e).toNat,by omega⟩;have b1:j1≤2097152:=by omega
 have b2:j2≤2097152:=by omega
 have hl1:=fun w1 (k:Kept w w1)=>Dg.shl_c (ha.kept k) j1 (by omega) (by omega)
 have hl2:=fun w1 (k:Kept w w1)=>Dg.shl_c (hb.kept k) j2 (by omega) (by omega)
 have kx:(Dg.limbs (x.m*2^j1)).length≤40000000:=by have:=Dg.len_bl (x.m*2^j1);rw [Gu _ _ hx0] at this;omega
 have ky:(Dg.limbs (y.m*2^j2)).length≤40000000:=by have:=Dg.len_bl (y.m*2^j2);rw [Gu _ _ hy0] at this;omega
 have ho:=fun w1 v u (h1:Dg.Lim w1 v (Dg.limbs (x.m*2^j1))) (h2:Dg.Lim w1 u (Dg.limbs (y.m*2^j2)))=>Dg.cmp_c h1 h2 (by omega) (by omega)
 have hwx:IntKind.i64.wrap ((bl x.m:Int)+x.e)=(bl x.m:Int)+x.e:=by simp [IntKind.wrap_i64];omega
 have hwy:IntKind.i64.wrap ((bl y.m:Int)+y.e)=(bl y.m:Int)+y.e:=by simp [IntKind.wrap_i64];omega
 have hw1:IntKind.i64.wrap (x.e-min x.e y.e)=(j1:Int):=by rw [hj1];simp [IntKind.wrap_i64];omega
 have hw2:IntKind.i64.wrap (y.e-min x.e y.e)=(j2:Int):=by rw [hj2];simp [IntKind.wrap_i64];omega
 have hD:Fw x y=if (bl x.m:Int)+x.e<bl y.m+y.e then -1 else if (bl y.m:Int)+y.e<bl x.m+x.e then 1 else Ea (x.m*2^j1) (y.m*2^j2):=by
  unfold Fw;rw [hj1,hj2];rfl
 have HD:=hid hD;have H1:=hid hs1;have H2:=hid hs2;have L1:=hid hl1;have L2:=hid hl2;have HO:=hid ho;clear hD hs1 hs2 hl1 hl2 ho lx ly kx ky ha hb bx bY x1 x2 y1 y2 hx hy hx0 hy0 b1 b2 hj1 hj2;generalize Dg.limbs (x.m*2^j1)=xs at *;generalize Dg.limbs (y.m*2^j2)=ys at *;generalize Ea (x.m*2^j1) (y.m*2^j2)=cc at *;obtain ⟨sx,hsx⟩:∃ sx,(bl x.m:Int)+x.e=sx:=⟨_,rfl⟩;obtain ⟨sy,hsy⟩:∃ sy,(bl y.m:Int)+y.e=sy:=⟨_,rfl⟩;rw [hsx,hsy] at HD;rw [hsx] at hwx;rw [hsy] at hwy;have HX:=hid hsx;have HY:=hid hsy;clear hsx hsy;obtain ⟨lo,hlo⟩:∃ lo,min x.e y.e=lo:=⟨_,rfl⟩;rw [hlo] at hw1 hw2;have HL:=hid hlo;clear hlo
 generalize bl x.m=bx at *;generalize bl y.m=bY at *;have hsz:=HD.out;generalize Fw x y=res at *;generalize x.neg=n1 at *;generalize x.e=e1 at *;generalize y.neg=n2 at *;generalize y.e=e2 at *;clear HD;obtain ⟨W,hW,kW,B0,B1⟩:=Dg.box_nn w (.bool n1) (.slice A l c) (.int .i64 e1) (.bool n2) (.slice A2 l2 c2) (.int .i64 e2);have HW:=hid hW;have HK:=hid kW;have HB0:=hid B0;have HB1':=hid B1;clear hW kW B0 B1;by_cases h1:sx<sy
 ·rw [if_pos h1] at hsz;subst hsz;have d1:decide (sx<sy)=true:=by simp [h1]
  have d0:(sx != sy)=true:=by simp;omega
  clear h1;go_enter Tryz.func35,Tryz.ntmps35;go_wp2_with fail;rw [←HW.out]
  refine rgL 14 ([(vP w.heap.size 1),(vE (.slice A l c)),(vE (.int .i64 bx)),(vP w.heap.size 2),(vE (.int .i64 e1)),(vE (.int .i64 sx)),(vP (w.heap.size+1) 1),(vE (.slice A2 l2 c2)),(vE (.int .i64 bY)),(vP (w.heap.size+1) 2),(vE (.int .i64 e2)),(vE (.int .i64 sy)),(vE (.int .i64 sx)),(vE (.int .i64 sy))])
   ⟨
    (gq 2),(gvl 0 8 fun _ k=>Ai HB0.out k 1 _ rfl),(fun aF wF F=>by have s9:=F.v 1 9;exact sQ (H1.out _ (HK.out.trans F.kept)) fun _ _ h=>h),(gq 2),(gvl 3 11 fun _ k=>Ai HB0.out k 2 _ rfl),(fun aF wF F=>by have s10:=F.v 2 10;have s12:=F.v 4 12;exact sw (by have:=HX.out;go_simp) rfl),(gq 3),(gvl 6 14 fun _ k=>Ai HB1'.out k 1 _ rfl),(fun aF wF F=>by have s15:=F.v 7 15;exact sQ (H2.out _ (HK.out.trans F.kept)) fun _ _ h=>h),(gq 3),(gvl 9 17 fun _ k=>Ai HB1'.out k 2 _ rfl),(fun aF wF F=>by have s16:=F.v 8 16;have s18:=F.v 10 18;exact sw (by have:=HY.out;go_simp) rfl),(gv 5 13),(gv 11 19),
    trivial⟩ ?_
  intro u w1 k1 hu;simp only [Bl,Au,if_true,Act.put,zlA,zlB,zlC,zlD,zlE,zlF,zlG,hv hu 0,hv hu 1,hv hu 2,hv hu 3,hv hu 4,hv hu 5,hv hu 6,hv hu 7,hv hu 8,hv hu 9,hv hu 10,hv hu 11,hv hu 12,hv hu 13];clear hu;go_wp2_with fail;go_ret;exact ⟨rfl,HK.out.trans k1⟩
 ·rw [if_neg h1] at hsz;have d1:decide (sx<sy)=false:=by simp;omega
  by_cases h2:sy<sx
  ·rw [if_pos h2] at hsz;subst hsz;have d0:(sx != sy)=true:=by simp;omega
   clear h1 h2;go_enter Tryz.func35,Tryz.ntmps35;go_wp2_with fail;rw [←HW.out]
   refine rgL 14 ([(vP w.heap.size 1),(vE (.slice A l c)),(vE (.int .i64 bx)),(vP w.heap.size 2),(vE (.int .i64 e1)),(vE (.int .i64 sx)),(vP (w.heap.size+1) 1),(vE (.slice A2 l2 c2)),(vE (.int .i64 bY)),(vP (w.heap.size+1) 2),(vE (.int .i64 e2)),(vE (.int .i64 sy)),(vE (.int .i64 sx)),(vE (.int .i64 sy))])
    ⟨
     (gq 2),(gvl 0 8 fun _ k=>Ai HB0.out k 1 _ rfl),(fun aF wF F=>by have s9:=F.v 1 9;exact sQ (H1.out _ (HK.out.trans F.kept)) fun _ _ h=>h),(gq 2),(gvl 3 11 fun _ k=>Ai HB0.out k 2 _ rfl),(fun aF wF F=>by have s10:=F.v 2 10;have s12:=F.v 4 12;exact sw (by have:=HX.out;go_simp) rfl),(gq 3),(gvl 6 14 fun _ k=>Ai HB1'.out k 1 _ rfl),(fun aF wF F=>by have s15:=F.v 7 15;exact sQ (H2.out _ (HK.out.trans F.kept)) fun _ _ h=>h),(gq 3),(gvl 9 17 fun _ k=>Ai HB1'.out k 2 _ rfl),(fun aF wF F=>by have s16:=F.v 8 16;have s18:=F.v 10 18;exact sw (by have:=HY.out;go_simp) rfl),(gv 5 13),(gv 11 19),
     trivial⟩ ?_
   intro u w1 k1 hu;simp only [Bl,Au,if_true,Act.put,zlA,zlB,zlC,zlD,zlE,zlF,zlG,hv hu 0,hv hu 1,hv hu 2,hv hu 3,hv hu 4,hv hu 5,hv hu 6,hv hu 7,hv hu 8,hv hu 9,hv hu 10,hv hu 11,hv hu 12,hv hu 13];clear hu;go_wp2_with fail;go_ret;exact ⟨rfl,HK.out.trans k1⟩
  ·rw [if_neg h2] at hsz;subst hsz;have d0:(sx != sy)=false:=by simp;omega
   clear h1 h2;go_enter Tryz.func35,Tryz.ntmps35;go_wp2_with fail;rw [←HW.out]
   refine rgL 14 ([(vP w.heap.size 1),(vE (.slice A l c)),(vE (.int .i64 bx)),(vP w.heap.size 2),(vE (.int .i64 e1)),(vE (.int .i64 sx)),(vP (w.heap.size+1) 1),(vE (.slice A2 l2 c2)),(vE (.int .i64 bY)),(vP (w.heap.size+1) 2),(vE (.int .i64 e2)),(vE (.int .i64 sy)),(vE (.int .i64 sx)),(vE (.int .i64 sy))])
    ⟨
     (gq 2),(gvl 0 8 fun _ k=>Ai HB0.out k 1 _ rfl),(fun aF wF F=>by have s9:=F.v 1 9;exact sQ (H1.out _ (HK.out.trans F.kept)) fun _ _ h=>h),(gq 2),(gvl 3 11 fun _ k=>Ai HB0.out k 2 _ rfl),(fun aF wF F=>by have s10:=F.v 2 10;have s12:=F.v 4 12;exact sw (by have:=HX.out;go_simp) rfl),(gq 3),(gvl 6 14 fun _ k=>Ai HB1'.out k 1 _ rfl),(fun aF wF F=>by have s15:=F.v 7 15;exact sQ (H2.out _ (HK.out.trans F.kept)) fun _ _ h=>h),(gq 3),(gvl 9 17 fun _ k=>Ai HB1'.out k 2 _ rfl),(fun aF wF F=>by have s16:=F.v 8 16;have s18:=F.v 10 18;exact sw (by have:=HY.out;go_simp) rfl),(gv 5 13),(gv 11 19),
     trivial⟩ ?_
   intro u w1 k1 hu;simp only [Bl,Au,if_true,Act.put,zlA,zlB,zlC,zlD,zlE,zlF,zlG,hv hu 0,hv hu 1,hv hu 2,hv hu 3,hv hu 4,hv hu 5,hv hu 6,hv hu 7,hv hu 8,hv hu 9,hv hu 10,hv hu 11,hv hu 12,hv hu 13];clear hu;obtain ⟨-,a0,a1,a2,-⟩:=(HB0.out.kept k1).facts;obtain ⟨-,b0,b1,b2,-⟩:=(HB1'.out.kept k1).facts;go_wp2_with fail;rw [HL.out];have K1:=hid k1;clear a0 a1 a2 b0 b1 b2 k1 hwx hwy d1 d0
   refine rgL 16 ([(vP w.heap.size 1),(vE (.slice A l c)),(vP w.heap.size 2),(vE (.int .i64 e1)),(vE (.int .i64 lo)),(vE (.int .i64 j1)),(fun v wv=>Dg.Lim wv v xs),(vP (w.heap.size+1) 1),(vE (.slice A2 l2 c2)),(vP (w.heap.size+1) 2),(vE (.int .i64 e2)),(vE (.int .i64 lo)),(vE (.int .i64 j2)),(fun v wv=>Dg.Lim wv v ys),(vE (.int .i64 res)),(vE (.int .i64 res))])
    (hM:=⟨⟨mE,mE,mE,mE,mE,mE,fun v w w' k h=>by first | exact h | exact h.kept k | exact ⟨h.1,h.2.kept k⟩,mE,mE,mE,mE,mE,mE,fun v w w' k h=>by first | exact h | exact h.kept k | exact ⟨h.1,h.2.kept k⟩,mE,mE,trivial⟩⟩) ⟨
      (gq 2),(gvl 0 31 fun _ k=>Ai (HB0.out.kept K1.out) k 1 _ rfl),(gq 2),(gvl 2 33 fun _ k=>Ai (HB0.out.kept K1.out) k 2 _ rfl),(gq 7),(gvv 3 34 4 35),(fun aF wF F=>by have s32:=F.v 1 32;have s36:=F.v 5 36;exact Bi (by simp [Region.wanted]) (by go_simp) (L1.out _ (HK.out.trans (K1.out.trans F.kept))) (fun _ _ h=>Dg.RetLim.good h) (fun _ _ h=>h)),(gq 3),(gvl 7 38 fun _ k=>Ai (HB1'.out.kept K1.out) k 1 _ rfl),(gq 3),(gvl 9 40 fun _ k=>Ai (HB1'.out.kept K1.out) k 2 _ rfl),(gq 7),(gvv 10 41 11 42),(fun aF wF F=>by have s39:=F.v 8 39;have s43:=F.v 12 43;exact Bi (by simp [Region.wanted]) (by go_simp) (L2.out _ (HK.out.trans (K1.out.trans F.kept))) (fun _ _ h=>Dg.RetLim.good h) (fun _ _ h=>h)),(fun aF wF F=>by have s37:=F.p 6 37;have s44:=F.p 13 44;exact sQ (HO.out _ _ _ s37 s44) fun _ _ h=>h),(gv 14 45),
      trivial⟩ ?_
   intro u w1 k1 hu;have p37:=hp hu 6;have p44:=hp hu 13;simp only [Bl,Au,if_true,Act.put,zlA,zlB,zlC,zlD,zlE,zlF,zlG,hv hu 0,hv hu 1,hv hu 2,hv hu 3,hv hu 4,hv hu 5,hv hu 7,hv hu 8,hv hu 9,hv hu 10,hv hu 11,hv hu 12,hv hu 14,hv hu 15];clear hu;generalize u 6=v37,u 13=v44 at *;clear p37 p44;go_wp2_with fail;go_ret;exact ⟨rfl,HK.out.trans (K1.out.trans k1)⟩
theorem Ado {w:World}{va vb:Value}{x y:Dy}(ha:DyR w va x.raw)(hb:DyR w vb y.raw)(hx:x.Ok)(hy:y.Ok) :
 Calls Tryz.prog 15 #[va,vb] w (RetK (.int .i64 (Ce x.q y.q)) w):=by
 have lx:=Ds hx;have ly:=Ds hy;have s1:=fun w1 (k:Kept w w1)=>Sy (ha.kept k) (by omega)
 have s2:=fun w1 (k:Kept w w1)=>Sy (hb.kept k) (by omega)
 have m1:=fun w1 (k:Kept w w1)=>Kn (ha.kept k) (by omega)
 have m2:=fun w1 (k:Kept w w1)=>Kn (hb.kept k) (by omega)
 have o1:=fun w1 (k:Kept w w1)=>Dg.of_c (ha.kept k) (by omega)
 have o2:=fun w1 (k:Kept w w1)=>Dg.of_c (hb.kept k) (by omega)
 have hsz:=fun w1 v u (hv:Dg.DN w1 v x.neg x.m x.e) (hu:Dg.DN w1 u y.neg y.m y.e) (h1:x.m≠0) (h2:y.m≠0)=>Age hv hu hx hy h1 h2
 rw [show Go.Proofs.YtmgaloopddiekaaGreatDoor.val x.raw.m=x.m from Ca _] at o1;rw [show Go.Proofs.YtmgaloopddiekaaGreatDoor.val y.raw.m=y.m from Ca _] at o2;rw [Kq x hx] at s1;rw [Kq y hy] at s2;rw [hx.may] at m1;rw [hy.may] at m2;have g1:=@We x y;have g2:=@Abm x y;have g3:=@Tz x y;have c1:=Hm x;have c2:=Hm y;have z1:sg x≠0→x.m≠0:=fun h h0=>h (by unfold sg;rw [if_pos h0])
 have z2:sg y≠0→y.m≠0:=fun h h0=>h (by unfold sg;rw [if_pos h0])
 have hsr:Fw x y=-1∨Fw x y=0∨Fw x y=1:=by
  unfold Fw Ea;split
  ·exact .inl rfl
  ·split
   ·exact .inr (.inr rfl)
   ·split
    ·exact .inl rfl
    ·split
     ·exact .inr (.inl rfl)
     ·exact .inr (.inr rfl)
 obtain ⟨A,l,c,rfl,-,ha,-,-⟩:=ha.shape;obtain ⟨A2,l2,c2',rfl,-,hb,-,-⟩:=hb.shape;have S1:=hid s1;have S2:=hid s2;have M1:=hid m1;have M2:=hid m2;have O1:=hid o1;have O2:=hid o2;have HZ:=hid hsz;have G1:=hid g1;have G2:=hid g2;have G3:=hid g3;have Z1:=hid z1;have Z2:=hid z2;have C1:=hid c1;have C2:=hid c2;have HR:=hid hsr;clear s1 s2 m1 m2 o1 o2 hsz g1 g2 g3 z1 z2 c1 c2 hsr ha hb lx ly hx hy;generalize Ce x.q y.q=res at *;simp only [Dy.raw] at *;generalize x.neg=n1 at *;generalize x.e=e1 at *;generalize y.neg=n2 at *;generalize y.e=e2 at *;generalize Fw x y=zz at *;generalize sg x=g at *;generalize sg y=g' at *
 generalize x.m=nx at *;generalize y.m=ny at *;obtain ⟨W,hW,kW,B0,B1⟩:=Pc w (.bool n1) (.slice A l c) (.int .i64 e1) (.bool n2) (.slice A2 l2 c2') (.int .i64 e2);have HW:=hid hW;have HK:=hid kW;have HB0:=hid B0;have HB1':=hid B1;clear hW kW B0 B1;by_cases h1:g<g'
 ·have hr:=G1.out h1;subst hr;have d1:(g != g')=true:=by simp;omega
  have d2:decide (g<g')=true:=by simp [h1]
  clear h1;go_enter Tryz.func15,Tryz.ntmps15;go_upto_region 1 with fail;rw [←HW.out];obtain ⟨-,a0,a1,a2,-⟩:=HB0.out.facts;obtain ⟨-,b0,b1,b2,-⟩:=HB1'.out.facts;go_wp2_with fail;refine (M1.out _ HK.out).mono ?_;rintro e w2 ⟨rfl,q⟩;have KX:=hid q;clear a0 a1 a2 b0 b1 b2 q;obtain ⟨-,a0,a1,a2,-⟩:=(HB0.out.kept KX.out).facts;obtain ⟨-,b0,b1,b2,-⟩:=(HB1'.out.kept KX.out).facts;simp only [];go_wp2_with fail;refine (M2.out _ (HK.out.trans KX.out)).mono ?_;rintro e w3 ⟨rfl,q⟩;replace KX:=hid (KX.out.trans q);clear a0 a1 a2 b0 b1 b2 q;simp only [];go_wp2_with fail
  refine rgL 6 ([(vE (.agg #[.bool n1,.slice A l c,.int .i64 e1])),(vE (.int .i64 g)),(vE (.agg #[.bool n2,.slice A2 l2 c2',.int .i64 e2])),(vE (.int .i64 g')),(vE (.int .i64 g)),(vE (.int .i64 g'))])
   ⟨
    (gql 2 fun _ k=>c3 (HB0.out.kept KX.out) k),(fun aF wF F=>by have s15:=F.v 0 15;exact sK (S1.out _ (HK.out.trans (KX.out.trans F.kept))) fun _ _ h=>h),(gql 3 fun _ k=>c3 (HB1'.out.kept KX.out) k),(fun aF wF F=>by have s17:=F.v 2 17;exact sK (S2.out _ (HK.out.trans (KX.out.trans F.kept))) fun _ _ h=>h),(gv 1 16),(gv 3 18),
    trivial⟩ ?_
  intro u w1 k1 hu;simp only [Bl,Au,if_true,Act.put,zlA,zlB,zlC,zlD,zlE,zlF,zlG,hv hu 0,hv hu 1,hv hu 2,hv hu 3,hv hu 4,hv hu 5];clear hu;replace KX:=hid (KX.out.trans k1);clear k1 u;obtain ⟨-,a0,a1,a2,-⟩:=(HB0.out.kept KX.out).facts;obtain ⟨-,b0,b1,b2,-⟩:=(HB1'.out.kept KX.out).facts;go_wp2_with fail;go_ret;exact ⟨rfl,HK.out.trans KX.out⟩
 ·have d2:decide (g<g')=false:=by simp;omega
  by_cases h2:g=g'
  ·have hr:=G3.out h2;obtain rfl:=h2;have d1:(g != g)=false:=by simp
   have d4:decide (g<g)=false:=by simp
   by_cases h3:g=0
   ·rw [if_pos h3] at hr;subst hr;have d3:(g==0)=true:=by rw [beq_iff_eq];exact h3
    clear h1 h3;go_enter Tryz.func15,Tryz.ntmps15;go_upto_region 1 with fail;rw [←HW.out];obtain ⟨-,a0,a1,a2,-⟩:=HB0.out.facts;obtain ⟨-,b0,b1,b2,-⟩:=HB1'.out.facts;go_wp2_with fail;refine (M1.out _ HK.out).mono ?_;rintro e w2 ⟨rfl,q⟩;have KX:=hid q;clear a0 a1 a2 b0 b1 b2 q;obtain ⟨-,a0,a1,a2,-⟩:=(HB0.out.kept KX.out).facts;obtain ⟨-,b0,b1,b2,-⟩:=(HB1'.out.kept KX.out).facts;simp only [];go_wp2_with fail;refine (M2.out _ (HK.out.trans KX.out)).mono ?_;rintro e w3 ⟨rfl,q⟩;replace KX:=hid (KX.out.trans q);clear a0 a1 a2 b0 b1 b2 q;simp only [];go_wp2_with fail
    refine rgL 6 ([(vE (.agg #[.bool n1,.slice A l c,.int .i64 e1])),(vE (.int .i64 g)),(vE (.agg #[.bool n2,.slice A2 l2 c2',.int .i64 e2])),(vE (.int .i64 g)),(vE (.int .i64 g)),(vE (.int .i64 g))])
     ⟨
      (gql 2 fun _ k=>c3 (HB0.out.kept KX.out) k),(fun aF wF F=>by have s15:=F.v 0 15;exact sK (S1.out _ (HK.out.trans (KX.out.trans F.kept))) fun _ _ h=>h),(gql 3 fun _ k=>c3 (HB1'.out.kept KX.out) k),(fun aF wF F=>by have s17:=F.v 2 17;exact sK (S2.out _ (HK.out.trans (KX.out.trans F.kept))) fun _ _ h=>h),(gv 1 16),(gv 3 18),
      trivial⟩ ?_
    intro u w1 k1 hu;simp only [Bl,Au,if_true,Act.put,zlA,zlB,zlC,zlD,zlE,zlF,zlG,hv hu 0,hv hu 1,hv hu 2,hv hu 3,hv hu 4,hv hu 5];clear hu;replace KX:=hid (KX.out.trans k1);clear k1 u;obtain ⟨-,a0,a1,a2,-⟩:=(HB0.out.kept KX.out).facts;obtain ⟨-,b0,b1,b2,-⟩:=(HB1'.out.kept KX.out).facts;go_wp2_with fail;go_ret;exact ⟨rfl,HK.out.trans KX.out⟩
   ·rw [if_neg h3] at hr;subst hr;have d3:(g==0)=false:=by rw [beq_eq_false_iff_ne];exact h3
    have hz:=fun w1 v u hv hu=>HZ.out w1 v u hv hu (Z1.out h3) (Z2.out h3)
    have hw:IntKind.i64.wrap (g*zz)=g*zz:=by
     rcases C1.out with h | h | h<;>rcases HR.out with h' | h' | h'<;>rw [h,h']<;>first | rfl | decide
    clear HZ;have HZ:=hid hz;have HWW:=hid hw;clear h1 h3 hz hw;go_enter Tryz.func15,Tryz.ntmps15;go_upto_region 1 with fail;rw [←HW.out];obtain ⟨-,a0,a1,a2,-⟩:=HB0.out.facts;obtain ⟨-,b0,b1,b2,-⟩:=HB1'.out.facts;go_wp2_with fail;refine (M1.out _ HK.out).mono ?_;rintro e w2 ⟨rfl,q⟩;have KX:=hid q;clear a0 a1 a2 b0 b1 b2 q;obtain ⟨-,a0,a1,a2,-⟩:=(HB0.out.kept KX.out).facts;obtain ⟨-,b0,b1,b2,-⟩:=(HB1'.out.kept KX.out).facts;simp only [];go_wp2_with fail;refine (M2.out _ (HK.out.trans KX.out)).mono ?_;rintro e w3 ⟨rfl,q⟩;replace KX:=hid (KX.out.trans q);clear a0 a1 a2 b0 b1 b2 q;simp only [];go_wp2_with fail
    refine rgL 6 ([(vE (.agg #[.bool n1,.slice A l c,.int .i64 e1])),(vE (.int .i64 g)),(vE (.agg #[.bool n2,.slice A2 l2 c2',.int .i64 e2])),(vE (.int .i64 g)),(vE (.int .i64 g)),(vE (.int .i64 g))])
     ⟨
      (gql 2 fun _ k=>c3 (HB0.out.kept KX.out) k),(fun aF wF F=>by have s15:=F.v 0 15;exact sK (S1.out _ (HK.out.trans (KX.out.trans F.kept))) fun _ _ h=>h),(gql 3 fun _ k=>c3 (HB1'.out.kept KX.out) k),(fun aF wF F=>by have s17:=F.v 2 17;exact sK (S2.out _ (HK.out.trans (KX.out.trans F.kept))) fun _ _ h=>h),(gv 1 16),(gv 3 18),
      trivial⟩ ?_
    intro u w1 k1 hu;simp only [Bl,Au,if_true,Act.put,zlA,zlB,zlC,zlD,zlE,zlF,zlG,hv hu 0,hv hu 1,hv hu 2,hv hu 3,hv hu 4,hv hu 5];clear hu;replace KX:=hid (KX.out.trans k1);clear k1 u;obtain ⟨-,a0,a1,a2,-⟩:=(HB0.out.kept KX.out).facts;obtain ⟨-,b0,b1,b2,-⟩:=(HB1'.out.kept KX.out).facts;go_wp2_with fail;clear a0 a1 a2 b0 b1 b2 d1 d2 d3 d4
    refine rgL 8 ([(vE (.int .i64 g)),(vE (.agg #[.bool n1,.slice A l c,.int .i64 e1])),(fun v wv=>Dg.DN wv v n1 nx e1),(vE (.agg #[.bool n2,.slice A2 l2 c2',.int .i64 e2])),(fun v wv=>Dg.DN wv v n2 ny e2),(vE (.int .i64 zz)),(vE (.int .i64 (g*zz))),(vE (.int .i64 (g*zz)))])
     (hM:=⟨⟨mE,mE,fun v w w' k h=>by first | exact h | exact h.kept k | exact ⟨h.1,h.2.kept k⟩,mE,fun v w w' k h=>by first | exact h | exact h.kept k | exact ⟨h.1,h.2.kept k⟩,mE,mE,mE,trivial⟩⟩) ⟨
       (gq 5),(gql 2 fun _ k=>c3 (HB0.out.kept KX.out) k),(fun aF wF F=>by have s33:=F.v 1 33;exact Bi (by simp [Region.wanted]) (by go_simp) (O1.out _ (HK.out.trans (KX.out.trans F.kept))) (fun _ _ h=>Dg.RetN.good h) (fun _ _ h=>h)),(gql 3 fun _ k=>c3 (HB1'.out.kept KX.out) k),(fun aF wF F=>by have s35:=F.v 3 35;exact Bi (by simp [Region.wanted]) (by go_simp) (O2.out _ (HK.out.trans (KX.out.trans F.kept))) (fun _ _ h=>Dg.RetN.good h) (fun _ _ h=>h)),(fun aF wF F=>by have s34:=F.p 2 34;have s36:=F.p 4 36;exact sK (HZ.out _ _ _ s34 s36) fun _ _ h=>h),(fun aF wF F=>by have s32:=F.v 0 32;have s37:=F.v 5 37;exact sw (by (go_simp;exact HWW.out)) rfl),(gv 6 38),
       trivial⟩ ?_
    intro u w1 k1 hu;have p34:=hp hu 2;have p36:=hp hu 4;simp only [Bl,Au,if_true,Act.put,zlA,zlB,zlC,zlD,zlE,zlF,zlG,hv hu 0,hv hu 1,hv hu 3,hv hu 5,hv hu 6,hv hu 7];clear hu;generalize u 2=v34,u 4=v36 at *;clear p34 p36;go_wp2_with fail;go_ret;exact ⟨rfl,HK.out.trans (KX.out.trans k1)⟩
  ·have hr:=G2.out (by omega);subst hr;have d1:(g != g')=true:=by simp;omega
   have d3:decide (g'<g)=true:=by simp;omega
   clear h1 h2;go_enter Tryz.func15,Tryz.ntmps15;go_upto_region 1 with fail;rw [←HW.out];obtain ⟨-,a0,a1,a2,-⟩:=HB0.out.facts;obtain ⟨-,b0,b1,b2,-⟩:=HB1'.out.facts;go_wp2_with fail;refine (M1.out _ HK.out).mono ?_;rintro e w2 ⟨rfl,q⟩;have KX:=hid q;clear a0 a1 a2 b0 b1 b2 q;obtain ⟨-,a0,a1,a2,-⟩:=(HB0.out.kept KX.out).facts;obtain ⟨-,b0,b1,b2,-⟩:=(HB1'.out.kept KX.out).facts;simp only [];go_wp2_with fail;refine (M2.out _ (HK.out.trans KX.out)).mono ?_;rintro e w3 ⟨rfl,q⟩;replace KX:=hid (KX.out.trans q);clear a0 a1 a2 b0 b1 b2 q;simp only [];go_wp2_with fail
   refine rgL 6 ([(vE (.agg #[.bool n1,.slice A l c,.int .i64 e1])),(vE (.int .i64 g)),(vE (.agg #[.bool n2,.slice A2 l2 c2',.int .i64 e2])),(vE (.int .i64 g')),(vE (.int .i64 g)),(vE (.int .i64 g'))])
    ⟨
     (gql 2 fun _ k=>c3 (HB0.out.kept KX.out) k),(fun aF wF F=>by have s15:=F.v 0 15;exact sK (S1.out _ (HK.out.trans (KX.out.trans F.kept))) fun _ _ h=>h),(gql 3 fun _ k=>c3 (HB1'.out.kept KX.out) k),(fun aF wF F=>by have s17:=F.v 2 17;exact sK (S2.out _ (HK.out.trans (KX.out.trans F.kept))) fun _ _ h=>h),(gv 1 16),(gv 3 18),
     trivial⟩ ?_
   intro u w1 k1 hu;simp only [Bl,Au,if_true,Act.put,zlA,zlB,zlC,zlD,zlE,zlF,zlG,hv hu 0,hv hu 1,hv hu 2,hv hu 3,hv hu 4,hv hu 5];clear hu;replace KX:=hid (KX.out.trans k1);clear k1 u;obtain ⟨-,a0,a1,a2,-⟩:=(HB0.out.kept KX.out).facts;obtain ⟨-,b0,b1,b2,-⟩:=(HB1'.out.kept KX.out).facts;go_wp2_with fail;go_ret;exact ⟨rfl,HK.out.trans KX.out⟩
theorem Yy {w:World}{v:Value}{a:RawI}(hv:IvR w v a)(hl:a.lens 17592186044416) :
 Calls Tryz.prog 22 #[v] w (RetK (.bool (Ck a)) w):=by
 obtain ⟨A,l,c,A',l',c',rfl,h1,h2⟩:=Ar hv;have M1:=hid (fun w1 (k:Kept w w1)=>Kn (h1.kept k) hl.1);have M2:=hid (fun w1 (k:Kept w w1)=>Kn (h2.kept k) hl.2);have hc:(Di a.lo&&Di a.hi)=true→∀ w1,Kept w w1→Calls Tryz.prog 15 #[.agg #[.bool a.lo.neg,.slice A l c,.int .i64 a.lo.e],.agg #[.bool a.hi.neg,.slice A' l' c',.int .i64 a.hi.e]] w1 (RetK (.int .i64 (Ce a.lo.dy.q a.hi.dy.q)) w1):=by
  intro d w1 k;simp only [Bool.and_eq_true] at d;obtain ⟨e1,o1⟩:=Dq (Fo h1) d.1;obtain ⟨e2,o2⟩:=Dq (Fo h2) d.2;have g1:=h1.kept k;have g2:=h2.kept k;exact Ado (x:=a.lo.dy) (y:=a.hi.dy) (by rw [e1];exact g1) (by rw [e2];exact g2) o1 o2
 unfold Ck;have HC:=hid hc;clear hc h1 h2 hv hl;generalize a.lo.neg=n1 at *;generalize a.lo.e=e1 at *;generalize a.hi.neg=n2 at *;generalize a.hi.e=e2 at *;generalize Ce a.lo.dy.q a.hi.dy.q=cc at *;generalize Di a.lo=b1 at *;generalize Di a.hi=b2 at *;obtain ⟨b3,h3⟩:∃ b3,decide (cc≤0)=b3:=⟨_,rfl⟩;rw [h3];have H3:=hid h3;clear h3;obtain ⟨W,hW,kW,BI⟩:=Abd w (.bool n1) (.slice A l c) (.int .i64 e1) (.bool n2) (.slice A' l' c') (.int .i64 e2);have HW:=hid hW;have K:=hid kW;have HB:=hid BI;clear hW kW BI;go_enter Tryz.func22,Tryz.ntmps22;go_upto_region 1 with fail;rw [←HW.out]
 refine rS 17 ([(vP w.heap.size 0),(vE (.agg #[.bool n1,.slice A l c,.int .i64 e1])),(vE (.bool b1)),(vE (.bool b1)),(fun v wv=>(b1=true→(fun v _=>v=(.pointer (some ⟨w.heap.size,3,none⟩))) v wv)∧(b1=false→v=undef)),(fun v wv=>(b1=true→(fun v _=>v=(.agg #[.bool n2,.slice A' l' c',.int .i64 e2])) v wv)∧(b1=false→v=undef)),(fun v wv=>(b1=true→(fun v _=>v=(.bool b2)) v wv)∧(b1=false→v=undef)),(vE (.bool (b1&&b2))),(vE (.bool (b1&&b2))),(fun v wv=>((b1&&b2)=true→(fun v _=>v=(.pointer (some ⟨w.heap.size,0,none⟩))) v wv)∧((b1&&b2)=false→v=undef)),(fun v wv=>((b1&&b2)=true→(fun v _=>v=(.agg #[.bool n1,.slice A l c,.int .i64 e1])) v wv)∧((b1&&b2)=false→v=undef)),(fun v wv=>((b1&&b2)=true→(fun v _=>v=(.pointer (some ⟨w.heap.size,3,none⟩))) v wv)∧((b1&&b2)=false→v=undef)),(fun v wv=>((b1&&b2)=true→(fun v _=>v=(.agg #[.bool n2,.slice A' l' c',.int .i64 e2])) v wv)∧((b1&&b2)=false→v=undef)),(fun v wv=>((b1&&b2)=true→(fun v _=>v=(.int .i64 cc)) v wv)∧((b1&&b2)=false→v=undef)),(fun v wv=>((b1&&b2)=true→(fun v _=>v=(.bool b3)) v wv)∧((b1&&b2)=false→v=undef)),(vE (.bool (b1&&b2&&b3))),(vE (.bool (b1&&b2&&b3)))])
  ⟨
   (gq 1),(fun aF wF F=>by have s3:=F.v 0 3;have c0:=Ai HB.out F.kept 0 _ rfl;have c1:=Ai HB.out F.kept 1 _ rfl;have c2:=Ai HB.out F.kept 2 _ rfl;exact sv rfl),(fun aF wF F=>by have s4:=F.v 1 4;exact sK (M1.out _ (K.out.trans F.kept)) fun _ _ h=>h),(gv 2 5),
   (fun aF wF F=>by
  have sg:=F.v 3 6;have s1:=F.q 1 (.pointer (some ⟨w.heap.size,0,none⟩));rcases Ay b1 with hC | hC
  ·refine sIm hC (vE (.pointer (some ⟨w.heap.size,3,none⟩))) ?_;exact sVc rfl rfl sg (by first | rfl | simp [hC])
  ·exact sOc rfl rfl sg (by first | rfl | simp [hC]) (nW hC)),
   (fun aF wF F=>by
  have sg:=F.v 3 6;have s7:(b1=true→aF.tmps.getD 7 undef=(.pointer (some ⟨w.heap.size,3,none⟩)))∧(b1=false→aF.tmps.getD 7 undef=undef):=F.done 4 7 (by kernel_rfl) rfl;have c0:=Ai HB.out F.kept 3 _ rfl;have c1:=Ai HB.out F.kept 4 _ rfl;have c2:=Ai HB.out F.kept 5 _ rfl;rcases Ay b1 with hC | hC
  ·refine sIm hC (vE (.agg #[.bool n2,.slice A' l' c',.int .i64 e2])) ?_;replace s7:=s7.1 hC;exact sVc rfl rfl sg (by first | rfl | simp [hC])
  ·exact sOc rfl rfl sg (by first | rfl | simp [hC]) (nW hC)),
   (fun aF wF F=>by
  have sg:=F.v 3 6;have s8:(b1=true→aF.tmps.getD 8 undef=(.agg #[.bool n2,.slice A' l' c',.int .i64 e2]))∧(b1=false→aF.tmps.getD 8 undef=undef):=F.done 5 8 (by kernel_rfl) rfl;rcases Ay b1 with hC | hC
  ·refine sIm hC (vE (.bool b2)) ?_;replace s8:=s8.1 hC;exact Bi ((Al rfl rfl sg).trans (by first | rfl | simp [hC])) (by go_simp) (M2.out _ (K.out.trans F.kept)) (fun _ _ h=>RetK.good h) (fun _ _ h=>h)
  ·exact sOc rfl rfl sg (by first | rfl | simp [hC]) (nW hC)),
   (fun aF wF F=>by
  have s6:=F.v 3 6;have s9:(b1=true→aF.tmps.getD 9 undef=(.bool b2))∧(b1=false→aF.tmps.getD 9 undef=undef):=F.done 6 9 (by kernel_rfl) rfl;rcases Ay b1 with hE | hE
  ·replace s9:=s9.1 hE;exact sw (by first | (go_simp;done) | (go_simp;simp_all;done) | (simp_all;done)) rfl
  ·exact sw (by first | (go_simp;done) | (go_simp;simp_all;done) | (simp_all;done)) rfl),(gv 7 10),
   (fun aF wF F=>by
  have sg:=F.v 8 11;have s1:=F.q 1 (.pointer (some ⟨w.heap.size,0,none⟩));rcases Ay (b1&&b2) with hC | hC
  ·refine sIm hC (vE (.pointer (some ⟨w.heap.size,0,none⟩))) ?_;exact sVc rfl rfl sg (by first | rfl | simp [hC])
  ·exact sOc rfl rfl sg (by first | rfl | simp [hC]) (nW hC)),
   (fun aF wF F=>by
  have sg:=F.v 8 11;have s12:((b1&&b2)=true→aF.tmps.getD 12 undef=(.pointer (some ⟨w.heap.size,0,none⟩)))∧((b1&&b2)=false→aF.tmps.getD 12 undef=undef):=F.done 9 12 (by kernel_rfl) rfl;have c0:=Ai HB.out F.kept 0 _ rfl;have c1:=Ai HB.out F.kept 1 _ rfl;have c2:=Ai HB.out F.kept 2 _ rfl;rcases Ay (b1&&b2) with hC | hC
  ·refine sIm hC (vE (.agg #[.bool n1,.slice A l c,.int .i64 e1])) ?_;replace s12:=s12.1 hC;exact sVc rfl rfl sg (by first | rfl | simp [hC])
  ·exact sOc rfl rfl sg (by first | rfl | simp [hC]) (nW hC)),
   (fun aF wF F=>by
  have sg:=F.v 8 11;have s1:=F.q 1 (.pointer (some ⟨w.heap.size,0,none⟩));rcases Ay (b1&&b2) with hC | hC
  ·refine sIm hC (vE (.pointer (some ⟨w.heap.size,3,none⟩))) ?_;exact sVc rfl rfl sg (by first | rfl | simp [hC])
  ·exact sOc rfl rfl sg (by first | rfl | simp [hC]) (nW hC)),
   (fun aF wF F=>by
  have sg:=F.v 8 11;have s14:((b1&&b2)=true→aF.tmps.getD 14 undef=(.pointer (some ⟨w.heap.size,3,none⟩)))∧((b1&&b2)=false→aF.tmps.getD 14 undef=undef):=F.done 11 14 (by kernel_rfl) rfl;have c0:=Ai HB.out F.kept 3 _ rfl;have c1:=Ai HB.out F.kept 4 _ rfl;have c2:=Ai HB.out F.kept 5 _ rfl;rcases Ay (b1&&b2) with hC | hC
  ·refine sIm hC (vE (.agg #[.bool n2,.slice A' l' c',.int .i64 e2])) ?_;replace s14:=s14.1 hC;exact sVc rfl rfl sg (by first | rfl | simp [hC])
  ·exact sOc rfl rfl sg (by first | rfl | simp [hC]) (nW hC)),
   (fun aF wF F=>by
  have sg:=F.v 8 11;have s13:((b1&&b2)=true→aF.tmps.getD 13 undef=(.agg #[.bool n1,.slice A l c,.int .i64 e1]))∧((b1&&b2)=false→aF.tmps.getD 13 undef=undef):=F.done 10 13 (by kernel_rfl) rfl;have s15:((b1&&b2)=true→aF.tmps.getD 15 undef=(.agg #[.bool n2,.slice A' l' c',.int .i64 e2]))∧((b1&&b2)=false→aF.tmps.getD 15 undef=undef):=F.done 12 15 (by kernel_rfl) rfl;rcases Ay (b1&&b2) with hC | hC
  ·refine sIm hC (vE (.int .i64 cc)) ?_;replace s13:=s13.1 hC;replace s15:=s15.1 hC;exact Bi ((Al rfl rfl sg).trans (by first | rfl | simp [hC])) (by go_simp) (HC.out hC _ (K.out.trans F.kept)) (fun _ _ h=>RetK.good h) (fun _ _ h=>h)
  ·exact sOc rfl rfl sg (by first | rfl | simp [hC]) (nW hC)),
   (fun aF wF F=>by
  have sg:=F.v 8 11;have s16:((b1&&b2)=true→aF.tmps.getD 16 undef=(.int .i64 cc))∧((b1&&b2)=false→aF.tmps.getD 16 undef=undef):=F.done 13 16 (by kernel_rfl) rfl;rcases Ay (b1&&b2) with hC | hC
  ·refine sIm hC (vE (.bool b3)) ?_;replace s16:=s16.1 hC;exact A0 ((Al rfl rfl sg).trans (by first | rfl | simp [hC])) (by (go_simp;exact H3.out)) rfl
  ·exact sOc rfl rfl sg (by first | rfl | simp [hC]) (nW hC)),
   (fun aF wF F=>by
  have s11:=F.v 8 11;have s17:((b1&&b2)=true→aF.tmps.getD 17 undef=(.bool b3))∧((b1&&b2)=false→aF.tmps.getD 17 undef=undef):=F.done 14 17 (by kernel_rfl) rfl;rcases Ay (b1&&b2) with hE | hE
  ·replace s17:=s17.1 hE;exact sw (by first | (go_simp;done) | (go_simp;simp_all;done) | (simp_all;done)) rfl
  ·exact sw (by first | (go_simp;done) | (go_simp;simp_all;done) | (simp_all;done)) rfl),(gv 15 18),
   trivial⟩ ?_
 intro u w1 k1 hu;have p7:=hp hu 4;have p8:=hp hu 5;have p9:=hp hu 6;have p12:=hp hu 9;have p13:=hp hu 10;have p14:=hp hu 11;have p15:=hp hu 12;have p16:=hp hu 13;have p17:=hp hu 14;simp only [Bl,Au,if_true,Act.put,zlA,zlB,zlC,zlD,zlE,zlF,zlG,hv hu 0,hv hu 1,hv hu 2,hv hu 3,hv hu 7,hv hu 8,hv hu 15,hv hu 16];clear hu;generalize u 4=v7,u 5=v8,u 6=v9,u 9=v12,u 10=v13,u 11=v14,u 12=v15,u 13=v16,u 14=v17 at *;clear p7 p8 p9 p12 p13 p14 p15 p16 p17;go_wp2_with fail;go_ret;exact ⟨rfl,K.out.trans k1⟩
def Un (a b:Iv):Iv:=⟨Ki a.lo b.lo,F8 a.hi b.hi⟩
theorem Ae3 (w:World)(x y z x' y' z' p q r p' q' r':Value):∃ W,W=((w.alloc (.cells #[x,y,z,x',y',z'] 51)).alloc (.cells #[p,q,r,p',q',r'] 51)).alloc (.cells #[.bool false,.slice none 0 0,.int .i64 0,.bool false,.slice none 0 0,.int .i64 0] 51) ∧
 Kept w W∧BlkI W w.heap.size x y z x' y' z'∧BlkI W (w.heap.size+1) p q r p' q' r'∧BlkI W (w.heap.size+1+1) (.bool false) (.slice none 0 0) (.int .i64 0) (.bool false) (.slice none 0 0) (.int .i64 0):=by
 obtain ⟨W,hW,k,b1,b2⟩:=L5 w x y z x' y' z' p q r p' q' r';refine ⟨_,rfl,?_,?_,?_,?_⟩
 ·rw [←hW];exact k.trans (Ad _ _)
 ·rw [←hW];exact b1.kept (Ad _ _)
 ·rw [←hW];exact b2.kept (Ad _ _)
 ·have:=Dv ((w.alloc (.cells #[x,y,z,x',y',z'] 51)).alloc (.cells #[p,q,r,p',q',r'] 51));simp only [World.size_alloc] at this;exact this
theorem Ahz {w:World}{v u:Value}{a b:Iv}(hv:IvC w v a)(hu:IvC w u b)(ha:a.Ok)(hb:b.Ok) :
 Calls Tryz.prog 87 #[v,u] w (RetIE ⟨(Un a b).raw,0⟩ w):=by
 have m1:=fun w1 (k:Kept w w1)=>Ha (hv.kept k) ha
 have m2:=fun w1 (k:Kept w w1)=>Ha (hu.kept k) hb
 obtain ⟨A,l,c,A',l',c',rfl,h1,h2⟩:=Cc hv;obtain ⟨B,j,e,B',j',e',rfl,g1,g2⟩:=Cc hu;have q1:=fun w1 (k:Kept w w1)=>Uo (h1.kept k) (g1.kept k) ha.lo hb.lo
 have q2:=fun w1 (k:Kept w w1)=>N8 (h2.kept k) (g2.kept k) ha.hi hb.hi
 have hdef:(Un a b).raw=⟨(Ki a.lo b.lo).raw,(F8 a.hi b.hi).raw⟩:=rfl;rw [hdef];have M1:=hid m1;have M2:=hid m2;have Q1:=hid q1;have Q2:=hid q2;clear m1 m2 q1 q2 h1 h2 g1 g2 hv hu ha hb hdef;generalize (Ki a.lo b.lo).raw=r1 at *;generalize (F8 a.hi b.hi).raw=r2 at *;generalize a.lo.neg=n1 at *;generalize a.lo.e=e1 at *;generalize a.hi.neg=n2 at *;generalize a.hi.e=e2 at *;generalize b.lo.neg=n3 at *;generalize b.lo.e=e3 at *;generalize b.hi.neg=n4 at *;generalize b.hi.e=e4 at *;obtain ⟨W,hW,kW,BI,BJ,BR⟩:=Ae3 w (.bool n1) (.slice A l c) (.int .i64 e1) (.bool n2) (.slice A' l' c') (.int .i64 e2) (.bool n3) (.slice B j e) (.int .i64 e3) (.bool n4) (.slice B' j' e') (.int .i64 e4)
 have HW:=hid hW;have K:=hid kW;have HB:=hid BI;have HD:=hid BJ;have HR:=hid BR;clear hW kW BI BJ BR;go_enter Tryz.func87,Tryz.ntmps87;go_wp2_with fail;rw [←HW.out];refine (M1.out _ K.out).mono ?_;rintro e w1 ⟨rfl,q⟩;replace K:=hid (K.out.trans q);replace HB:=hid (HB.out.kept q);replace HD:=hid (HD.out.kept q);replace HR:=hid (HR.out.kept q);clear q;obtain ⟨-,c0,c1,c2,c3,c4,c5⟩:=HB.out.facts;obtain ⟨-,d0,d1,d2,d3,d4,d5⟩:=HD.out.facts;simp only [];go_wp2_with fail;refine (M2.out _ K.out).mono ?_;clear c0 c1 c2 c3 c4 c5 d0 d1 d2 d3 d4 d5;rintro e w1 ⟨rfl,q⟩;replace K:=hid (K.out.trans q);replace HB:=hid (HB.out.kept q)
 replace HD:=hid (HD.out.kept q);replace HR:=hid (HR.out.kept q);clear q;obtain ⟨-,c0,c1,c2,c3,c4,c5⟩:=HB.out.facts;obtain ⟨-,d0,d1,d2,d3,d4,d5⟩:=HD.out.facts;simp only [];go_wp2_with fail;clear c0 c1 c2 c3 c4 c5 d0 d1 d2 d3 d4 d5
 refine Aac 11 ([(vP w.heap.size 0),(vE (.agg #[.bool n1,.slice A l c,.int .i64 e1])),(vP (w.heap.size+1) 0),(vE (.agg #[.bool n3,.slice B j e,.int .i64 e3])),(fun v wv=>DyR wv v r1),(vP w.heap.size 3),(vE (.agg #[.bool n2,.slice A' l' c',.int .i64 e2])),(vP (w.heap.size+1) 3),(vE (.agg #[.bool n4,.slice B' j' e',.int .i64 e4])),(fun v wv=>DyR wv v r2),(fun v wv=>IvR wv v ⟨r1,r2⟩)])
  ⟨
   (gq 2),(fun aF wF F=>by have s15:=F.v 0 15;have c0:=Ai HB.out F.kept 0 _ rfl;have c1:=Ai HB.out F.kept 1 _ rfl;have c2:=Ai HB.out F.kept 2 _ rfl;exact sv rfl),(gq 3),(fun aF wF F=>by have s17:=F.v 2 17;have c0:=Ai HD.out F.kept 0 _ rfl;have c1:=Ai HD.out F.kept 1 _ rfl;have c2:=Ai HD.out F.kept 2 _ rfl;exact sv rfl),(fun aF wF F=>by have s16:=F.v 1 16;have s18:=F.v 3 18;exact sD (Q1.out _ (K.out.trans F.kept)) fun _ _ h=>h),(gq 2),(fun aF wF F=>by have s20:=F.v 5 20;have c0:=Ai HB.out F.kept 3 _ rfl;have c1:=Ai HB.out F.kept 4 _ rfl;have c2:=Ai HB.out F.kept 5 _ rfl;exact sv rfl),(gq 3),(fun aF wF F=>by have s22:=F.v 7 22;have c0:=Ai HD.out F.kept 3 _ rfl;have c1:=Ai HD.out F.kept 4 _ rfl;have c2:=Ai HD.out F.kept 5 _ rfl;exact sv rfl),(fun aF wF F=>by have s21:=F.v 6 21;have s23:=F.v 8 23;exact sD (Q2.out _ (K.out.trans F.kept)) fun _ _ h=>h),(fun aF wF F=>by have s19:=F.p 4 19;have s24:=F.p 9 24;obtain ⟨X1,Y1,Z1,ee1,gg1⟩:=By s19;obtain ⟨X2,Y2,Z2,ee2,gg2⟩:=By s24;simp only [Array.getD_eq_getD_getElem?] at ee1 ee2;exact sv ⟨_,_,_,_,_,_,rfl,gg1,gg2⟩),
   trivial⟩ ?_
 intro u w1 k1 hu;have p19:=hp hu 4;have p24:=hp hu 9;have p25:=hp hu 10;simp only [Bl,Au,if_true,Act.put,zlA,zlB,zlC,zlD,zlE,zlF,zlG,hv hu 0,hv hu 1,hv hu 2,hv hu 3,hv hu 5,hv hu 6,hv hu 7,hv hu 8];clear hu;generalize u 4=v19,u 9=v24,u 10=v25 at *;obtain ⟨A1,j1,k1',A2,j2,k2',rfl,z1,z2⟩:=Ar p25;have hr:=HR.out.kept k1;obtain ⟨hsz,r0,r1',r2',r3,r4,r5⟩:=hr.facts;obtain ⟨f0,f1,f2,f3,f4,f5⟩:=hr.free;have HRR:=hid hr;have Z1:=hid z1;have Z2:=hid z2;have K1:=hid (K.out.trans k1);clear hr z1 z2 k1 p25 p19 p24;refine ⟨?_,?_⟩
 ·go_simp;go_wp2_with fail;exact Dm (HRR.out.laid _ _ _ _ _ _) rfl rfl rfl ⟨B8 K1.out (by omega),_,rfl,_,_,_,_,_,_,rfl,Z1.out.ivW HRR.out _ _ _ _ _ _,Z2.out.ivW HRR.out _ _ _ _ _ _⟩
 ·first
   | exact .inl (by kernel_rfl)
   | (right
      go_simp;go_wp2_with fail;exact Dm (HRR.out.laid _ _ _ _ _ _) rfl rfl rfl ⟨B8 K1.out (by omega),_,rfl,_,_,_,_,_,_,rfl,Z1.out.ivW HRR.out _ _ _ _ _ _,Z2.out.ivW HRR.out _ _ _ _ _ _⟩)
end Go.Proofs.YtmgaloopddiekaaGreatDoor
