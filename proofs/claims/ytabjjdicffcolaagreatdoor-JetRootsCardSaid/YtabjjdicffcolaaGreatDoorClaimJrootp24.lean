/- Words and contracts, part 24. -/
import Derived.Test.YtabjjdicffcolaaGreatDoorClaimJrootp20
set_option maxRecDepth 100000
set_option maxHeartbeats 0
namespace Go.Proofs.YtabjjdicffcolaaGreatDoor
open Go.Lib (hid)
open Go.RowKit
section
variable {P:Program} {ops:Array Oper} {Q:Exit→Act→World→Prop}
theorem Ael {m:Nat}{V:Nat→Value→World→Prop}{a0:Act}{W:World}
 (hsz:m≤ops.size) (hap:Bp ops m=true) (hin:Cu ops m a0.tmps.size=true) (hbk:Dn .any ops=true)
 (hmono:∀ i v w w',Kept w w'→V i v w→V i v w')
 (hstep:∀ i o,i<m→ops[i]?=some o→∀ a w,Finds .any ops m V a0 W i a w→Bf P ops Q V i o a w)
 (hend:∀ u w,Kept W w→(∀ i,i<m→V i (u i) w)→wpOps P ops Q (List.range' m (ops.size-m)) (Av ops (fun _=>true) u m a0) w) :
 ∀ (k i:Nat) (u:Nat→Value) (w:World),i+k=m→Kept W w→(∀ j,j<i→V j (u j) w)→wpOps P ops Q (List.range' i (ops.size-i)) (Av ops (fun j=>decide (j<i)) u m a0) w:=by
 intro k
 induction k with
 | zero =>
   intro i u w hi hk hu;obtain rfl:i=m:=by omega
   have e:Av ops (fun j=>decide (j<i)) u i a0=Av ops (fun _=>true) u i a0:=Fa i (fun j hj=>⟨by simp [hj],rfl⟩);rw [e];exact hend u w hk hu
 | succ k ih =>
   intro i u w hi hk hu;have him:i<m:=by omega
   have his:i<ops.size:=by omega
   obtain ⟨r,hr⟩:∃ r,ops.size-i=r+1:=⟨ops.size-i-1,by omega⟩;have hr':ops.size-(i+1)=r:=by omega
   rw [hr,List.range'_succ];have hoi:=Array.getElem?_eq_getElem his;have hback:∀ x y,Bc .any ops x y=true→y<x:=by
    intro x y hxy;unfold Bc at hxy;by_cases hx:x<ops.size
    ·have h1:=Bo hbk x hx;rw [Array.getElem?_eq_getElem hx] at h1 hxy;simp only [Option.map_some,Option.getD_some,Array.all_eq_true',Array.any_eq_true'] at h1 hxy;obtain ⟨e,he,hb⟩:=hxy;simp only [Bool.and_eq_true,beq_iff_eq] at hb;have:=h1 e he;rw [hb.1,hb.2] at this;simpa using this
    ·rw [Array.getElem?_eq_none (by omega)] at hxy;simp at hxy
   have hF:Finds .any ops m V a0 W i (Av ops (fun j=>decide (j<i)) u m a0) w:=by
    refine ⟨hk,Ik m,fun j t hw hs=>?_,fun t hu0=>?_⟩
    ·have hji:=hback i j hw;have hjm:j<m:=by omega
     have htn:t<a0.tmps.size:=by
      have:=Bo hin j hjm;rw [hs] at this;simpa using this
     rw [Fw (i:=j) htn (by simp [hji]) hs m hjm (fun j' hj' hne=>?_)]
     ·exact hu j hji
     ·have h1:=Bo (Bo hap j hjm) j' hj';rw [hs] at h1;simp only [Bool.or_eq_true,beq_iff_eq,bne_iff_ne] at h1;rcases h1 with (h1 | h1) | h1
      ·exact absurd h1.symm hne
      ·cases h1
      ·exact fun h=>h1 h.symm
    ·refine Fv m (fun j hj hjl hs=>?_);have h1:=Bo hu0 j hj;rw [hs] at h1;simp only [bne_self_eq_false,Bool.false_or,Bool.or_eq_true,beq_iff_eq] at h1;simp only [decide_eq_true_eq] at hjl;rcases h1 with h1 | h1
     ·omega
     ·have:=hback j i h1;omega
   have hs:=hstep i ops[i] him hoi _ w hF;unfold Bf at hs;have hso:(ops[i]).dst=An ops i:=by unfold An;rw [hoi];rfl
   have hput:∀ v,(Av ops (fun j=>decide (j<i)) u m a0).put (ops[i]).dst v=Av ops (fun j=>decide (j<i+1)) (upd u i v) m a0:=by
    intro v;rw [hso,Pv (S:=fun j=>decide (j<i)) (by simp) m him (fun j hj hne=>?_)]
    ·refine Fa m (fun j _=>⟨?_,rfl⟩);unfold upd;by_cases hj:j=i
     ·rw [if_pos hj];simp;omega
     ·rw [if_neg hj];by_cases h2:j<i
      ·simp [h2];omega
      ·simp [h2];omega
    ·have h1:=Bo (Bo hap i him) j hj;simp only [Bool.or_eq_true,beq_iff_eq,bne_iff_ne] at h1;rcases h1 with (h1 | h1) | h1
     ·exact absurd h1.symm hne
     ·exact .inl h1
     ·exact .inr h1
   have hnext:∀ v w',Kept w w'→V i v w'→wpOps P ops Q (List.range' (i+1) r) ((Av ops (fun j=>decide (j<i)) u m a0).put (ops[i]).dst v) w':=by
    intro v w' hk' hv;rw [hput];have:=ih (i+1) (upd u i v) w' (by omega) (hk.trans hk') (fun j hj=>by
     unfold upd;by_cases hji:j=i
     ·subst hji;rw [if_pos rfl];exact hv
     ·rw [if_neg hji];exact hmono j _ _ _ hk' (hu j (by omega)))
    rw [hr'] at this;exact this
   unfold wpOps;simp only [hoi];by_cases hw:Region.wanted ops[i] (yielded ops (Av ops (fun j=>decide (j<i)) u m a0).tmps)=true
   ·rw [if_pos hw] at hs ⊢;refine .inl (Oper.wp_mono (fun a' w' h=>?_) hs);obtain ⟨v,rfl,hk',hv⟩:=h;exact hnext v w' hk' hv
   ·rw [if_neg hw] at hs ⊢;exact hnext undef w (Below.refl _ _) hs
theorem Qx {id m:Nat}{V:Nat→Value→World→Prop}{a0:Act}{W:World}
 (hsz:m≤ops.size) (hap:Bp ops m=true) (hin:Cu ops m a0.tmps.size=true) (hbk:Dn .any ops=true)
 (hmono:∀ i v w w',Kept w w'→V i v w→V i v w')
 (hstep:∀ i o,i<m→ops[i]?=some o→∀ a w,Finds .any ops m V a0 W i a w→Bf P ops Q V i o a w)
 (hend:∀ u w,Kept W w→(∀ i,i<m→V i (u i) w)→wpOps P ops Q (List.range' m (ops.size-m)) (Av ops (fun _=>true) u m a0) w) :
 (Code.region id ops false).wp P Q a0 W:=by
 refine wp_region ?_;rw [List.range_eq_range'];have h:=Ael hsz hap hin hbk hmono hstep hend m 0 (fun _=>undef) W (by omega) (Below.refl _ _) (fun j hj=>absurd hj (Nat.not_lt_zero _));have e:∀ n,Av ops (fun j=>decide (j<0)) (fun _=>undef) n a0=a0:=by
  intro n
  induction n with
  | zero=>rfl
  | succ n ih=>unfold Av;rw [if_neg (by simp),ih]
 rw [e m,Nat.sub_zero] at h;exact h
theorem Abs {id m:Nat}{V:Nat→Value→World→Prop}{a0:Act}{W:World}
 (hsz:m=ops.size) (hap:Bp ops m=true) (hin:Cu ops m a0.tmps.size=true) (hbk:Dn .any ops=true)
 (hmono:∀ i v w w',Kept w w'→V i v w→V i v w')
 (hstep:∀ i o,i<m→ops[i]?=some o→∀ a w,Finds .any ops m V a0 W i a w→Bf P ops Q V i o a w)
 (hend:∀ u w,Kept W w→(∀ i,i<m→V i (u i) w)→Q .normal (Av ops (fun _=>true) u m a0) w) :
 (Code.region id ops false).wp P Q a0 W:=by
 refine Qx (by omega) hap hin hbk hmono hstep (fun u w k hu=>?_);have:ops.size-m=0:=by omega
 rw [this];exact hend u w k hu
theorem Q0 {i:Nat}{o:Oper}{a:Act}{w:World}{rest:List Nat}(ho:ops[i]?=some o)(hg:o.guard=none)(h:o.wp P a w (fun a w=>wpOps P ops Q rest a w) Q):wpOps P ops Q (i::rest) a w:=by
 unfold wpOps;simp only [ho];have:Region.wanted o (yielded ops a.tmps)=true:=by simp [Region.wanted,hg]
 rw [if_pos this];exact .inl h
theorem Zr {id m:Nat}{V:Nat→Value→World→Prop}{a0:Act}{W:World}{o:Oper}
 (hsz:m+1=ops.size) (ho:ops[m]?=some o) (hg:o.guard=none) (hap:Bp ops m=true) (hin:Cu ops m a0.tmps.size=true) (hbk:Dn .any ops=true)
 (hmono:∀ i v w w',Kept w w'→V i v w→V i v w')
 (hstep:∀ i o,i<m→ops[i]?=some o→∀ a w,Finds .any ops m V a0 W i a w→Bf P ops Q V i o a w)
 (hend:∀ u w,Kept W w→(∀ i,i<m→V i (u i) w)→o.wp P (Av ops (fun _=>true) u m a0) w (Q .normal) Q) :
 (Code.region id ops false).wp P Q a0 W:=by
 refine Qx (by omega) hap hin hbk hmono hstep (fun u w k hu=>?_);have:ops.size-m=0+1:=by omega
 rw [this,List.range'_succ];exact Q0 ho hg (hend u w k hu)
theorem Zs {id m:Nat}{V:Nat→Value→World→Prop}{a0:Act}{W:World}{o o':Oper}
 (hsz:m+2=ops.size) (ho:ops[m]?=some o) (hg:o.guard=none) (ho':ops[m+1]?=some o') (hg':o'.guard=none) (hap:Bp ops m=true) (hin:Cu ops m a0.tmps.size=true) (hbk:Dn .any ops=true)
 (hmono:∀ i v w w',Kept w w'→V i v w→V i v w')
 (hstep:∀ i o,i<m→ops[i]?=some o→∀ a w,Finds .any ops m V a0 W i a w→Bf P ops Q V i o a w)
 (hend:∀ u w,Kept W w→(∀ i,i<m→V i (u i) w)→o.wp P (Av ops (fun _=>true) u m a0) w (fun a w=>o'.wp P a w (Q .normal) Q) Q) :
 (Code.region id ops false).wp P Q a0 W:=by
 refine Qx (by omega) hap hin hbk hmono hstep (fun u w k hu=>?_);have:ops.size-m=1+1:=by omega
 rw [this,List.range'_succ];refine Q0 ho hg (Oper.wp_mono (fun a w h=>?_) (hend u w k hu));rw [List.range'_succ];exact Q0 ho' hg' h
theorem rS {id:Nat}{a0:Act}{W:World}(m:Nat)(l:List (Value→World→Prop))(hs:I9 P .any ops Q m (VL l) a0 W 0 m ops.toList)(he:∀ u w,Kept W w→(∀ i,i<m→VL l i (u i) w)→Q .normal (Av ops (fun _=>true) u m a0) w)(hM:Nonempty (Jx l):=by infer_instance)
 (hz:m=ops.size:=by exact rfl) (ha:Bp ops m=true:=by kernel_rfl) (hi:Cu ops m a0.tmps.size=true:=by kernel_rfl) (hb:Dn .any ops=true:=by kernel_rfl):(Code.region id ops false).wp P Q a0 W :=
 Abs hz ha hi hb (H8 l (F8 hM)) (Ju hs) he
theorem rS1 {id:Nat}{a0:Act}{W:World}{o:Oper}(m:Nat)(l:List (Value→World→Prop))(hs:I9 P .any ops Q m (VL l) a0 W 0 m ops.toList)(he:∀ u w,Kept W w→(∀ i,i<m→VL l i (u i) w)→o.wp P (Av ops (fun _=>true) u m a0) w (Q .normal) Q)(hM:Nonempty (Jx l):=by infer_instance)
 (hz:m+1=ops.size:=by exact rfl) (ho:ops[m]?=some o:=by exact rfl) (hg:o.guard=none:=by exact rfl) (ha:Bp ops m=true:=by kernel_rfl) (hi:Cu ops m a0.tmps.size=true:=by kernel_rfl)
 (hb:Dn .any ops=true:=by kernel_rfl):(Code.region id ops false).wp P Q a0 W :=
 Zr hz ho hg ha hi hb (H8 l (F8 hM)) (Ju hs) he
theorem rS2 {id:Nat}{a0:Act}{W:World}{o o':Oper}(m:Nat)(l:List (Value→World→Prop))(hs:I9 P .any ops Q m (VL l) a0 W 0 m ops.toList)(he:∀ u w,Kept W w→(∀ i,i<m→VL l i (u i) w)→o.wp P (Av ops (fun _=>true) u m a0) w (fun a w=>o'.wp P a w (Q .normal) Q) Q)(hM:Nonempty (Jx l):=by infer_instance)
 (hz:m+2=ops.size:=by exact rfl) (ho:ops[m]?=some o:=by exact rfl) (hg:o.guard=none:=by exact rfl) (ho':ops[m+1]?=some o':=by exact rfl) (hg':o'.guard=none:=by exact rfl) (ha:Bp ops m=true:=by kernel_rfl) (hi:Cu ops m a0.tmps.size=true:=by kernel_rfl)
 (hb:Dn .any ops=true:=by kernel_rfl):(Code.region id ops false).wp P Q a0 W :=
 Zs hz ho hg ho' hg' ha hi hb (H8 l (F8 hM)) (Ju hs) he
end
theorem Aht {w:World}{b0 b1:Nat}{d:Dy}{n:Int}{A:Option Addr}{l c:Nat}(hb:Blk w b0 (.bool d.neg) (.slice A l c) (.int .i64 d.e))(hd:Lim w (.slice A l c) (Aj d.m))(c1:w.cell? ⟨b1,0,none⟩=some (.int .i64 n))
 (ok:d.Ok) (n1:-2097152≤n) (n2:n≤2097152) (hT:Tab w) :
 Calls Tryz.prog 210 #[.pointer (some ⟨b0,0,none⟩),.pointer (some ⟨b1,0,none⟩)] w (Goes 129 (Gw d n).raw w):=by
 have hlen:=hd.len;have hdy:DyR w (.agg #[.bool d.neg,.slice A l c,.int .i64 d.e]) d.raw:=hd.dyR (r:=d.raw) (by show (-9223372036854775808:Int)≤d.e;have:=ok.lo;omega) (by show d.e≤9223372036854775807;have:=ok.hi;omega);have hm:=fun w1 (k:Kept w w1)=>Agq (hdy.kept k) ok
 have M:=hid hm;have HB:=hid hb;have HC:=hid c1;have hl1:=Aq c1;simp only at hl1;have e1:=ok.lo;have e2:=ok.hi;have hf:=fun w1 (k:Kept w w1)=>Acq (neg:=d.neg) (n:=d.m) (e:=d.e+n) (hd.kept k) (by have:=Dx ok;show (Aj d.m).length≤_;have h2:(Aj d.m).length≤64:=ok.len;omega) (by omega) (by omega) (hT.kept k)
 have F:=hid hf;have hwr:IntKind.i64.wrap (d.e+n)=d.e+n:=by simp [IntKind.wrap_i64];omega
 unfold Gw;by_cases h0:d.m=0
 ·rw [if_pos h0];have hl0:l=0:=by rw [hlen,h0,Ay];rfl
  subst hl0;have HD:=hid hd;clear hf hm hdy hb hd c1 hlen hT F hwr
  show Calls _ _ _ _ (Goes _ ⟨d.raw,0⟩ w)
  have RR:Hid (d.raw=⟨d.neg,Aj d.m,d.e⟩):=rfl;rw [RR.out];clear RR ok h0;generalize d.neg=n1 at *;generalize d.e=e at *;generalize Aj d.m=xs at *;obtain ⟨hlt0,a0,a1,a2,-⟩:=HB.out.facts;go_enter Tryz.func210,Tryz.ntmps210;go_wp2_with fail;refine (M.out _ (Ad _ _)).mono ?_;rintro _ w1 ⟨rfl,q⟩;simp only [];have KK:=hid ((Ad _ _).trans q);have B2:=hid ((Bk _ _ _ _).kept q);clear q a0 a1 a2;obtain ⟨-,a0,a1,a2,-⟩:=(HB.out.kept KK.out).facts;go_wp2_with fail;refine (Ht _ _ _).mono ?_;rintro ee w2 ⟨he,rfl⟩;obtain rfl:ee=.returned (.tuple #[]):=he;simp only [];obtain ⟨-,x0,x1,x2,f0,f1,f2⟩:=B2.out.facts
  go_wp2_with fail;exact By (B2.out.laid _ _ _) rfl rfl rfl ⟨Am KK.out (Nat.le_refl _),.inl ⟨rfl,_,rfl,((HD.out.kept KK.out).dyW B2.out (Ag _) (Ae _ _ _) (Ah _)).dyR (r:=⟨n1,xs,e⟩) (by show (-9223372036854775808:Int)≤e;omega) (by show e≤9223372036854775807;omega)⟩⟩
 ·rw [if_neg h0,if_neg (by omega)];have hl0:((l:Int)==0)=false:=by
   have:=Bj d.m h0;rw [beq_eq_false_iff_ne,hlen];omega
  have d1:decide (n≤2097152)=true:=by simp;omega
  have d2:decide (-2097152≤n)=true:=by simp;omega
  clear hf hm hdy hb hd c1 hlen hT ok h0;generalize Bw d.neg d.m (d.e+n)=o at *;generalize d.neg=n1 at *;generalize d.e=e at *;obtain ⟨hlt0,a0,a1,a2,-⟩:=HB.out.facts;have hc1:=HC.out;go_enter Tryz.func210,Tryz.ntmps210;go_wp2_with fail;refine (M.out _ (Ad _ _)).mono ?_;rintro _ w1 ⟨rfl,q⟩;simp only [];have KK:=hid ((Ad _ _).trans q);have B2:=hid ((Bk _ _ _ _).kept q);clear q a0 a1 a2 hc1;obtain ⟨-,a0,a1,a2,-⟩:=(HB.out.kept KK.out).facts;have hc1:=Al KK.out HC.out;go_wp2_with fail;refine (Ht _ _ _).mono ?_;rintro ee w2 ⟨he,rfl⟩;obtain rfl:ee=.returned (.tuple #[]):=he
  simp only [];go_wp2_with fail;refine (Ht _ _ _).mono ?_;rintro ee w2 ⟨he,rfl⟩;obtain rfl:ee=.returned (.tuple #[]):=he;simp only [];go_wp2_with fail;refine (F.out _ KK.out).mono ?_;rintro ee w3 ⟨qk,⟨h0,u,rfl,hd⟩ | ⟨h0,rfl⟩⟩
  ·obtain ⟨A',l',c',rfl,-,hd,g1,g2⟩:=hd.shape;have b2:=B2.out.kept qk;obtain ⟨-,x0,x1,x2,f0,f1,f2⟩:=b2.facts;have HD:=hid hd;have HB2:=hid b2;clear hd b2 a0 a1 a2 hc1;simp only [];go_wp2_with fail;exact By (HB2.out.laid _ _ _) rfl rfl rfl ⟨Am (KK.out.trans qk) (Nat.le_refl _),.inl ⟨h0,_,rfl,(HD.out.dyW HB2.out (Ag _) (Ae _ _ _) (Ah _)).dyR g1 g2⟩⟩
  ·exact ⟨rfl,KK.out.trans qk,.inr ⟨h0,rfl⟩⟩
theorem Vc (w:World)(o o':Obj)(x y z:Value):Blk (((w.alloc o).alloc o').alloc (.cells #[x,y,z] 28)) (w.heap.size+1+1) x y z:=by
 have:=Bk ((w.alloc o).alloc o') x y z;simp only [World.size_alloc] at this;exact this
theorem Aim {w:World}{v:Value}{d:Dy}{n:Int}(hv:DyR w v d.raw)(ok:d.Ok)(n1:-2097152≤n)(n2:n≤2097152)(hT:Tab w) :
 Calls Tryz.prog 209 #[v,.int .i64 n] w (RetE (Gw d n).raw w):=by
 have hmf:=Gn;obtain ⟨A,l,c,rfl,-,hs,-,-⟩:=hv.shape;have hf:=fun (W:World) (k:Kept w W) (H:Nat) (c0:Blk W H (.bool d.neg) (.slice A l c) (.int .i64 d.e)) (c1:W.cell? ⟨H+1,0,none⟩=some (.int .i64 n)) =>
  Aa8 (w:=W) (K:=210) (cap:=#[.pointer (some ⟨H,0,none⟩),.pointer (some ⟨H+1,0,none⟩)])
   (fun W1 k1=>Aht (c0.kept k1) (hs.kept (k.trans k1)) (Al k1 c1) ok n1 n2 (hT.kept (k.trans k1))) (fun h=>by have:=(V7 ok n).2 h;show ((Gw d n).v).raw=rz;rw [this,E5]) (fun _=>rfl)
 have HF:=hid hf;clear hf hv hs hT n1 n2
 show Calls _ _ #[.agg #[.bool d.neg,.slice A l c,.int .i64 d.e],_] _ _
 generalize (Gw d n).raw=o at *;generalize d.neg=n1 at *;generalize d.e=e at *;go_enter Tryz.func209,Tryz.ntmps209;go_wp2_with fail;refine (HF.out _ ?k _ ?c0 ?c1).mono ?m
 case k=>exact ((Ad _ _).trans (Ad _ _)).trans (Ad _ _)
 case c0=>exact ((Bk _ _ _ _).kept (Ad _ _)).kept (Ad _ _)
 case c1=>exact Al (Ad _ _) (Ajy _ _ _ _)
 case m =>
  rintro e w1 ⟨qk,u,rfl,hd⟩;obtain ⟨A',l',c',rfl,-,hd,g1,g2⟩:=hd.shape;have b0:=(Vc _ _ _ _ _ _).kept qk;obtain ⟨_,c0,c1,c2,f0,f1,f2⟩:=b0.facts;have HD:=hid hd;clear hd;simp only [];go_wp2_with fail;exact D7 (Blk.laid b0 _ _ _) rfl rfl rfl ⟨Am ((((Ad _ _).trans (Ad _ _)).trans (Ad _ _)).trans qk) (by omega),_,rfl,(HD.out.dyW b0 (Ag _) (Ae _ _ _) (Ah _)).dyR g1 g2⟩
theorem Ge {w:World}{v:Value}{r:Raw}{k:Int}(hv:DyR w v r):Calls Tryz.prog 203 #[v,.int .i64 k] w (RetD r w):=by
 obtain ⟨A,l,c,rfl,-,hs,g1,g2⟩:=hv.shape;obtain ⟨W,hW,kW,B0,BR⟩:=Lb w (.bool r.neg) (.slice A l c) (.int .i64 r.e);have HW:=hid hW;have K:=hid kW;have HS:=hid hs;have HB:=hid BR;obtain ⟨-,a0,a1,a2,-⟩:=B0.facts;obtain ⟨-,x0,x1,x2,f0,f1,f2⟩:=BR.facts;clear hW kW hs hv B0 BR;go_enter Tryz.func203,Tryz.ntmps203;go_upto_region 1 with fail;rw [←HW.out];go_wp2_with fail;exact By (HB.out.laid _ _ _) rfl rfl rfl ⟨Am K.out (by omega),_,rfl,((HS.out.kept K.out).dyW HB.out (Ag _) (Ae _ _ _) (Ah _)).dyR g1 g2⟩
def Bb (d:Dy):Int:=bl d.m+d.e
def Hw (p:Nat) (up:Bool) (d:Dy):Dy:=(Cw d p up).v
theorem Nw (p:Nat)(up:Bool)(d:Dy):(Hw p up d).Ok:=(Hd d p up).1
theorem Aii {w:World}{v:Value}{d:Dy}(hv:DyR w v d.raw)(ok:d.Ok):Calls Tryz.prog 207 #[v] w (RetK (.int .i64 (Bb d)) w):=by
 obtain ⟨A,l,c,rfl,-,hs,-,-⟩:=hv.shape;have hc:=fun w1 (k:Kept w w1)=>Lz (hs.kept k) (by have:=ok.len;omega)
 have hb:=Df d.m 64 ok.len;have e1:=ok.lo;have e2:=ok.hi;have hw:IntKind.i64.wrap ((bl d.m:Int)+d.e)=Bb d:=by unfold Bb;simp [IntKind.wrap_i64];omega
 have C:=hid hc;have HX:=hid hw;clear hc hs hv hw hb e1 e2
 show Calls _ _ #[.agg #[.bool d.neg,.slice A l c,.int .i64 d.e]] _ _
 generalize Bb d=t at *;generalize bl d.m=m at *;generalize d.neg=n1 at *;generalize d.e=e at *;go_enter Tryz.func207,Tryz.ntmps207;go_wp2_with fail
 refine rgL 7 ([(vP w.heap.size 1),(vE (.slice A l c)),(vE (.int .i64 m)),(vP w.heap.size 2),(vE (.int .i64 e)),(vE (.int .i64 t)),(vE (.int .i64 t))])
  ⟨
   (gq 1),(gvl 0 3 fun _ k=>Ai (Bk w _ _ _) k 1 _ rfl),(fun aF wF F=>by have s4:=F.v 1 4;exact sQ (C.out _ ((Ad _ _).trans F.kept)) fun _ _ h=>h),(gq 1),(gvl 3 6 fun _ k=>Ai (Bk w _ _ _) k 2 _ rfl),(fun aF wF F=>by have s5:=F.v 2 5;have s7:=F.v 4 7;exact sw (by (go_simp;exact HX.out)) rfl),(gv 5 8),
   trivial⟩ ?_
 intro u w1 k1 hu;simp only [Av,An,if_true,Act.put,zlA,zlB,zlC,zlD,zlE,zlF,zlG,hv hu 0,hv hu 1,hv hu 2,hv hu 3,hv hu 4,hv hu 5,hv hu 6];clear hu;go_wp2_with fail;go_ret;exact ⟨rfl,(Ad _ _).trans k1⟩
theorem Ca (w:World):DyR w (.agg #[.bool false,.slice none 0 0,.int .i64 0]) rz:=⟨_,rfl,Lim.nil _ _ _,by decide,by decide⟩
theorem DyR.dyW {w:World}{v:Value}{r:Raw}{b:Nat}{x y z:Value}(h:DyR w v r)(h0:Blk w b x y z)(hx:Bl x)(hy:Bl y)(hz:Bl z)(x' y' z':Value):DyR (Go.Proofs.YtabjjdicffcolaaGreatDoor.dyW w b x' y' z') v r:=by
 obtain ⟨s,rfl,hs,h1,h2⟩:=h;exact ⟨s,rfl,hs.dyW h0 hx hy hz,h1,h2⟩
theorem Md (w:World)(x y z:Value):∃ V,V=w.alloc (.cells #[x,y,z] 28)∧Kept w V∧Blk V w.heap.size x y z∧w.heap.size<V.heap.size :=
 ⟨_,rfl,Ad _ _,Bk _ _ _ _,by simp⟩
theorem Agj:Aj 1=[1]:=by rw [Dk 1 (by decide)];simp [Ay]
def d1:Dy:=⟨false,1,0⟩
theorem Ag8 (n:Bool)(e:Int)(h1:-1048576≤e)(h2:e≤1048576):(Dy.mk n 1 e).Ok:=⟨by simp [Agj],fun h=>absurd h (by simp),fun _=>rfl,h1,h2⟩
theorem I5:d1.Ok:=Ag8 _ _ (by decide) (by decide)
theorem Acp:Bw false 1 0=⟨d1,0⟩:=Vl I5
def SBlk (w:World) (b:Nat) (p:Nat) (up:Bool):Prop:=w.heap[b]?=some (.cells #[.int .i64 (p:Int),.bool up] 175 (0,0))
theorem SBlk.kept {w w1:World}{b p:Nat}{up:Bool}(h:SBlk w b p up)(k:Kept w w1):SBlk w1 b p up:=(k.block b (Array.getElem?_eq_some_iff.1 h).1).trans h
theorem SBlk.facts {w:World}{b p:Nat}{up:Bool}(h:SBlk w b p up):b<w.heap.size∧w.cell? ⟨b,0,none⟩=some (.int .i64 (p:Int))∧w.cell? ⟨b,1,none⟩=some (.bool up) :=
 ⟨(Array.getElem?_eq_some_iff.1 h).1,Ab h 0 _ rfl,Ab h 1 _ rfl⟩
theorem SBlk.dyW {w:World}{b c p:Nat}{up:Bool}(h:SBlk w b p up)(hne:¬b=c)(x y z:Value):SBlk (dyW w c x y z) b p up:=by
 show (((w.setCell _ _).setCell _ _).setCell _ _).heap[b]?=_
 rw [Below.heap_setCell _ _ _ _ hne,Below.heap_setCell _ _ _ _ hne,Below.heap_setCell _ _ _ _ hne];exact h
theorem Ab8 (w:World)(p:Nat)(up:Bool)(x y z:Value):∃ W,W=((w.alloc (.cells #[.int .i64 (p:Int),.bool up] 175)).alloc (.cells #[x,y,z] 28)).alloc (.cells #[.bool false,.slice none 0 0,.int .i64 0] 28) ∧
 Kept w W∧SBlk W w.heap.size p up∧Blk W (w.heap.size+1) x y z∧Blk W (w.heap.size+1+1) (.bool false) (.slice none 0 0) (.int .i64 0):=by
 refine ⟨_,rfl,((Ad _ _).trans (Ad _ _)).trans (Ad _ _),?_,?_,Vc _ _ _ _ _ _⟩
 ·exact SBlk.kept (SBlk.kept (show SBlk (w.alloc _) _ _ _ from heap_alloc_new _ _) (Ad _ _)) (Ad _ _)
 ·exact (Dt _ _ _ _ _).kept (Ad _ _)
theorem Alc {w:World}{v:Value}{p:Nat}{d:Dy}(hv:DyR w v d.raw)(ok:d.Ok)(p1:1≤p)(p2:p≤2000)(hT:Tab w) :
 Calls Tryz.prog 185 #[.agg #[.int .i64 (p:Int),.bool true],v] w (RetD (Hw p true d).raw w):=by
 have C:=hid (fun w1 v1 (k:Kept w w1) (h:DyR w1 v1 d.raw)=>Aaq h ok (hT.kept k) p1 p2);obtain ⟨A,l,c,rfl,hs⟩:=Bg hv;have HS:=hid hs;clear hv hs hT ok p1 p2;have hd:Hw p true d=(Cw d p true).v:=rfl;rw [hd];obtain ⟨o,ho⟩:∃ o,o=(Cw d p true).raw:=⟨_,rfl⟩;rw [←ho] at C;have hr:(Cw d p true).v.raw=o.v:=by rw [ho];rfl
 rw [hr];clear hr ho hd;generalize d.raw=r at *;generalize d.neg=n1 at *;generalize d.e=e at *;obtain ⟨W,hW,kW,BS,BA,BR⟩:=Ab8 w p true (.bool n1) (.slice A l c) (.int .i64 e);have HW:=hid hW;have K:=hid kW;have HB:=hid BR;obtain ⟨-,s0,s1⟩:=BS.facts;obtain ⟨-,a0,a1,a2,-⟩:=BA.facts;clear hW kW BR;go_enter Tryz.func185,Tryz.ntmps185;go_upto_region 1 with fail;rw [←HW.out];go_wp2_with fail;refine (C.out _ _ K.out (HS.out.kept K.out)).mono ?_;rintro ee w1 ⟨q,u,rfl,hd⟩;simp only [];have KK:=hid (K.out.trans q);have HD:=hid hd;replace HB:=hid (HB.out.kept q);clear q hd a0 a1 a2 s0 s1;go_wp2_with fail
 refine (Ge HD.out).mono ?_;rintro ee w2 ⟨q,v2,rfl,hd2⟩;obtain ⟨A',l',c',rfl,-,hd,g1,g2⟩:=hd2.shape;replace KK:=hid (KK.out.trans q);replace HB:=hid (HB.out.kept q);replace HD:=hid hd;clear q hd hd2;obtain ⟨-,x0,x1,x2,f0,f1,f2⟩:=HB.out.facts;simp only [];go_wp2_with fail;exact By (HB.out.laid _ _ _) rfl rfl rfl ⟨Am KK.out (by omega),_,rfl,(HD.out.dyW HB.out (Ag _) (Ae _ _ _) (Ah _)).dyR g1 g2⟩
theorem Alb {w:World}{v:Value}{p:Nat}{d:Dy}(hv:DyR w v d.raw)(ok:d.Ok)(p1:1≤p)(p2:p≤2000)(hT:Tab w) :
 Calls Tryz.prog 185 #[.agg #[.int .i64 (p:Int),.bool false],v] w (RetD (Hw p false d).raw w):=by
 have C:=hid (fun w1 v1 (k:Kept w w1) (h:DyR w1 v1 d.raw)=>Oi h ok (hT.kept k) p1 p2);obtain ⟨A,l,c,rfl,hs⟩:=Bg hv;have HS:=hid hs;clear hv hs hT ok p1 p2;have hd:Hw p false d=(Cw d p false).v:=rfl;rw [hd];obtain ⟨o,ho⟩:∃ o,o=(Cw d p false).raw:=⟨_,rfl⟩;rw [←ho] at C;have hr:(Cw d p false).v.raw=o.v:=by rw [ho];rfl
 rw [hr];clear hr ho hd;generalize d.raw=r at *;generalize d.neg=n1 at *;generalize d.e=e at *;obtain ⟨W,hW,kW,BS,BA,BR⟩:=Ab8 w p false (.bool n1) (.slice A l c) (.int .i64 e);have HW:=hid hW;have K:=hid kW;have HB:=hid BR;obtain ⟨-,s0,s1⟩:=BS.facts;obtain ⟨-,a0,a1,a2,-⟩:=BA.facts;clear hW kW BR;go_enter Tryz.func185,Tryz.ntmps185;go_upto_region 1 with fail;rw [←HW.out];go_wp2_with fail;refine (C.out _ _ K.out (HS.out.kept K.out)).mono ?_;rintro ee w1 ⟨q,u,rfl,hd⟩;simp only [];have KK:=hid (K.out.trans q);have HD:=hid hd;replace HB:=hid (HB.out.kept q);clear q hd a0 a1 a2 s0 s1;go_wp2_with fail
 refine (Ge HD.out).mono ?_;rintro ee w2 ⟨q,v2,rfl,hd2⟩;obtain ⟨A',l',c',rfl,-,hd,g1,g2⟩:=hd2.shape;replace KK:=hid (KK.out.trans q);replace HB:=hid (HB.out.kept q);replace HD:=hid hd;clear q hd hd2;obtain ⟨-,x0,x1,x2,f0,f1,f2⟩:=HB.out.facts;simp only [];go_wp2_with fail;exact By (HB.out.laid _ _ _) rfl rfl rfl ⟨Am KK.out (by omega),_,rfl,(HD.out.dyW HB.out (Ag _) (Ae _ _ _) (Ah _)).dyR g1 g2⟩
theorem Nb {w:World}{v:Value}{p:Nat}{up:Bool}{d:Dy}(hv:DyR w v d.raw)(ok:d.Ok)(p1:1≤p)(p2:p≤2000)(hT:Tab w) :
 Calls Tryz.prog 185 #[.agg #[.int .i64 (p:Int),.bool up],v] w (RetD (Hw p up d).raw w):=by
 cases up
 ·exact Alb hv ok p1 p2 hT
 ·exact Alc hv ok p1 p2 hT
section
variable {P:Program} {ops:Array Oper} {Q:Exit→Act→World→Prop}
theorem Ah1 {V V1:Nat→Value→World→Prop}{i:Nat}{o:Oper}{a:Act}{w:World}(h:Bf P ops Q V1 i o a w)(hi:∀ v w',V1 i v w'→V i v w'):Bf P ops Q V i o a w:=by
 unfold Bf at *;by_cases hw:Region.wanted o (yielded ops a.tmps)=true
 ·rw [if_pos hw] at h ⊢;exact Oper.wp_mono (fun a' w' ⟨v,h1,h2,h3⟩=>⟨v,h1,h2,hi v w' h3⟩) h
 ·rw [if_neg hw] at h ⊢;exact hi _ _ h
theorem sOc {V:Nat→Value→World→Prop}{i:Nat}{o:Oper}{a:Act}{w:World}{g t:Nat}{b v:Bool}(hg:o.guard=some (g,b))(hs:An ops g=some t)(sg:a.tmps.getD t undef=.bool v)(hb:(v==b)=false)(hv:V i undef w):Bf P ops Q V i o a w:=Aad ((Af hg hs sg).trans hb) hv
theorem sVc {V:Nat→Value→World→Prop}{i:Nat}{o:Oper}{a:Act}{w:World}{x:Value}{g t:Nat}{b v:Bool}(hg:o.guard=some (g,b))(hs:An ops g=some t)(sg:a.tmps.getD t undef=.bool v)(hb:(v==b)=true)(hv:V i x w:=by exact rfl)(h:(execOp a.eval o).run P w=.ok (.value x) w:=by go_simp):Bf P ops Q V i o a w:=Ak ((Af hg hs sg).trans hb) h hv
instance iCond {C:Bool} {p:Value→World→Prop} [h:Nonempty (J8 p)]:Nonempty (J8 fun v w=>(C=true→p v w)∧(C=false→v=undef)):=⟨fun v w w' k q=>⟨fun e=>F8 h v w w' k (q.1 e),q.2⟩⟩
theorem nW {C:Bool}{q:Prop}(h:C=false):(C=true→q)∧(C=false→undef=undef):=⟨fun e=>absurd (h.symm.trans e) (by decide),fun _=>rfl⟩
theorem sIm {V:Nat→Value→World→Prop}{i:Nat}{o:Oper}{a:Act}{w:World}{C:Bool}(hC:C=true)(p:Value→World→Prop)(h:Bf P ops Q (fun _=>p) i o a w)(e:∀ v w',((C=true→p v w')→(C=false→v=undef)→V i v w'):=by exact fun _ _ a b=>⟨a,b⟩):Bf P ops Q V i o a w :=
 Ah1 h fun v w' q=>e v w' (fun _=>q) (fun n=>absurd (hC.symm.trans n) (by decide))
end
theorem Afi (w:World)(x y z x' y' z' p q r p' q' r':Value):∃ W,W=((w.alloc (.cells #[x,y,z,x',y',z'] 30)).alloc (.cells #[p,q,r,p',q',r'] 30)).alloc (.cells #[.bool false,.slice none 0 0,.int .i64 0,.bool false,.slice none 0 0,.int .i64 0] 30) ∧
 Kept w W∧BlkI W w.heap.size x y z x' y' z'∧BlkI W (w.heap.size+1) p q r p' q' r'∧BlkI W (w.heap.size+1+1) (.bool false) (.slice none 0 0) (.int .i64 0) (.bool false) (.slice none 0 0) (.int .i64 0):=by
 obtain ⟨W,hW,k,b1,b2⟩:=Wn w x y z x' y' z' p q r p' q' r';refine ⟨_,rfl,?_,?_,?_,?_⟩
 ·rw [←hW];exact k.trans (Ad _ _)
 ·rw [←hW];exact b1.kept (Ad _ _)
 ·rw [←hW];exact b2.kept (Ad _ _)
 ·have:=Ek ((w.alloc (.cells #[x,y,z,x',y',z'] 30)).alloc (.cells #[p,q,r,p',q',r'] 30));simp only [World.size_alloc] at this;exact this
def Gl (a b:Iv):Iv:=⟨F7 a.lo b.lo,Lm a.hi b.hi⟩
theorem Amt {w:World}{v u:Value}{a b:Iv}(hv:IvC w v a)(hu:IvC w u b)(ha:a.Ok)(hb:b.Ok)(hm:(Gl a b).Ok) :
 Calls Tryz.prog 23 #[v,u] w (RetIE ⟨(Gl a b).raw,0⟩ w):=by
 have m1:=fun w1 (k:Kept w w1)=>Nk (hv.kept k) ha
 have m2:=fun w1 (k:Kept w w1)=>Nk (hu.kept k) hb
 obtain ⟨A,l,c,A',l',c',rfl,h1,h2⟩:=Bm hv;obtain ⟨B,j,e,B',j',e',rfl,g1,g2⟩:=Bm hu;have q1:=fun w1 (k:Kept w w1)=>Yx (h1.kept k) (g1.kept k) ha.lo hb.lo
 have q2:=fun w1 (k:Kept w w1)=>Af9 (h2.kept k) (g2.kept k) ha.hi hb.hi
 have hdef:(Gl a b).raw=⟨(F7 a.lo b.lo).raw,(Lm a.hi b.hi).raw⟩:=rfl;have M3:=hid (fun w1 v (h:IvR w1 v (Gl a b).raw)=>Nk (w:=w1) (a:=Gl a b) h hm);rw [hdef] at M3 ⊢;have M1:=hid m1;have M2:=hid m2;have Q1:=hid q1;have Q2:=hid q2;clear m1 m2 q1 q2 h1 h2 g1 g2 hv hu ha hb hdef hm;generalize (F7 a.lo b.lo).raw=r1 at *;generalize (Lm a.hi b.hi).raw=r2 at *;generalize a.lo.neg=n1 at *;generalize a.lo.e=e1 at *;generalize a.hi.neg=n2 at *;generalize a.hi.e=e2 at *;generalize b.lo.neg=n3 at *;generalize b.lo.e=e3 at *;generalize b.hi.neg=n4 at *;generalize b.hi.e=e4 at *
 obtain ⟨W,hW,kW,BI,BJ,BR⟩:=Afi w (.bool n1) (.slice A l c) (.int .i64 e1) (.bool n2) (.slice A' l' c') (.int .i64 e2) (.bool n3) (.slice B j e) (.int .i64 e3) (.bool n4) (.slice B' j' e') (.int .i64 e4);have HW:=hid hW;have K:=hid kW;have HB:=hid BI;have HD:=hid BJ;have HR:=hid BR;clear hW kW BI BJ BR;go_enter Tryz.func23,Tryz.ntmps23;go_upto_region 1 with fail;rw [←HW.out]
 refine rS 8 ([(vE (.agg #[.bool n1,.slice A l c,.int .i64 e1,.bool n2,.slice A' l' c',.int .i64 e2])),(vE (.bool true)),(vE (.bool false)),(vE (.bool false)),(vE (.agg #[.bool n3,.slice B j e,.int .i64 e3,.bool n4,.slice B' j' e',.int .i64 e4])),(vE (.bool true)),(vE (.bool false)),(vE (.bool false))])
  ⟨
   (gql 2 fun _ k=>c6 HB.out k),(fun aF wF F=>by have s7:=F.v 0 7;exact sK (M1.out _ (K.out.trans F.kept)) fun _ _ h=>h),(gv 1 8),(gv 2 9),(fun aF wF F=>by have s3:=F.q 3 (.pointer (some ⟨w.heap.size+1,0,none⟩));obtain ⟨c0,c1,c2,c3,c4,c5⟩:=c6 HD.out F.kept;have sg:=F.v 3 10;exact Ak ((Af rfl rfl sg).trans rfl) (by go_simp) rfl),(fun aF wF F=>by have s11:=F.v 4 11;have sg:=F.v 3 10;exact Ar ((Af rfl rfl sg).trans rfl) (by go_simp) (M2.out _ (K.out.trans F.kept)) (fun _ _ h=>RetK.good h) (fun _ _ h=>h)),(fun aF wF F=>by have s12:=F.v 5 12;have sg:=F.v 3 10;exact Ak ((Af rfl rfl sg).trans rfl) (by go_simp) rfl),(gvv 3 10 6 13),
   trivial⟩ ?_
 intro u w1 k1 hu;simp only [Av,An,if_true,Act.put,zlA,zlB,zlC,zlD,zlE,zlF,zlG,hv hu 0,hv hu 1,hv hu 2,hv hu 3,hv hu 4,hv hu 5,hv hu 6,hv hu 7];clear hu;replace K:=hid (K.out.trans k1);replace HB:=hid (HB.out.kept k1);replace HD:=hid (HD.out.kept k1);replace HR:=hid (HR.out.kept k1);clear k1 HW;go_wp2_with fail
 refine Ha 12 ([(vP w.heap.size 0),(vE (.agg #[.bool n1,.slice A l c,.int .i64 e1])),(vP (w.heap.size+1) 0),(vE (.agg #[.bool n3,.slice B j e,.int .i64 e3])),(fun v wv=>DyR wv v r1),(vP w.heap.size 3),(vE (.agg #[.bool n2,.slice A' l' c',.int .i64 e2])),(vP (w.heap.size+1) 3),(vE (.agg #[.bool n4,.slice B' j' e',.int .i64 e4])),(fun v wv=>DyR wv v r2),(fun v wv=>IvR wv v ⟨r1,r2⟩),(fun v wv=>∃ b,v=.pointer (some ⟨b,0,none⟩)∧w1.heap.size≤b∧BlkI wv b (.bool false) (.slice none 0 0) (.int .i64 0) (.bool false) (.slice none 0 0) (.int .i64 0))])
  ⟨
   (gq 2),(fun aF wF F=>by have s16:=F.v 0 16;have c0:=Ai HB.out F.kept 0 _ rfl;have c1:=Ai HB.out F.kept 1 _ rfl;have c2:=Ai HB.out F.kept 2 _ rfl;exact sv rfl),(gq 3),(fun aF wF F=>by have s18:=F.v 2 18;have c0:=Ai HD.out F.kept 0 _ rfl;have c1:=Ai HD.out F.kept 1 _ rfl;have c2:=Ai HD.out F.kept 2 _ rfl;exact sv rfl),(fun aF wF F=>by have s17:=F.v 1 17;have s19:=F.v 3 19;exact sD (Q1.out _ (K.out.trans F.kept)) fun _ _ h=>h),(gq 2),(fun aF wF F=>by have s21:=F.v 5 21;have c0:=Ai HB.out F.kept 3 _ rfl;have c1:=Ai HB.out F.kept 4 _ rfl;have c2:=Ai HB.out F.kept 5 _ rfl;exact sv rfl),(gq 3),(fun aF wF F=>by have s23:=F.v 7 23;have c0:=Ai HD.out F.kept 3 _ rfl;have c1:=Ai HD.out F.kept 4 _ rfl;have c2:=Ai HD.out F.kept 5 _ rfl;exact sv rfl),(fun aF wF F=>by have s22:=F.v 6 22;have s24:=F.v 8 24;exact sD (Q2.out _ (K.out.trans F.kept)) fun _ _ h=>h),(fun aF wF F=>by have s20:=F.p 4 20;have s25:=F.p 9 25;obtain ⟨X1,Y1,Z1,ee1,gg1⟩:=Aw s20;obtain ⟨X2,Y2,Z2,ee2,gg2⟩:=Aw s25;simp only [Array.getD_eq_getD_getElem?] at ee1 ee2;exact sv ⟨_,_,_,_,_,_,rfl,gg1,gg2⟩),(fun aF wF F=>by exact sN ⟨_,rfl,F.kept.size,Ek _⟩),
   trivial⟩ ?_
 intro u w2 k2 hu;have p20:=hp hu 4;have p25:=hp hu 9;have p26:=hp hu 10;have p6:=hp hu 11;simp only [Av,An,if_true,Act.put,zlA,zlB,zlC,zlD,zlE,zlF,zlG,hv hu 0,hv hu 1,hv hu 2,hv hu 3,hv hu 5,hv hu 6,hv hu 7,hv hu 8];clear hu;generalize u 4=v20,u 9=v25,u 10=v26,u 11=v6 at *;obtain ⟨b6,rfl,hb6,hB6⟩:=p6;obtain ⟨A1,j1,k1',A2,j2,k2',rfl,z1,z2⟩:=Au p26;obtain ⟨-,c0,c1,c2,c3,c4,c5⟩:=hB6.facts;obtain ⟨f0,f1,f2,f3,f4,f5⟩:=hB6.free;clear p20 p25 p26;go_simp;go_upto_region 4 with fail;change Code.wp _ _ _ _ (ivW w2 b6 _ _ _ _ _ _);have lR:=HR.out.facts.1;have KX:=hid (Az (x:=.bool r1.neg) (y:=.slice A1 j1 k1') (z:=.int .i64 r1.e) (x':=.bool r2.neg) (y':=.slice A2 j2 k2') (z':=.int .i64 r2.e) (K.out.trans k2) (show w.heap.size≤b6 by have:=K.out.size;omega))
 have HRX:Hid (BlkI (ivW w2 b6 (.bool r1.neg) (.slice A1 j1 k1') (.int .i64 r1.e) (.bool r2.neg) (.slice A2 j2 k2') (.int .i64 r2.e)) (w.heap.size+1+1) (.bool false) (.slice none 0 0) (.int .i64 0) (.bool false) (.slice none 0 0) (.int .i64 0)):=hid ((Eo _ _ _ _ _ _ _ _ _ (show w.heap.size+1+1≠b6 by omega)).trans (HR.out.kept k2));have H6:=hid (hB6.laid (.bool r1.neg) (.slice A1 j1 k1') (.int .i64 r1.e) (.bool r2.neg) (.slice A2 j2 k2') (.int .i64 r2.e));have Z1:=hid (z1.ivW hB6 (.bool r1.neg) (.slice A1 j1 k1') (.int .i64 r1.e) (.bool r2.neg) (.slice A2 j2 k2') (.int .i64 r2.e));have Z2:=hid (z2.ivW hB6 (.bool r1.neg) (.slice A1 j1 k1') (.int .i64 r1.e) (.bool r2.neg) (.slice A2 j2 k2') (.int .i64 r2.e))
 clear hB6 hb6 z1 z2 k2 c0 c1 c2 c3 c4 c5 f0 f1 f2 f3 f4 f5 K HB HD HR lR Q1 Q2 M1 M2;generalize ivW w2 b6 (.bool r1.neg) (.slice A1 j1 k1') (.int .i64 r1.e) (.bool r2.neg) (.slice A2 j2 k2') (.int .i64 r2.e)=X at *;obtain ⟨-,c0,c1,c2,c3,c4,c5⟩:=H6.out.facts;go_wp2_with fail;refine (M3.out _ _ ⟨_,_,_,_,_,_,rfl,Z1.out,Z2.out⟩).mono ?_;rintro e w3 ⟨rfl,q⟩;simp only [];clear c0 c1 c2 c3 c4 c5;have KK:=hid (KX.out.trans q);replace HRX:=hid (HRX.out.kept q);replace H6:=hid (H6.out.kept q);replace Z1:=hid (Z1.out.kept q);replace Z2:=hid (Z2.out.kept q);clear q KX M3;obtain ⟨-,c0,c1,c2,c3,c4,c5⟩:=H6.out.facts
 obtain ⟨hsz,d0,d1,d2,d3,d4,d5⟩:=HRX.out.facts;obtain ⟨f0,f1,f2,f3,f4,f5⟩:=HRX.out.free;go_wp2_with fail;exact Dm (HRX.out.laid _ _ _ _ _ _) rfl rfl rfl ⟨Az KK.out (by omega),_,rfl,_,_,_,_,_,_,rfl,Z1.out.ivW HRX.out _ _ _ _ _ _,Z2.out.ivW HRX.out _ _ _ _ _ _⟩
end Go.Proofs.YtabjjdicffcolaaGreatDoor
