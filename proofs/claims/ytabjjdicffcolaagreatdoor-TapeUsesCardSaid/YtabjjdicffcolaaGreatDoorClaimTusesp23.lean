/- Contracts of package sluicewayref1, fourth part: size, CmpDyad; sluicewayref5: May. -/
import Derived.Test.YtabjjdicffcolaaGreatDoorClaimTusesp22
set_option maxRecDepth 100000
set_option maxHeartbeats 16000000
namespace Go.Proofs.YtabjjdicffcolaaGreatDoor
open Go.Lib (hid)
open Go.RowKit
section
variable {P:Program} {ops:Array Oper} {Q:Exit→Act→World→Prop}
theorem Aas {m:Nat}{V:Nat→Value→World→Prop}{a0:Act}{W:World}
 (hsz:m≤ops.size) (hap:Co ops m=true) (hin:Ej ops m a0.tmps.size=true) (hbk:Fk .any ops=true)
 (hmono:∀ i v w w',Kept w w'→V i v w→V i v w')
 (hstep:∀ i o,i<m→ops[i]?=some o→∀ a w,Finds .any ops m V a0 W i a w→Bx P ops Q V i o a w)
 (hend:∀ u w,Kept W w→(∀ i,i<m→V i (u i) w)→wpOps P ops Q (List.range' m (ops.size-m)) (Bc ops (fun _=>true) u m a0) w) :
 ∀ (k i:Nat) (u:Nat→Value) (w:World),i+k=m→Kept W w→(∀ j,j<i→V j (u j) w)→wpOps P ops Q (List.range' i (ops.size-i)) (Bc ops (fun j=>decide (j<i)) u m a0) w:=by
 intro k
 induction k with
 | zero =>
   intro i u w hi hk hu;obtain rfl:i=m:=by omega
   have e:Bc ops (fun j=>decide (j<i)) u i a0=Bc ops (fun _=>true) u i a0:=Eg i (fun j hj=>⟨by simp [hj],rfl⟩);rw [e];exact hend u w hk hu
 | succ k ih =>
   intro i u w hi hk hu;have him:i<m:=by omega
   have his:i<ops.size:=by omega
   obtain ⟨r,hr⟩:∃ r,ops.size-i=r+1:=⟨ops.size-i-1,by omega⟩;have hr':ops.size-(i+1)=r:=by omega
   rw [hr,List.range'_succ];have hoi:=Array.getElem?_eq_getElem his;have hback:∀ x y,Bn .any ops x y=true→y<x:=by
    intro x y hxy;unfold Bn at hxy
    by_cases hx:x<ops.size
    ·have h1 := Bj        hbk x hx;rw [Array.getElem?_eq_getElem hx] at h1 hxy;simp only [Option.map_some,Option.getD_some,Array.all_eq_true',Array.any_eq_true'] at h1 hxy;obtain ⟨e,he,hb⟩:=hxy;simp only [Bool.and_eq_true,beq_iff_eq] at hb;have:=h1 e he;rw [hb.1,hb.2] at this
     simpa using this
    ·rw [Array.getElem?_eq_none (by omega)] at hxy;simp at hxy
   have hF:Finds .any ops m V a0 W i (Bc ops (fun j=>decide (j<i)) u m a0) w:=by
    refine ⟨hk,Gs m,fun j t hw hs=>?_,fun t hu0=>?_⟩
    ·have hji := hback i j hw;have hjm:j<m:=by omega
     have htn:t<a0.tmps.size:=by
      have:=Bj hin j hjm;rw [hs] at this
      simpa using this
     rw [Ek (i:=j) htn (by simp [hji]) hs m hjm (fun j' hj' hne=>?_)]
     ·exact hu j hji
     ·have h1 := Bj        (Bj        hap j hjm) j' hj';rw [hs] at h1;simp only [Bool.or_eq_true,beq_iff_eq,bne_iff_ne] at h1
      rcases h1 with (h1 | h1) | h1
      ·exact absurd h1.symm hne
      ·cases h1
      ·exact fun h=>h1 h.symm
    ·refine El             m (fun j hj hjl hs => ?_);have h1:=Bj        hu0 j hj;rw [hs] at h1;simp only [bne_self_eq_false,Bool.false_or,Bool.or_eq_true,beq_iff_eq] at h1;simp only [decide_eq_true_eq] at hjl
     rcases h1 with h1 | h1
     ·omega
     ·have:=hback j i h1;omega
   have hs:=hstep i ops[i] him hoi _ w hF;unfold Bx at hs;have hso:(ops[i]).dst=Am ops i:=by unfold Am;rw [hoi];rfl
   have hput:∀ v,(Bc ops (fun j=>decide (j<i)) u m a0).put (ops[i]).dst v=Bc ops (fun j=>decide (j<i+1)) (upd u i v) m a0:=by
    intro v;rw [hso,Lr (S:=fun j=>decide (j<i)) (by simp) m him (fun j hj hne=>?_)]
    ·refine Eg         m (fun j _ => ⟨?_, rfl⟩);unfold upd
     by_cases hj:j=i
     ·rw [if_pos hj];simp;omega
     ·rw [if_neg hj]
      by_cases h2:j<i
      ·simp [h2];omega
      ·simp [h2];omega
    ·have h1 := Bj        (Bj        hap i him) j hj;simp only [Bool.or_eq_true,beq_iff_eq,bne_iff_ne] at h1
     rcases h1 with (h1 | h1) | h1
     ·exact absurd h1.symm hne
     ·exact .inl h1
     ·exact .inr h1
   have hnext:∀ v w',Kept w w'→V i v w'→wpOps P ops Q (List.range' (i+1) r) ((Bc ops (fun j=>decide (j<i)) u m a0).put (ops[i]).dst v) w':=by
    intro v w' hk' hv;rw [hput];have:=ih (i+1) (upd u i v) w' (by omega) (hk.trans hk') (fun j hj=>by
     unfold upd
     by_cases hji:j=i
     ·subst hji;rw [if_pos rfl];exact hv
     ·rw [if_neg hji];exact hmono j _ _ _ hk' (hu j (by omega)))
    rw [hr'] at this;exact this
   unfold wpOps;simp only [hoi]
   by_cases hw:Region.wanted ops[i] (yielded ops (Bc ops (fun j=>decide (j<i)) u m a0).tmps)=true
   ·rw [if_pos hw] at hs ⊢;refine .inl (Oper.wp_mono (fun a' w' h=>?_) hs);obtain ⟨v,rfl,hk',hv⟩:=h;exact hnext v w' hk' hv
   ·rw [if_neg hw] at hs ⊢;exact hnext undef w (Below.refl _ _) hs
theorem Oq {id m:Nat}{V:Nat→Value→World→Prop}{a0:Act}{W:World}
 (hsz:m≤ops.size) (hap:Co ops m=true) (hin:Ej ops m a0.tmps.size=true) (hbk:Fk .any ops=true)
 (hmono:∀ i v w w',Kept w w'→V i v w→V i v w')
 (hstep:∀ i o,i<m→ops[i]?=some o→∀ a w,Finds .any ops m V a0 W i a w→Bx P ops Q V i o a w)
 (hend:∀ u w,Kept W w→(∀ i,i<m→V i (u i) w)→wpOps P ops Q (List.range' m (ops.size-m)) (Bc ops (fun _=>true) u m a0) w) :
 (Code.region id ops false).wp P Q a0 W:=by
 refine wp_region ?_;rw [List.range_eq_range'];have h:=Aas hsz hap hin hbk hmono hstep hend m 0 (fun _=>undef) W (by omega) (Below.refl _ _) (fun j hj=>absurd hj (Nat.not_lt_zero _));have e:∀ n,Bc ops (fun j=>decide (j<0)) (fun _=>undef) n a0=a0:=by
  intro n
  induction n with
  | zero=>rfl
  | succ n ih=>unfold Bc;rw [if_neg (by simp),ih]
 rw [e m,Nat.sub_zero] at h;exact h
theorem Eh {id m:Nat}{V:Nat→Value→World→Prop}{a0:Act}{W:World}
 (hsz:m=ops.size) (hap:Co ops m=true) (hin:Ej ops m a0.tmps.size=true) (hbk:Fk .any ops=true)
 (hmono:∀ i v w w',Kept w w'→V i v w→V i v w')
 (hstep:∀ i o,i<m→ops[i]?=some o→∀ a w,Finds .any ops m V a0 W i a w→Bx P ops Q V i o a w)
 (hend:∀ u w,Kept W w→(∀ i,i<m→V i (u i) w)→Q .normal (Bc ops (fun _=>true) u m a0) w) :
 (Code.region id ops false).wp P Q a0 W:=by
 refine Oq (by omega) hap hin hbk hmono hstep (fun u w k hu=>?_);have:ops.size-m=0:=by omega
 rw [this];exact hend u w k hu
theorem Og {i:Nat}{o:Oper}{a:Act}{w:World}{rest:List Nat}(ho:ops[i]?=some o)(hg:o.guard=none)(h:o.wp P a w (fun a w=>wpOps P ops Q rest a w) Q):wpOps P ops Q (i::rest) a w:=by
 unfold wpOps;simp only [ho];have:Region.wanted o (yielded ops a.tmps)=true:=by simp [Region.wanted,hg]
 rw [if_pos this];exact .inl h
theorem Ft {id m:Nat}{V:Nat→Value→World→Prop}{a0:Act}{W:World}{o:Oper}
 (hsz:m+1=ops.size) (ho:ops[m]?=some o) (hg:o.guard=none) (hap:Co ops m=true) (hin:Ej ops m a0.tmps.size=true) (hbk:Fk .any ops=true)
 (hmono:∀ i v w w',Kept w w'→V i v w→V i v w')
 (hstep:∀ i o,i<m→ops[i]?=some o→∀ a w,Finds .any ops m V a0 W i a w→Bx P ops Q V i o a w)
 (hend:∀ u w,Kept W w→(∀ i,i<m→V i (u i) w)→o.wp P (Bc ops (fun _=>true) u m a0) w (Q .normal) Q) :
 (Code.region id ops false).wp P Q a0 W:=by
 refine Oq (by omega) hap hin hbk hmono hstep (fun u w k hu=>?_);have:ops.size-m=0+1:=by omega
 rw [this,List.range'_succ];exact Og ho hg (hend u w k hu)
theorem Es {id m:Nat}{V:Nat→Value→World→Prop}{a0:Act}{W:World}{o o':Oper}
 (hsz:m+2=ops.size) (ho:ops[m]?=some o) (hg:o.guard=none) (ho':ops[m+1]?=some o') (hg':o'.guard=none) (hap:Co ops m=true) (hin:Ej ops m a0.tmps.size=true) (hbk:Fk .any ops=true)
 (hmono:∀ i v w w',Kept w w'→V i v w→V i v w')
 (hstep:∀ i o,i<m→ops[i]?=some o→∀ a w,Finds .any ops m V a0 W i a w→Bx P ops Q V i o a w)
 (hend:∀ u w,Kept W w→(∀ i,i<m→V i (u i) w)→o.wp P (Bc ops (fun _=>true) u m a0) w (fun a w=>o'.wp P a w (Q .normal) Q) Q) :
 (Code.region id ops false).wp P Q a0 W:=by
 refine Oq (by omega) hap hin hbk hmono hstep (fun u w k hu=>?_);have:ops.size-m=1+1:=by omega
 rw [this,List.range'_succ];refine Og ho hg (Oper.wp_mono (fun a w h=>?_) (hend u w k hu));rw [List.range'_succ];exact Og ho' hg' h
end
section
variable {P:Program} {ops:Array Oper} {Q:Exit→Act→World→Prop}
theorem Aq {V V1:Nat→Value→World→Prop}{i:Nat}{o:Oper}{a:Act}{w:World}(h:Bx P ops Q V1 i o a w)(hi:∀ v w',V1 i v w'→V i v w'):Bx P ops Q V i o a w:=by
 unfold Bx at *
 by_cases hw:Region.wanted o (yielded ops a.tmps)=true
 ·rw [if_pos hw] at h ⊢;exact Oper.wp_mono (fun a' w' ⟨v,h1,h2,h3⟩=>⟨v,h1,h2,hi v w' h3⟩) h
 ·rw [if_neg hw] at h ⊢;exact hi _ _ h
end
theorem DyR.dyW {w:World}{v:Value}{r:Raw}{b:Nat}{x y z:Value}(h:DyR w v r)(h0:Blk w b x y z)(hx:Bo x)(hy:Bo y)(hz:Bo z)(x' y' z':Value):DyR (Go.Proofs.YtabjjdicffcolaaGreatDoor.dyW w b x' y' z') v r:=by
 obtain ⟨s,rfl,hs,h1,h2⟩:=h;exact ⟨s,rfl,hs.dyW h0 hx hy hz,h1,h2⟩
theorem K5 (w:World)(x y z:Value):∃ V,V=w.alloc (.cells #[x,y,z] 28)∧Kept w V∧Blk V w.heap.size x y z∧w.heap.size<V.heap.size :=
 ⟨_,rfl,Aa _ _,blk_new _ _ _ _,by simp⟩
theorem Acc:limbs 1=[1]:=by rw [Bs 1 (by decide)];simp [Av]
def d1:Dy:=⟨false,1,0⟩
theorem Ad7 (n:Bool)(e:Int)(h1:-1048576≤e)(h2:e≤1048576):(Dy.mk n 1 e).Ok:=⟨by simp [Acc],fun h=>absurd h (by simp),fun _=>rfl,h1,h2⟩
theorem Id:d1.Ok:=Ad7 _ _ (by decide) (by decide)
theorem Aeg:Ch false 1 0=⟨d1,0⟩:=Aar Id
theorem Aho {i:Nat}(h:i<1000000):wrap64 ((i:Int)+1)=((i+1:Nat):Int):=by unfold wrap64;omega
theorem Ajj {i q:Nat}(h:i<q):((q:Int)-((i+1:Nat):Int)).toNat<((q:Int)-(i:Int)).toNat:=by omega
theorem Tr {w w':World}{b o:Nat}{v:Value}(h:w.cell? ⟨b,o,none⟩=some v)(k:Kept w w'):w'.cell? ⟨b,o,none⟩=some v:=(k.cell (p:=⟨b,o,none⟩) (Ax h)).trans h
theorem Za {w:World}{v u:Value}{r:Raw}(hv:DyR w v r)(hu:DyR w u r)(hr:r.m.length≤1000000):Calls Tryz.prog 61 #[v,u] w (RetK (.bool true) w):=by
 obtain ⟨s,rfl,hl,-,-⟩:=hv;obtain ⟨s',rfl,hl',-,-⟩:=hu;obtain ⟨-,A,c,rfl,-,hA⟩:=hl;obtain ⟨-,A',c',rfl,-,hA'⟩:=hl';generalize r.neg=n1 at *;generalize r.e=e1 at *;obtain ⟨W,hW,kW,B0,B1⟩:=Oh w (.bool n1) (.slice A r.m.length c) (.int .i64 e1) (.bool n1) (.slice A' r.m.length c') (.int .i64 e1);have HA:=hid hA;have HA':=hid hA';have HW:=hid hW;have K:=hid kW;have HB:=hid B0;have HD:=hid B1;have RN:=hid hr;clear hA hA' hW kW B0 B1 hr;obtain ⟨-,c0,c1,c2,-⟩:=HB.out.facts;obtain ⟨-,d0,d1,d2,-⟩:=HD.out.facts
 go_enter Tryz.func61,Tryz.ntmps61
 go_upto_region 1 with fail
 rw [←HW.out];go_wp2_with fail
 go_loopw [5] (fun vi wr=>∃ i:Nat,i≤r.m.length∧vi=.int .i64 i∧Kept W wr) (fun vi _=>(r.m.length-intOf vi).toNat)
 case atStart=>exact ⟨0,Nat.zero_le _,rfl,Below.refl _ _⟩
 case round =>
  obtain ⟨i,hi,rfl,hkr⟩:=hrel;have KR:=hid hkr;clear hkr c0 c1 c2 d0 d1 d2;obtain ⟨-,c0,c1,c2,-⟩:=(HB.out.kept KR.out).facts;obtain ⟨-,d0,d1,d2,-⟩:=(HD.out.kept KR.out).facts
  by_cases hlt:i<r.m.length
  ·obtain ⟨b, off, rfl, -, hb⟩ := HA.out (by omega);obtain ⟨b',off',rfl,-,hb'⟩:=HA'.out (by omega);have x0:=Tr     (hb i hlt) (K.out.trans KR.out);have x1:=Tr     (hb' i hlt) (K.out.trans KR.out);obtain ⟨z,hz⟩:∃ z,z=nth r.m i:=⟨_,rfl⟩;rw [←hz] at x0 x1;have X0:=hid x0;have X1:=hid x1;have BB:=hid (HB.out.kept KR.out);have BD:=hid (HD.out.kept KR.out);have HLT:=hid hlt;clear x0 x1 hb hb' hz hlt;go_wp2_with fail
   refine Bk (m:=11) (V:=VL [(vP w.heap.size 1),(vE (.slice (some ⟨b,off,none⟩) r.m.length c)),(vE (.int .i64 (i:Int))),(vE (.pointer (some ⟨b,off+i,none⟩))),(vE (.int .u64 (z:Int))),(vP (w.heap.size+1) 1),(vE (.slice (some ⟨b',off',none⟩) r.m.length c')),(vE (.int .i64 (i:Int))),(vE (.pointer (some ⟨b',off'+i,none⟩))),(vE (.int .u64 (z:Int))),(vE (.bool false))])
    (by kernel_rfl) rfl (by kernel_rfl) (by kernel_rfl) (by kernel_rfl) (Au _ ⟨mE,mE,mE,mE,mE,mE,mE,mE,mE,mE,mE,trivial⟩) (Al ⟨
      (fun aF wF F=>by have s2:aF.tmps.getD 2 undef=(.pointer (some ⟨w.heap.size,0,none⟩)):=F.o 2;exact sv rfl),(fun aF wF F=>by have s34:=F.v 0 34;have c0:=Ad BB.out F.kept 1 _ rfl;exact sv rfl),(fun aF wF F=>by have s5:aF.tmps.getD 5 undef=(.int .i64 (i:Int)):=F.o 5;exact sv rfl),(fun aF wF F=>by have s35:=F.v 1 35;have s36:=F.v 2 36;exact sw (by (have h9:=HLT.out;go_simp)) rfl),(fun aF wF F=>by have s37:=F.v 3 37;exact sw (by (have n0:=Tr X0.out F.kept;go_simp)) rfl),(fun aF wF F=>by have s3:aF.tmps.getD 3 undef=(.pointer (some ⟨w.heap.size+1,0,none⟩)):=F.o 3;exact sv rfl),(fun aF wF F=>by have s39:=F.v 5 39;have c0:=Ad BD.out F.kept 1 _ rfl;exact sv rfl),(fun aF wF F=>by have s5:aF.tmps.getD 5 undef=(.int .i64 (i:Int)):=F.o 5;exact sv rfl),(fun aF wF F=>by have s40:=F.v 6 40;have s41:=F.v 7 41;exact sw (by (have h9:=HLT.out;go_simp)) rfl),(fun aF wF F=>by have s42:=F.v 8 42;exact sw (by (have n0:=Tr X1.out F.kept;go_simp)) rfl),(fun aF wF F=>by have s38:=F.v 4 38;have s43:=F.v 9 43;exact sv rfl),
      trivial⟩) ?_
   intro u w6 q6 hu;simp only [Bc,Am,if_true,Act.put,z1,z2,z3,z4,z5,z6,z7,hv hu 0,hv hu 1,hv hu 2,hv hu 3,hv hu 4,hv hu 5,hv hu 6,hv hu 7,hv hu 8,hv hu 9,hv hu 10];clear hu;have K6:=hid (KR.out.trans q6);clear q6;go_wp2_with fail
   go_roundw
   case rel=>exact ⟨i+1,HLT.out,congrArg _ (Aho (Nat.lt_of_lt_of_le HLT.out RN.out)),K6.out⟩
   case measure =>
    rw [Aho (Nat.lt_of_lt_of_le HLT.out RN.out)];simp only [intOf];exact Ajj HLT.out
  ·obtain rfl : i = r.m.length := by omega
   go_wp2_with fail;go_ret;exact ⟨rfl,K.out.trans KR.out⟩
theorem Wc {w:World}{v u:Value}{a:RawI}(hv:IvR w v a)(hu:IvR w u a)(hl:a.lens 1000000):Calls Tryz.prog 28 #[v,u] w (RetK (.bool true) w):=by
 obtain ⟨A,l,c,A',l',c',rfl,h1,h2⟩:=Az hv;obtain ⟨B,j,e,B',j',e',rfl,g1,g2⟩:=Az hu;have q1:=fun w1 (k:Kept w w1)=>Za (h1.kept k) (g1.kept k) hl.1
 have q2:=fun w1 (k:Kept w w1)=>Za (h2.kept k) (g2.kept k) hl.2
 have Q1:=hid q1;have Q2:=hid q2;clear q1 q2 h1 h2 g1 g2 hv hu hl;generalize a.lo.neg=n1 at *;generalize a.lo.e=e1 at *;generalize a.hi.neg=n2 at *;generalize a.hi.e=e2 at *;obtain ⟨W,hW,kW,BI,BJ⟩:=Tp w (.bool n1) (.slice A l c) (.int .i64 e1) (.bool n2) (.slice A' l' c') (.int .i64 e2) (.bool n1) (.slice B j e) (.int .i64 e1) (.bool n2) (.slice B' j' e') (.int .i64 e2);have HW:=hid hW;have K:=hid kW;have HB:=hid BI;have HD:=hid BJ;clear hW kW BI BJ
 go_enter Tryz.func28,Tryz.ntmps28
 go_upto_region 1 with fail
 rw [←HW.out]
 refine Eh (m:=13) (V:=VL [(vP w.heap.size 0),(vE (.agg #[.bool n1,.slice A l c,.int .i64 e1])),(vP (w.heap.size+1) 0),(vE (.agg #[.bool n1,.slice B j e,.int .i64 e1])),(vE (.bool true)),(vE (.bool true)),(vP w.heap.size 3),(vE (.agg #[.bool n2,.slice A' l' c',.int .i64 e2])),(vP (w.heap.size+1) 3),(vE (.agg #[.bool n2,.slice B' j' e',.int .i64 e2])),(vE (.bool true)),(vE (.bool true)),(vE (.bool true))])
  rfl (by kernel_rfl) (by kernel_rfl) (by kernel_rfl) (Au _ ⟨mE,mE,mE,mE,mE,mE,mE,mE,mE,mE,mE,mE,mE,trivial⟩) (Al ⟨
   (fun aF wF F=>by have s2:aF.tmps.getD 2 undef=(.pointer (some ⟨w.heap.size,0,none⟩)):=F.o 2;exact sv rfl),(fun aF wF F=>by have s5:=F.v 0 5;have c0:=Ad HB.out F.kept 0 _ rfl;have c1:=Ad HB.out F.kept 1 _ rfl;have c2:=Ad HB.out F.kept 2 _ rfl;exact sv rfl),(fun aF wF F=>by have s3:aF.tmps.getD 3 undef=(.pointer (some ⟨w.heap.size+1,0,none⟩)):=F.o 3;exact sv rfl),(fun aF wF F=>by have s7:=F.v 2 7;have c0:=Ad HD.out F.kept 0 _ rfl;have c1:=Ad HD.out F.kept 1 _ rfl;have c2:=Ad HD.out F.kept 2 _ rfl;exact sv rfl),(fun aF wF F=>by have s6:=F.v 1 6;have s8:=F.v 3 8;exact sK (Q1.out _ (K.out.trans F.kept)) fun _ _ h=>h),(fun aF wF F=>by have s9:=F.v 4 9;exact sv rfl),(fun aF wF F=>by have s2:aF.tmps.getD 2 undef=(.pointer (some ⟨w.heap.size,0,none⟩)):=F.o 2;have sg:=F.v 5 10;exact Ah ((Ab rfl rfl sg).trans rfl) (by go_simp) rfl),(fun aF wF F=>by have s11:=F.v 6 11;have c0:=Ad HB.out F.kept 3 _ rfl;have c1:=Ad HB.out F.kept 4 _ rfl;have c2:=Ad HB.out F.kept 5 _ rfl;have sg:=F.v 5 10;exact Ah ((Ab rfl rfl sg).trans rfl) (by go_simp) rfl),(fun aF wF F=>by have s3:aF.tmps.getD 3 undef=(.pointer (some ⟨w.heap.size+1,0,none⟩)):=F.o 3;have sg:=F.v 5 10;exact Ah ((Ab rfl rfl sg).trans rfl) (by go_simp) rfl),(fun aF wF F=>by have s13:=F.v 8 13;have c0:=Ad HD.out F.kept 3 _ rfl;have c1:=Ad HD.out F.kept 4 _ rfl;have c2:=Ad HD.out F.kept 5 _ rfl;have sg:=F.v 5 10;exact Ah ((Ab rfl rfl sg).trans rfl) (by go_simp) rfl),(fun aF wF F=>by have s12:=F.v 7 12;have s14:=F.v 9 14;have sg:=F.v 5 10;exact Aw ((Ab rfl rfl sg).trans rfl) (by go_simp) (Q2.out _ (K.out.trans F.kept)) (fun _ _ h=>RetK.good h) (fun _ _ h=>h)),(fun aF wF F=>by have s10:=F.v 5 10;have s15:=F.v 10 15;exact sv rfl),(fun aF wF F=>by have s16:=F.v 11 16;exact sv rfl),
   trivial⟩) ?_
 intro u w1 k1 hu;simp only [Bc,Am,if_true,Act.put,z1,z2,z3,z4,z5,z6,z7,hv hu 0,hv hu 1,hv hu 2,hv hu 3,hv hu 4,hv hu 5,hv hu 6,hv hu 7,hv hu 8,hv hu 9,hv hu 10,hv hu 11,hv hu 12];clear hu;have KF:=hid (K.out.trans k1);clear k1;go_wp2_with fail;go_ret;exact ⟨rfl,KF.out⟩
def SBlk (w:World) (b:Nat) (p:Nat) (up:Bool):Prop:=w.heap[b]?=some (.cells #[.int .i64 (p:Int),.bool up] 175 (0,0))
theorem SBlk.kept {w w1:World}{b p:Nat}{up:Bool}(h:SBlk w b p up)(k:Kept w w1):SBlk w1 b p up:=(k.block b (Array.getElem?_eq_some_iff.1 h).1).trans h
theorem SBlk.facts {w:World}{b p:Nat}{up:Bool}(h:SBlk w b p up):b<w.heap.size∧w.cell? ⟨b,0,none⟩=some (.int .i64 (p:Int))∧w.cell? ⟨b,1,none⟩=some (.bool up) :=
 ⟨(Array.getElem?_eq_some_iff.1 h).1,Ae h 0 _ rfl,Ae h 1 _ rfl⟩
theorem SBlk.dyW {w:World}{b c p:Nat}{up:Bool}(h:SBlk w b p up)(hne:¬b=c)(x y z:Value):SBlk (dyW w c x y z) b p up:=by
 show (((w.setCell _ _).setCell _ _).setCell _ _).heap[b]?=_
 rw [Below.heap_setCell _ _ _ _ hne,Below.heap_setCell _ _ _ _ hne,Below.heap_setCell _ _ _ _ hne];exact h
theorem Yr (w:World)(p:Nat)(up:Bool)(x y z:Value):∃ W,W=((w.alloc (.cells #[.int .i64 (p:Int),.bool up] 175)).alloc (.cells #[x,y,z] 28)).alloc (.cells #[.bool false,.slice none 0 0,.int .i64 0] 28) ∧
 Kept w W∧SBlk W w.heap.size p up∧Blk W (w.heap.size+1) x y z∧Blk W (w.heap.size+1+1) (.bool false) (.slice none 0 0) (.int .i64 0):=by
 refine ⟨_,rfl,((Aa _ _).trans (Aa _ _)).trans (Aa _ _),?_,?_,S0 _ _ _ _ _ _⟩
 ·exact SBlk.kept (SBlk.kept (show SBlk (w.alloc _) _ _ _ from heap_alloc_new _ _) (Aa _ _)) (Aa _ _)
 ·exact (Ds _ _ _ _ _).kept (Aa _ _)
theorem Ahd {w:World}{v:Value}{p:Nat}{d:Dy}(hv:DyR w v d.raw)(ok:d.Ok)(p1:1≤p)(p2:p≤2000)(hT:Tab w) :
 Calls Tryz.prog 185 #[.agg #[.int .i64 (p:Int),.bool true],v] w (RetD (G8 p true d).raw w):=by
 have C:=hid (fun w1 v1 (k:Kept w w1) (h:DyR w1 v1 d.raw)=>Xa h ok (hT.kept k) p1 p2);obtain ⟨A,l,c,rfl,hs⟩:=Bp hv;have HS:=hid hs;clear hv hs hT ok p1 p2;have hd:G8 p true d=(Dh d p true).v:=rfl;rw [hd];obtain ⟨o,ho⟩:∃ o,o=(Dh d p true).raw:=⟨_,rfl⟩;rw [←ho] at C;have hr:(Dh d p true).v.raw=o.v:=by rw [ho];rfl
 rw [hr];clear hr ho hd;generalize d.raw=r at *;generalize d.neg=n1 at *;generalize d.e=e at *;obtain ⟨W,hW,kW,BS,BA,BR⟩:=Yr w p true (.bool n1) (.slice A l c) (.int .i64 e);have HW:=hid hW;have K:=hid kW;have HB:=hid BR;obtain ⟨-,s0,s1⟩:=BS.facts;obtain ⟨-,a0,a1,a2,-⟩:=BA.facts;clear hW kW BR
 go_enter Tryz.func185,Tryz.ntmps185
 go_upto_region 1 with fail
 rw [←HW.out];go_wp2_with fail;refine (C.out _ _ K.out (HS.out.kept K.out)).mono ?_;rintro ee w1 ⟨q,u,rfl,hd⟩;simp only [];have KK:=hid (K.out.trans q);have HD:=hid hd;replace HB:=hid (HB.out.kept q);clear q hd a0 a1 a2 s0 s1;go_wp2_with fail;refine (Fx HD.out).mono ?_;rintro ee w2 ⟨q,v2,rfl,hd2⟩;obtain ⟨A',l',c',rfl,-,hd,g1,g2⟩:=hd2.shape;replace KK:=hid (KK.out.trans q);replace HB:=hid (HB.out.kept q);replace HD:=hid hd;clear q hd hd2;obtain ⟨-,x0,x1,x2,f0,f1,f2⟩:=HB.out.facts;simp only [];go_wp2_with fail;exact Ca (HB.out.laid _ _ _) rfl rfl rfl ⟨Ak KK.out (by omega),_,rfl,(HD.out.dyW HB.out (Ag _) (Af _ _ _) (Ai _)).dyR g1 g2⟩
theorem Agj {w:World}{v:Value}{p:Nat}{d:Dy}(hv:DyR w v d.raw)(ok:d.Ok)(p1:1≤p)(p2:p≤2000)(hT:Tab w) :
 Calls Tryz.prog 185 #[.agg #[.int .i64 (p:Int),.bool false],v] w (RetD (G8 p false d).raw w):=by
 have C:=hid (fun w1 v1 (k:Kept w w1) (h:DyR w1 v1 d.raw)=>Mx h ok (hT.kept k) p1 p2);obtain ⟨A,l,c,rfl,hs⟩:=Bp hv;have HS:=hid hs;clear hv hs hT ok p1 p2;have hd:G8 p false d=(Dh d p false).v:=rfl;rw [hd];obtain ⟨o,ho⟩:∃ o,o=(Dh d p false).raw:=⟨_,rfl⟩;rw [←ho] at C;have hr:(Dh d p false).v.raw=o.v:=by rw [ho];rfl
 rw [hr];clear hr ho hd;generalize d.raw=r at *;generalize d.neg=n1 at *;generalize d.e=e at *;obtain ⟨W,hW,kW,BS,BA,BR⟩:=Yr w p false (.bool n1) (.slice A l c) (.int .i64 e);have HW:=hid hW;have K:=hid kW;have HB:=hid BR;obtain ⟨-,s0,s1⟩:=BS.facts;obtain ⟨-,a0,a1,a2,-⟩:=BA.facts;clear hW kW BR
 go_enter Tryz.func185,Tryz.ntmps185
 go_upto_region 1 with fail
 rw [←HW.out];go_wp2_with fail;refine (C.out _ _ K.out (HS.out.kept K.out)).mono ?_;rintro ee w1 ⟨q,u,rfl,hd⟩;simp only [];have KK:=hid (K.out.trans q);have HD:=hid hd;replace HB:=hid (HB.out.kept q);clear q hd a0 a1 a2 s0 s1;go_wp2_with fail;refine (Fx HD.out).mono ?_;rintro ee w2 ⟨q,v2,rfl,hd2⟩;obtain ⟨A',l',c',rfl,-,hd,g1,g2⟩:=hd2.shape;replace KK:=hid (KK.out.trans q);replace HB:=hid (HB.out.kept q);replace HD:=hid hd;clear q hd hd2;obtain ⟨-,x0,x1,x2,f0,f1,f2⟩:=HB.out.facts;simp only [];go_wp2_with fail;exact Ca (HB.out.laid _ _ _) rfl rfl rfl ⟨Ak KK.out (by omega),_,rfl,(HD.out.dyW HB.out (Ag _) (Af _ _ _) (Ai _)).dyR g1 g2⟩
theorem Lv {w:World}{v:Value}{p:Nat}{up:Bool}{d:Dy}(hv:DyR w v d.raw)(ok:d.Ok)(p1:1≤p)(p2:p≤2000)(hT:Tab w) :
 Calls Tryz.prog 185 #[.agg #[.int .i64 (p:Int),.bool up],v] w (RetD (G8 p up d).raw w):=by
 cases up
 ·exact Agj hv ok p1 p2 hT
 ·exact Ahd hv ok p1 p2 hT
theorem Dg.len_bl (n:Nat):(Dg.limbs n).length≤bl n:=by
 rw [Dg.length_limbs];unfold bl
 split<;>omega
theorem Dg.box_nn (w:World)(x y z p q r:Value):∃ W,W=(w.alloc (.cells #[x,y,z] 123)).alloc (.cells #[p,q,r] 123) ∧
 Kept w W∧Dg.Blk W w.heap.size x y z∧Dg.Blk W (w.heap.size+1) p q r:=by
 refine ⟨_,rfl,(Aa _ _).trans (Aa _ _),(Dg.blk_new _ _ _ _).kept (Aa _ _),?_⟩;have:=Dg.blk_new (w.alloc (.cells #[x,y,z] 123)) p q r
 simpa using this
theorem Agb {w:World}{va vb:Value}{x y:Dy}(ha:Dg.DN w va x.neg x.m x.e)(hb:Dg.DN w vb y.neg y.m y.e)(hx:x.Ok)(hy:y.Ok)(hx0:x.m≠0)(hy0:y.m≠0) :
 Calls Tryz.prog 110 #[va,vb] w (RetK (.int .i64 (F5 x y)) w):=by
 obtain ⟨A,l,c,rfl,ha⟩:=ha;obtain ⟨A2,l2,c2,rfl,hb⟩:=hb;have bx:=Cr x.m 64 hx.len;have bY:=Cr y.m 64 hy.len;have lx:=Dg.len_bl x.m;have ly:=Dg.len_bl y.m;have hs1:=fun w1 (k:Kept w w1)=>Dg.bits_c (ha.kept k) (by omega)
 have hs2:=fun w1 (k:Kept w w1)=>Dg.bits_c (hb.kept k) (by omega)
 have x1:=hx.lo;have x2:=hx.hi;have y1:=hy.lo;have y2:=hy.hi;obtain ⟨j1,hj1⟩:∃ j:Nat,x.e-min x.e y.e=j:=⟨(x.e-min x.e y.e).toNat,by omega⟩;obtain ⟨j2,hj2⟩:∃ j:Nat,y.e-min x.e y.e=j:=⟨(y.e-min x.e y.e).toNat,by omega⟩;have b1:j1≤2097152:=by omega
 have b2:j2≤2097152:=by omega
 have hl1:=fun w1 (k:Kept w w1)=>Dg.shl_c (ha.kept k) j1 (by omega) (by omega)
 have hl2:=fun w1 (k:Kept w w1)=>Dg.shl_c (hb.kept k) j2 (by omega) (by omega)
 have kx:(Dg.limbs (x.m*2^j1)).length≤40000000:=by have:=Dg.len_bl (x.m*2^j1);rw [Fm _ _ hx0] at this;omega
 have ky:(Dg.limbs (y.m*2^j2)).length≤40000000:=by have:=Dg.len_bl (y.m*2^j2);rw [Fm _ _ hy0] at this;omega
 have ho:=fun w1 v u (h1:Dg.Lim w1 v (Dg.limbs (x.m*2^j1))) (h2:Dg.Lim w1 u (Dg.limbs (y.m*2^j2)))=>Dg.cmp_c h1 h2 (by omega) (by omega)
 have hwx:IntKind.i64.wrap ((bl x.m:Int)+x.e)=(bl x.m:Int)+x.e:=by simp [IntKind.wrap_i64];omega
 have hwy:IntKind.i64.wrap ((bl y.m:Int)+y.e)=(bl y.m:Int)+y.e:=by simp [IntKind.wrap_i64];omega
 have hw1:IntKind.i64.wrap (x.e-min x.e y.e)=(j1:Int):=by rw [hj1];simp [IntKind.wrap_i64];omega
 have hw2:IntKind.i64.wrap (y.e-min x.e y.e)=(j2:Int):=by rw [hj2];simp [IntKind.wrap_i64];omega
 have hD:F5 x y=if (bl x.m:Int)+x.e<bl y.m+y.e then -1 else if (bl y.m:Int)+y.e<bl x.m+x.e then 1 else Dm (x.m*2^j1) (y.m*2^j2):=by
  unfold F5;rw [hj1,hj2];rfl
 have HD:=hid hD;have H1:=hid hs1;have H2:=hid hs2;have L1:=hid hl1;have L2:=hid hl2;have HO:=hid ho;clear hD hs1 hs2 hl1 hl2 ho lx ly kx ky ha hb bx bY x1 x2 y1 y2 hx hy hx0 hy0 b1 b2 hj1 hj2;generalize Dg.limbs (x.m*2^j1)=xs at *;generalize Dg.limbs (y.m*2^j2)=ys at *;generalize Dm (x.m*2^j1) (y.m*2^j2)=cc at *;obtain ⟨sx,hsx⟩:∃ sx,(bl x.m:Int)+x.e=sx:=⟨_,rfl⟩;obtain ⟨sy,hsy⟩:∃ sy,(bl y.m:Int)+y.e=sy:=⟨_,rfl⟩;rw [hsx,hsy] at HD;rw [hsx] at hwx;rw [hsy] at hwy;have HX:=hid hsx;have HY:=hid hsy;clear hsx hsy;obtain ⟨lo,hlo⟩:∃ lo,min x.e y.e=lo:=⟨_,rfl⟩;rw [hlo] at hw1 hw2;have HL:=hid hlo;clear hlo
 generalize bl x.m=bx at *;generalize bl y.m=bY at *;have hsz:=HD.out;generalize F5 x y=res at *;generalize x.neg=n1 at *;generalize x.e=e1 at *;generalize y.neg=n2 at *;generalize y.e=e2 at *;clear HD;obtain ⟨W,hW,kW,B0,B1⟩:=Dg.box_nn w (.bool n1) (.slice A l c) (.int .i64 e1) (.bool n2) (.slice A2 l2 c2) (.int .i64 e2);have HW:=hid hW;have HK:=hid kW;have HB0:=hid B0;have HB1':=hid B1;clear hW kW B0 B1
 by_cases h1:sx<sy
 ·rw [if_pos h1] at hsz;subst hsz;have d1:decide (sx<sy)=true:=by simp [h1]
  have d0:(sx != sy)=true:=by simp;omega
  clear h1
  go_enter Tryz.func110,Tryz.ntmps110
  go_wp2_with fail;rw [←HW.out]
  refine Bk (m:=14) (V:=VL [(vP w.heap.size 1),(vE (.slice A l c)),(vE (.int .i64 bx)),(vP w.heap.size 2),(vE (.int .i64 e1)),(vE (.int .i64 sx)),(vP (w.heap.size+1) 1),(vE (.slice A2 l2 c2)),(vE (.int .i64 bY)),(vP (w.heap.size+1) 2),(vE (.int .i64 e2)),(vE (.int .i64 sy)),(vE (.int .i64 sx)),(vE (.int .i64 sy))])
   (by kernel_rfl) rfl (by kernel_rfl) (by kernel_rfl) (by kernel_rfl) (Au _ ⟨mE,mE,mE,mE,mE,mE,mE,mE,mE,mE,mE,mE,mE,mE,trivial⟩) (Al ⟨
     (fun aF wF F=>by have s2:aF.tmps.getD 2 undef=(.pointer (some ⟨w.heap.size,0,none⟩)):=F.o 2;exact sv rfl),(fun aF wF F=>by have s8:=F.v 0 8;have c0:=Ad HB0.out F.kept 1 _ rfl;exact sv rfl),(fun aF wF F=>by have s9:=F.v 1 9;exact sQ (H1.out _ (HK.out.trans F.kept)) fun _ _ h=>h),(fun aF wF F=>by have s2:aF.tmps.getD 2 undef=(.pointer (some ⟨w.heap.size,0,none⟩)):=F.o 2;exact sv rfl),(fun aF wF F=>by have s11:=F.v 3 11;have c0:=Ad HB0.out F.kept 2 _ rfl;exact sv rfl),(fun aF wF F=>by have s10:=F.v 2 10;have s12:=F.v 4 12;exact sw (by have:=HX.out;go_simp) rfl),(fun aF wF F=>by have s3:aF.tmps.getD 3 undef=(.pointer (some ⟨w.heap.size+1,0,none⟩)):=F.o 3;exact sv rfl),(fun aF wF F=>by have s14:=F.v 6 14;have c0:=Ad HB1'.out F.kept 1 _ rfl;exact sv rfl),(fun aF wF F=>by have s15:=F.v 7 15;exact sQ (H2.out _ (HK.out.trans F.kept)) fun _ _ h=>h),(fun aF wF F=>by have s3:aF.tmps.getD 3 undef=(.pointer (some ⟨w.heap.size+1,0,none⟩)):=F.o 3;exact sv rfl),(fun aF wF F=>by have s17:=F.v 9 17;have c0:=Ad HB1'.out F.kept 2 _ rfl;exact sv rfl),(fun aF wF F=>by have s16:=F.v 8 16;have s18:=F.v 10 18;exact sw (by have:=HY.out;go_simp) rfl),(fun aF wF F=>by have s13:=F.v 5 13;exact sv rfl),(fun aF wF F=>by have s19:=F.v 11 19;exact sv rfl),
     trivial⟩) ?_
  intro u w1 k1 hu;simp only [Bc,Am,if_true,Act.put,z1,z2,z3,z4,z5,z6,z7,hv hu 0,hv hu 1,hv hu 2,hv hu 3,hv hu 4,hv hu 5,hv hu 6,hv hu 7,hv hu 8,hv hu 9,hv hu 10,hv hu 11,hv hu 12,hv hu 13];clear hu;go_wp2_with fail;go_ret;exact ⟨rfl,HK.out.trans k1⟩
 ·rw [if_neg h1] at hsz;have d1:decide (sx<sy)=false:=by simp;omega
  by_cases h2:sy<sx
  ·rw [if_pos h2] at hsz;subst hsz;have d0:(sx != sy)=true:=by simp;omega
   clear h1 h2
   go_enter Tryz.func110,Tryz.ntmps110
   go_wp2_with fail;rw [←HW.out]
   refine Bk (m:=14) (V:=VL [(vP w.heap.size 1),(vE (.slice A l c)),(vE (.int .i64 bx)),(vP w.heap.size 2),(vE (.int .i64 e1)),(vE (.int .i64 sx)),(vP (w.heap.size+1) 1),(vE (.slice A2 l2 c2)),(vE (.int .i64 bY)),(vP (w.heap.size+1) 2),(vE (.int .i64 e2)),(vE (.int .i64 sy)),(vE (.int .i64 sx)),(vE (.int .i64 sy))])
    (by kernel_rfl) rfl (by kernel_rfl) (by kernel_rfl) (by kernel_rfl) (Au _ ⟨mE,mE,mE,mE,mE,mE,mE,mE,mE,mE,mE,mE,mE,mE,trivial⟩) (Al ⟨
      (fun aF wF F=>by have s2:aF.tmps.getD 2 undef=(.pointer (some ⟨w.heap.size,0,none⟩)):=F.o 2;exact sv rfl),(fun aF wF F=>by have s8:=F.v 0 8;have c0:=Ad HB0.out F.kept 1 _ rfl;exact sv rfl),(fun aF wF F=>by have s9:=F.v 1 9;exact sQ (H1.out _ (HK.out.trans F.kept)) fun _ _ h=>h),(fun aF wF F=>by have s2:aF.tmps.getD 2 undef=(.pointer (some ⟨w.heap.size,0,none⟩)):=F.o 2;exact sv rfl),(fun aF wF F=>by have s11:=F.v 3 11;have c0:=Ad HB0.out F.kept 2 _ rfl;exact sv rfl),(fun aF wF F=>by have s10:=F.v 2 10;have s12:=F.v 4 12;exact sw (by have:=HX.out;go_simp) rfl),(fun aF wF F=>by have s3:aF.tmps.getD 3 undef=(.pointer (some ⟨w.heap.size+1,0,none⟩)):=F.o 3;exact sv rfl),(fun aF wF F=>by have s14:=F.v 6 14;have c0:=Ad HB1'.out F.kept 1 _ rfl;exact sv rfl),(fun aF wF F=>by have s15:=F.v 7 15;exact sQ (H2.out _ (HK.out.trans F.kept)) fun _ _ h=>h),(fun aF wF F=>by have s3:aF.tmps.getD 3 undef=(.pointer (some ⟨w.heap.size+1,0,none⟩)):=F.o 3;exact sv rfl),(fun aF wF F=>by have s17:=F.v 9 17;have c0:=Ad HB1'.out F.kept 2 _ rfl;exact sv rfl),(fun aF wF F=>by have s16:=F.v 8 16;have s18:=F.v 10 18;exact sw (by have:=HY.out;go_simp) rfl),(fun aF wF F=>by have s13:=F.v 5 13;exact sv rfl),(fun aF wF F=>by have s19:=F.v 11 19;exact sv rfl),
      trivial⟩) ?_
   intro u w1 k1 hu;simp only [Bc,Am,if_true,Act.put,z1,z2,z3,z4,z5,z6,z7,hv hu 0,hv hu 1,hv hu 2,hv hu 3,hv hu 4,hv hu 5,hv hu 6,hv hu 7,hv hu 8,hv hu 9,hv hu 10,hv hu 11,hv hu 12,hv hu 13];clear hu;go_wp2_with fail;go_ret;exact ⟨rfl,HK.out.trans k1⟩
  ·rw [if_neg h2] at hsz;subst hsz;have d0:(sx != sy)=false:=by simp;omega
   clear h1 h2
   go_enter Tryz.func110,Tryz.ntmps110
   go_wp2_with fail;rw [←HW.out]
   refine Bk (m:=14) (V:=VL [(vP w.heap.size 1),(vE (.slice A l c)),(vE (.int .i64 bx)),(vP w.heap.size 2),(vE (.int .i64 e1)),(vE (.int .i64 sx)),(vP (w.heap.size+1) 1),(vE (.slice A2 l2 c2)),(vE (.int .i64 bY)),(vP (w.heap.size+1) 2),(vE (.int .i64 e2)),(vE (.int .i64 sy)),(vE (.int .i64 sx)),(vE (.int .i64 sy))])
    (by kernel_rfl) rfl (by kernel_rfl) (by kernel_rfl) (by kernel_rfl) (Au _ ⟨mE,mE,mE,mE,mE,mE,mE,mE,mE,mE,mE,mE,mE,mE,trivial⟩) (Al ⟨
      (fun aF wF F=>by have s2:aF.tmps.getD 2 undef=(.pointer (some ⟨w.heap.size,0,none⟩)):=F.o 2;exact sv rfl),(fun aF wF F=>by have s8:=F.v 0 8;have c0:=Ad HB0.out F.kept 1 _ rfl;exact sv rfl),(fun aF wF F=>by have s9:=F.v 1 9;exact sQ (H1.out _ (HK.out.trans F.kept)) fun _ _ h=>h),(fun aF wF F=>by have s2:aF.tmps.getD 2 undef=(.pointer (some ⟨w.heap.size,0,none⟩)):=F.o 2;exact sv rfl),(fun aF wF F=>by have s11:=F.v 3 11;have c0:=Ad HB0.out F.kept 2 _ rfl;exact sv rfl),(fun aF wF F=>by have s10:=F.v 2 10;have s12:=F.v 4 12;exact sw (by have:=HX.out;go_simp) rfl),(fun aF wF F=>by have s3:aF.tmps.getD 3 undef=(.pointer (some ⟨w.heap.size+1,0,none⟩)):=F.o 3;exact sv rfl),(fun aF wF F=>by have s14:=F.v 6 14;have c0:=Ad HB1'.out F.kept 1 _ rfl;exact sv rfl),(fun aF wF F=>by have s15:=F.v 7 15;exact sQ (H2.out _ (HK.out.trans F.kept)) fun _ _ h=>h),(fun aF wF F=>by have s3:aF.tmps.getD 3 undef=(.pointer (some ⟨w.heap.size+1,0,none⟩)):=F.o 3;exact sv rfl),(fun aF wF F=>by have s17:=F.v 9 17;have c0:=Ad HB1'.out F.kept 2 _ rfl;exact sv rfl),(fun aF wF F=>by have s16:=F.v 8 16;have s18:=F.v 10 18;exact sw (by have:=HY.out;go_simp) rfl),(fun aF wF F=>by have s13:=F.v 5 13;exact sv rfl),(fun aF wF F=>by have s19:=F.v 11 19;exact sv rfl),
      trivial⟩) ?_
   intro u w1 k1 hu;simp only [Bc,Am,if_true,Act.put,z1,z2,z3,z4,z5,z6,z7,hv hu 0,hv hu 1,hv hu 2,hv hu 3,hv hu 4,hv hu 5,hv hu 6,hv hu 7,hv hu 8,hv hu 9,hv hu 10,hv hu 11,hv hu 12,hv hu 13];clear hu;obtain ⟨-,a0,a1,a2,-⟩:=(HB0.out.kept k1).facts;obtain ⟨-,b0,b1,b2,-⟩:=(HB1'.out.kept k1).facts;go_wp2_with fail;rw [HL.out];have K1:=hid k1;clear a0 a1 a2 b0 b1 b2 k1 hwx hwy d1 d0
   refine Bk (m:=16) (V:=VL [(vP w.heap.size 1),(vE (.slice A l c)),(vP w.heap.size 2),(vE (.int .i64 e1)),(vE (.int .i64 lo)),(vE (.int .i64 j1)),(fun v wv=>Dg.Lim wv v xs),(vP (w.heap.size+1) 1),(vE (.slice A2 l2 c2)),(vP (w.heap.size+1) 2),(vE (.int .i64 e2)),(vE (.int .i64 lo)),(vE (.int .i64 j2)),(fun v wv=>Dg.Lim wv v ys),(vE (.int .i64 res)),(vE (.int .i64 res))])
    (by kernel_rfl) rfl (by kernel_rfl) (by kernel_rfl) (by kernel_rfl) (Au _ ⟨mE,mE,mE,mE,mE,mE,fun v w w' k h=>by first | exact h | exact h.kept k | exact ⟨h.1,h.2.kept k⟩,mE,mE,mE,mE,mE,mE,fun v w w' k h=>by first | exact h | exact h.kept k | exact ⟨h.1,h.2.kept k⟩,mE,mE,trivial⟩) (Al ⟨
      (fun aF wF F=>by have s2:aF.tmps.getD 2 undef=(.pointer (some ⟨w.heap.size,0,none⟩)):=F.o 2;exact sv rfl),(fun aF wF F=>by have s31:=F.v 0 31;have c0:=Ad (HB0.out.kept K1.out) F.kept 1 _ rfl;exact sv rfl),(fun aF wF F=>by have s2:aF.tmps.getD 2 undef=(.pointer (some ⟨w.heap.size,0,none⟩)):=F.o 2;exact sv rfl),(fun aF wF F=>by have s33:=F.v 2 33;have c0:=Ad (HB0.out.kept K1.out) F.kept 2 _ rfl;exact sv rfl),(fun aF wF F=>by have s7:aF.tmps.getD 7 undef=(.int .i64 lo):=F.o 7;exact sv rfl),(fun aF wF F=>by have s34:=F.v 3 34;have s35:=F.v 4 35;exact sv rfl),(fun aF wF F=>by have s32:=F.v 1 32;have s36:=F.v 5 36;exact Aw (by simp [Region.wanted]) (by go_simp) (L1.out _ (HK.out.trans (K1.out.trans F.kept))) (fun _ _ h=>Dg.RetLim.good h) (fun _ _ h=>h)),(fun aF wF F=>by have s3:aF.tmps.getD 3 undef=(.pointer (some ⟨w.heap.size+1,0,none⟩)):=F.o 3;exact sv rfl),(fun aF wF F=>by have s38:=F.v 7 38;have c0:=Ad (HB1'.out.kept K1.out) F.kept 1 _ rfl;exact sv rfl),(fun aF wF F=>by have s3:aF.tmps.getD 3 undef=(.pointer (some ⟨w.heap.size+1,0,none⟩)):=F.o 3;exact sv rfl),(fun aF wF F=>by have s40:=F.v 9 40;have c0:=Ad (HB1'.out.kept K1.out) F.kept 2 _ rfl;exact sv rfl),(fun aF wF F=>by have s7:aF.tmps.getD 7 undef=(.int .i64 lo):=F.o 7;exact sv rfl),(fun aF wF F=>by have s41:=F.v 10 41;have s42:=F.v 11 42;exact sv rfl),(fun aF wF F=>by have s39:=F.v 8 39;have s43:=F.v 12 43;exact Aw (by simp [Region.wanted]) (by go_simp) (L2.out _ (HK.out.trans (K1.out.trans F.kept))) (fun _ _ h=>Dg.RetLim.good h) (fun _ _ h=>h)),(fun aF wF F=>by have s37:=F.p 6 37;have s44:=F.p 13 44;exact sQ (HO.out _ _ _ s37 s44) fun _ _ h=>h),(fun aF wF F=>by have s45:=F.v 14 45;exact sv rfl),
      trivial⟩) ?_
   intro u w1 k1 hu;have p37:=hp hu 6;have p44:=hp hu 13;simp only [Bc,Am,if_true,Act.put,z1,z2,z3,z4,z5,z6,z7,hv hu 0,hv hu 1,hv hu 2,hv hu 3,hv hu 4,hv hu 5,hv hu 7,hv hu 8,hv hu 9,hv hu 10,hv hu 11,hv hu 12,hv hu 14,hv hu 15];clear hu;generalize u 6=v37 at *;generalize u 13=v44 at *;clear p37 p44;go_wp2_with fail;go_ret;exact ⟨rfl,HK.out.trans (K1.out.trans k1)⟩
theorem Ah1 {w:World}{va vb:Value}{x y:Dy}(ha:DyR w va x.raw)(hb:DyR w vb y.raw)(hx:x.Ok)(hy:y.Ok) :
 Calls Tryz.prog 75 #[va,vb] w (RetK (.int .i64 (Cj x.q y.q)) w):=by
 have lx:=Dl hx;have ly:=Dl hy;have s1:=fun w1 (k:Kept w w1)=>Z0 (ha.kept k) (by omega)
 have s2:=fun w1 (k:Kept w w1)=>Z0 (hb.kept k) (by omega)
 have m1:=fun w1 (k:Kept w w1)=>Qg (ha.kept k) (by omega)
 have m2:=fun w1 (k:Kept w w1)=>Qg (hb.kept k) (by omega)
 have o1:=fun w1 (k:Kept w w1)=>Dg.of_c (ha.kept k) (by omega)
 have o2:=fun w1 (k:Kept w w1)=>Dg.of_c (hb.kept k) (by omega)
 have hsz:=fun w1 v u (hv:Dg.DN w1 v x.neg x.m x.e) (hu:Dg.DN w1 u y.neg y.m y.e) (h1:x.m≠0) (h2:y.m≠0)=>Agb hv hu hx hy h1 h2
 rw [show Go.Proofs.YtabjjdicffcolaaGreatDoor.val x.raw.m=x.m from Bq _] at o1;rw [show Go.Proofs.YtabjjdicffcolaaGreatDoor.val y.raw.m=y.m from Bq _] at o2;rw [Lk x hx] at s1;rw [Lk y hy] at s2;rw [hx.may] at m1;rw [hy.may] at m2;have g1:=@Xn x y;have g2:=@Aeo x y;have g3:=@Ux x y;have c1:=Hs x;have c2:=Hs y;have z1:sg x≠0→x.m≠0:=fun h h0=>h (by unfold sg;rw [if_pos h0])
 have z2:sg y≠0→y.m≠0:=fun h h0=>h (by unfold sg;rw [if_pos h0])
 have hsr:F5 x y=-1∨F5 x y=0∨F5 x y=1:=by
  unfold F5 Dm
  split
  ·exact .inl rfl
  ·split
   ·exact .inr (.inr rfl)
   ·split
    ·exact .inl rfl
    ·split
     ·exact .inr (.inl rfl)
     ·exact .inr (.inr rfl)
 obtain ⟨A,l,c,rfl,-,ha,-,-⟩:=ha.shape;obtain ⟨A2,l2,c2',rfl,-,hb,-,-⟩:=hb.shape;have S1:=hid s1;have S2:=hid s2;have M1:=hid m1;have M2:=hid m2;have O1:=hid o1;have O2:=hid o2;have HZ:=hid hsz;have G1:=hid g1;have G2:=hid g2;have G3:=hid g3;have Z1:=hid z1;have Z2:=hid z2;have C1:=hid c1;have C2:=hid c2;have HR:=hid hsr;clear s1 s2 m1 m2 o1 o2 hsz g1 g2 g3 z1 z2 c1 c2 hsr ha hb lx ly hx hy;generalize Cj x.q y.q=res at *;simp only [Dy.raw] at *;generalize x.neg=n1 at *;generalize x.e=e1 at *;generalize y.neg=n2 at *;generalize y.e=e2 at *;generalize F5 x y=zz at *;generalize sg x=g at *;generalize sg y=g' at *
 generalize x.m=nx at *;generalize y.m=ny at *;obtain ⟨W,hW,kW,B0,B1⟩:=Oh w (.bool n1) (.slice A l c) (.int .i64 e1) (.bool n2) (.slice A2 l2 c2') (.int .i64 e2);have HW:=hid hW;have HK:=hid kW;have HB0:=hid B0;have HB1':=hid B1;clear hW kW B0 B1
 by_cases h1:g<g'
 ·have hr := G1.out h1;subst hr;have d1:(g != g')=true:=by simp;omega
  have d2:decide (g<g')=true:=by simp [h1]
  clear h1
  go_enter Tryz.func75,Tryz.ntmps75
  go_upto_region 1 with fail
  rw [←HW.out];obtain ⟨-,a0,a1,a2,-⟩:=HB0.out.facts;obtain ⟨-,b0,b1,b2,-⟩:=HB1'.out.facts;go_wp2_with fail;refine (M1.out _ HK.out).mono ?_;rintro e w2 ⟨rfl,q⟩;have KX:=hid q;clear a0 a1 a2 b0 b1 b2 q;obtain ⟨-,a0,a1,a2,-⟩:=(HB0.out.kept KX.out).facts;obtain ⟨-,b0,b1,b2,-⟩:=(HB1'.out.kept KX.out).facts;simp only [];go_wp2_with fail;refine (M2.out _ (HK.out.trans KX.out)).mono ?_;rintro e w3 ⟨rfl,q⟩;replace KX:=hid (KX.out.trans q);clear a0 a1 a2 b0 b1 b2 q;simp only [];go_wp2_with fail
  refine Bk (m:=6) (V:=VL [(vE (.agg #[.bool n1,.slice A l c,.int .i64 e1])),(vE (.int .i64 g)),(vE (.agg #[.bool n2,.slice A2 l2 c2',.int .i64 e2])),(vE (.int .i64 g')),(vE (.int .i64 g)),(vE (.int .i64 g'))])
   (by kernel_rfl) rfl (by kernel_rfl) (by kernel_rfl) (by kernel_rfl) (Au _ ⟨mE,mE,mE,mE,mE,mE,trivial⟩) (Al ⟨
     (fun aF wF F=>by have s2:aF.tmps.getD 2 undef=(.pointer (some ⟨w.heap.size,0,none⟩)):=F.o 2;have c0:=Ad (HB0.out.kept KX.out) F.kept 0 _ rfl;have c1:=Ad (HB0.out.kept KX.out) F.kept 1 _ rfl;have c2:=Ad (HB0.out.kept KX.out) F.kept 2 _ rfl;exact sv rfl),(fun aF wF F=>by have s15:=F.v 0 15;exact sK (S1.out _ (HK.out.trans (KX.out.trans F.kept))) fun _ _ h=>h),(fun aF wF F=>by have s3:aF.tmps.getD 3 undef=(.pointer (some ⟨w.heap.size+1,0,none⟩)):=F.o 3;have c0:=Ad (HB1'.out.kept KX.out) F.kept 0 _ rfl;have c1:=Ad (HB1'.out.kept KX.out) F.kept 1 _ rfl;have c2:=Ad (HB1'.out.kept KX.out) F.kept 2 _ rfl;exact sv rfl),(fun aF wF F=>by have s17:=F.v 2 17;exact sK (S2.out _ (HK.out.trans (KX.out.trans F.kept))) fun _ _ h=>h),(fun aF wF F=>by have s16:=F.v 1 16;exact sv rfl),(fun aF wF F=>by have s18:=F.v 3 18;exact sv rfl),
     trivial⟩) ?_
  intro u w1 k1 hu;simp only [Bc,Am,if_true,Act.put,z1,z2,z3,z4,z5,z6,z7,hv hu 0,hv hu 1,hv hu 2,hv hu 3,hv hu 4,hv hu 5];clear hu;replace KX:=hid (KX.out.trans k1);clear k1 u;obtain ⟨-,a0,a1,a2,-⟩:=(HB0.out.kept KX.out).facts;obtain ⟨-,b0,b1,b2,-⟩:=(HB1'.out.kept KX.out).facts;go_wp2_with fail;go_ret;exact ⟨rfl,HK.out.trans KX.out⟩
 ·have d2 : decide (g < g') = false := by simp; omega
  by_cases h2:g=g'
  ·have hr := G3.out h2;obtain rfl:=h2;have d1:(g != g)=false:=by simp
   have d4:decide (g<g)=false:=by simp
   by_cases h3:g=0
   ·rw [if_pos h3] at hr;subst hr;have d3:(g==0)=true:=by rw [beq_iff_eq];exact h3
    clear h1 h3
    go_enter Tryz.func75,Tryz.ntmps75
    go_upto_region 1 with fail
    rw [←HW.out];obtain ⟨-,a0,a1,a2,-⟩:=HB0.out.facts;obtain ⟨-,b0,b1,b2,-⟩:=HB1'.out.facts;go_wp2_with fail;refine (M1.out _ HK.out).mono ?_;rintro e w2 ⟨rfl,q⟩;have KX:=hid q;clear a0 a1 a2 b0 b1 b2 q;obtain ⟨-,a0,a1,a2,-⟩:=(HB0.out.kept KX.out).facts;obtain ⟨-,b0,b1,b2,-⟩:=(HB1'.out.kept KX.out).facts;simp only [];go_wp2_with fail;refine (M2.out _ (HK.out.trans KX.out)).mono ?_;rintro e w3 ⟨rfl,q⟩;replace KX:=hid (KX.out.trans q);clear a0 a1 a2 b0 b1 b2 q;simp only [];go_wp2_with fail
    refine Bk (m:=6) (V:=VL [(vE (.agg #[.bool n1,.slice A l c,.int .i64 e1])),(vE (.int .i64 g)),(vE (.agg #[.bool n2,.slice A2 l2 c2',.int .i64 e2])),(vE (.int .i64 g)),(vE (.int .i64 g)),(vE (.int .i64 g))])
     (by kernel_rfl) rfl (by kernel_rfl) (by kernel_rfl) (by kernel_rfl) (Au _ ⟨mE,mE,mE,mE,mE,mE,trivial⟩) (Al ⟨
       (fun aF wF F=>by have s2:aF.tmps.getD 2 undef=(.pointer (some ⟨w.heap.size,0,none⟩)):=F.o 2;have c0:=Ad (HB0.out.kept KX.out) F.kept 0 _ rfl;have c1:=Ad (HB0.out.kept KX.out) F.kept 1 _ rfl;have c2:=Ad (HB0.out.kept KX.out) F.kept 2 _ rfl;exact sv rfl),(fun aF wF F=>by have s15:=F.v 0 15;exact sK (S1.out _ (HK.out.trans (KX.out.trans F.kept))) fun _ _ h=>h),(fun aF wF F=>by have s3:aF.tmps.getD 3 undef=(.pointer (some ⟨w.heap.size+1,0,none⟩)):=F.o 3;have c0:=Ad (HB1'.out.kept KX.out) F.kept 0 _ rfl;have c1:=Ad (HB1'.out.kept KX.out) F.kept 1 _ rfl;have c2:=Ad (HB1'.out.kept KX.out) F.kept 2 _ rfl;exact sv rfl),(fun aF wF F=>by have s17:=F.v 2 17;exact sK (S2.out _ (HK.out.trans (KX.out.trans F.kept))) fun _ _ h=>h),(fun aF wF F=>by have s16:=F.v 1 16;exact sv rfl),(fun aF wF F=>by have s18:=F.v 3 18;exact sv rfl),
       trivial⟩) ?_
    intro u w1 k1 hu;simp only [Bc,Am,if_true,Act.put,z1,z2,z3,z4,z5,z6,z7,hv hu 0,hv hu 1,hv hu 2,hv hu 3,hv hu 4,hv hu 5];clear hu;replace KX:=hid (KX.out.trans k1);clear k1 u;obtain ⟨-,a0,a1,a2,-⟩:=(HB0.out.kept KX.out).facts;obtain ⟨-,b0,b1,b2,-⟩:=(HB1'.out.kept KX.out).facts;go_wp2_with fail;go_ret;exact ⟨rfl,HK.out.trans KX.out⟩
   ·rw [if_neg h3] at hr;subst hr;have d3:(g==0)=false:=by rw [beq_eq_false_iff_ne];exact h3
    have hz:=fun w1 v u hv hu=>HZ.out w1 v u hv hu (Z1.out h3) (Z2.out h3)
    have hw:IntKind.i64.wrap (g*zz)=g*zz:=by
     rcases C1.out with h | h | h<;>rcases HR.out with h' | h' | h'<;>rw [h,h']<;>first | rfl | decide
    clear HZ;have HZ:=hid hz;have HWW:=hid hw;clear h1 h3 hz hw
    go_enter Tryz.func75,Tryz.ntmps75
    go_upto_region 1 with fail
    rw [←HW.out];obtain ⟨-,a0,a1,a2,-⟩:=HB0.out.facts;obtain ⟨-,b0,b1,b2,-⟩:=HB1'.out.facts;go_wp2_with fail;refine (M1.out _ HK.out).mono ?_;rintro e w2 ⟨rfl,q⟩;have KX:=hid q;clear a0 a1 a2 b0 b1 b2 q;obtain ⟨-,a0,a1,a2,-⟩:=(HB0.out.kept KX.out).facts;obtain ⟨-,b0,b1,b2,-⟩:=(HB1'.out.kept KX.out).facts;simp only [];go_wp2_with fail;refine (M2.out _ (HK.out.trans KX.out)).mono ?_;rintro e w3 ⟨rfl,q⟩;replace KX:=hid (KX.out.trans q);clear a0 a1 a2 b0 b1 b2 q;simp only [];go_wp2_with fail
    refine Bk (m:=6) (V:=VL [(vE (.agg #[.bool n1,.slice A l c,.int .i64 e1])),(vE (.int .i64 g)),(vE (.agg #[.bool n2,.slice A2 l2 c2',.int .i64 e2])),(vE (.int .i64 g)),(vE (.int .i64 g)),(vE (.int .i64 g))])
     (by kernel_rfl) rfl (by kernel_rfl) (by kernel_rfl) (by kernel_rfl) (Au _ ⟨mE,mE,mE,mE,mE,mE,trivial⟩) (Al ⟨
       (fun aF wF F=>by have s2:aF.tmps.getD 2 undef=(.pointer (some ⟨w.heap.size,0,none⟩)):=F.o 2;have c0:=Ad (HB0.out.kept KX.out) F.kept 0 _ rfl;have c1:=Ad (HB0.out.kept KX.out) F.kept 1 _ rfl;have c2:=Ad (HB0.out.kept KX.out) F.kept 2 _ rfl;exact sv rfl),(fun aF wF F=>by have s15:=F.v 0 15;exact sK (S1.out _ (HK.out.trans (KX.out.trans F.kept))) fun _ _ h=>h),(fun aF wF F=>by have s3:aF.tmps.getD 3 undef=(.pointer (some ⟨w.heap.size+1,0,none⟩)):=F.o 3;have c0:=Ad (HB1'.out.kept KX.out) F.kept 0 _ rfl;have c1:=Ad (HB1'.out.kept KX.out) F.kept 1 _ rfl;have c2:=Ad (HB1'.out.kept KX.out) F.kept 2 _ rfl;exact sv rfl),(fun aF wF F=>by have s17:=F.v 2 17;exact sK (S2.out _ (HK.out.trans (KX.out.trans F.kept))) fun _ _ h=>h),(fun aF wF F=>by have s16:=F.v 1 16;exact sv rfl),(fun aF wF F=>by have s18:=F.v 3 18;exact sv rfl),
       trivial⟩) ?_
    intro u w1 k1 hu;simp only [Bc,Am,if_true,Act.put,z1,z2,z3,z4,z5,z6,z7,hv hu 0,hv hu 1,hv hu 2,hv hu 3,hv hu 4,hv hu 5];clear hu;replace KX:=hid (KX.out.trans k1);clear k1 u;obtain ⟨-,a0,a1,a2,-⟩:=(HB0.out.kept KX.out).facts;obtain ⟨-,b0,b1,b2,-⟩:=(HB1'.out.kept KX.out).facts;go_wp2_with fail;clear a0 a1 a2 b0 b1 b2 d1 d2 d3 d4
    refine Bk (m:=8) (V:=VL [(vE (.int .i64 g)),(vE (.agg #[.bool n1,.slice A l c,.int .i64 e1])),(fun v wv=>Dg.DN wv v n1 nx e1),(vE (.agg #[.bool n2,.slice A2 l2 c2',.int .i64 e2])),(fun v wv=>Dg.DN wv v n2 ny e2),(vE (.int .i64 zz)),(vE (.int .i64 (g*zz))),(vE (.int .i64 (g*zz)))])
     (by kernel_rfl) rfl (by kernel_rfl) (by kernel_rfl) (by kernel_rfl) (Au _ ⟨mE,mE,fun v w w' k h=>by first | exact h | exact h.kept k | exact ⟨h.1,h.2.kept k⟩,mE,fun v w w' k h=>by first | exact h | exact h.kept k | exact ⟨h.1,h.2.kept k⟩,mE,mE,mE,trivial⟩) (Al ⟨
       (fun aF wF F=>by have s5:aF.tmps.getD 5 undef=.int .i64 g:=F.o 5;exact sv rfl),(fun aF wF F=>by have s2:aF.tmps.getD 2 undef=(.pointer (some ⟨w.heap.size,0,none⟩)):=F.o 2;have c0:=Ad (HB0.out.kept KX.out) F.kept 0 _ rfl;have c1:=Ad (HB0.out.kept KX.out) F.kept 1 _ rfl;have c2:=Ad (HB0.out.kept KX.out) F.kept 2 _ rfl;exact sv rfl),(fun aF wF F=>by have s33:=F.v 1 33;exact Aw (by simp [Region.wanted]) (by go_simp) (O1.out _ (HK.out.trans (KX.out.trans F.kept))) (fun _ _ h=>Dg.RetN.good h) (fun _ _ h=>h)),(fun aF wF F=>by have s3:aF.tmps.getD 3 undef=(.pointer (some ⟨w.heap.size+1,0,none⟩)):=F.o 3;have c0:=Ad (HB1'.out.kept KX.out) F.kept 0 _ rfl;have c1:=Ad (HB1'.out.kept KX.out) F.kept 1 _ rfl;have c2:=Ad (HB1'.out.kept KX.out) F.kept 2 _ rfl;exact sv rfl),(fun aF wF F=>by have s35:=F.v 3 35;exact Aw (by simp [Region.wanted]) (by go_simp) (O2.out _ (HK.out.trans (KX.out.trans F.kept))) (fun _ _ h=>Dg.RetN.good h) (fun _ _ h=>h)),(fun aF wF F=>by have s34:=F.p 2 34;have s36:=F.p 4 36;exact sK (HZ.out _ _ _ s34 s36) fun _ _ h=>h),(fun aF wF F=>by have s32:=F.v 0 32;have s37:=F.v 5 37;exact sw (by (go_simp;exact HWW.out)) rfl),(fun aF wF F=>by have s38:=F.v 6 38;exact sv rfl),
       trivial⟩) ?_
    intro u w1 k1 hu;have p34:=hp hu 2;have p36:=hp hu 4;simp only [Bc,Am,if_true,Act.put,z1,z2,z3,z4,z5,z6,z7,hv hu 0,hv hu 1,hv hu 3,hv hu 5,hv hu 6,hv hu 7];clear hu;generalize u 2=v34 at *;generalize u 4=v36 at *;clear p34 p36;go_wp2_with fail;go_ret;exact ⟨rfl,HK.out.trans (KX.out.trans k1)⟩
  ·have hr := G2.out (by omega);subst hr;have d1:(g != g')=true:=by simp;omega
   have d3:decide (g'<g)=true:=by simp;omega
   clear h1 h2
   go_enter Tryz.func75,Tryz.ntmps75
   go_upto_region 1 with fail
   rw [←HW.out];obtain ⟨-,a0,a1,a2,-⟩:=HB0.out.facts;obtain ⟨-,b0,b1,b2,-⟩:=HB1'.out.facts;go_wp2_with fail;refine (M1.out _ HK.out).mono ?_;rintro e w2 ⟨rfl,q⟩;have KX:=hid q;clear a0 a1 a2 b0 b1 b2 q;obtain ⟨-,a0,a1,a2,-⟩:=(HB0.out.kept KX.out).facts;obtain ⟨-,b0,b1,b2,-⟩:=(HB1'.out.kept KX.out).facts;simp only [];go_wp2_with fail;refine (M2.out _ (HK.out.trans KX.out)).mono ?_;rintro e w3 ⟨rfl,q⟩;replace KX:=hid (KX.out.trans q);clear a0 a1 a2 b0 b1 b2 q;simp only [];go_wp2_with fail
   refine Bk (m:=6) (V:=VL [(vE (.agg #[.bool n1,.slice A l c,.int .i64 e1])),(vE (.int .i64 g)),(vE (.agg #[.bool n2,.slice A2 l2 c2',.int .i64 e2])),(vE (.int .i64 g')),(vE (.int .i64 g)),(vE (.int .i64 g'))])
    (by kernel_rfl) rfl (by kernel_rfl) (by kernel_rfl) (by kernel_rfl) (Au _ ⟨mE,mE,mE,mE,mE,mE,trivial⟩) (Al ⟨
      (fun aF wF F=>by have s2:aF.tmps.getD 2 undef=(.pointer (some ⟨w.heap.size,0,none⟩)):=F.o 2;have c0:=Ad (HB0.out.kept KX.out) F.kept 0 _ rfl;have c1:=Ad (HB0.out.kept KX.out) F.kept 1 _ rfl;have c2:=Ad (HB0.out.kept KX.out) F.kept 2 _ rfl;exact sv rfl),(fun aF wF F=>by have s15:=F.v 0 15;exact sK (S1.out _ (HK.out.trans (KX.out.trans F.kept))) fun _ _ h=>h),(fun aF wF F=>by have s3:aF.tmps.getD 3 undef=(.pointer (some ⟨w.heap.size+1,0,none⟩)):=F.o 3;have c0:=Ad (HB1'.out.kept KX.out) F.kept 0 _ rfl;have c1:=Ad (HB1'.out.kept KX.out) F.kept 1 _ rfl;have c2:=Ad (HB1'.out.kept KX.out) F.kept 2 _ rfl;exact sv rfl),(fun aF wF F=>by have s17:=F.v 2 17;exact sK (S2.out _ (HK.out.trans (KX.out.trans F.kept))) fun _ _ h=>h),(fun aF wF F=>by have s16:=F.v 1 16;exact sv rfl),(fun aF wF F=>by have s18:=F.v 3 18;exact sv rfl),
      trivial⟩) ?_
   intro u w1 k1 hu;simp only [Bc,Am,if_true,Act.put,z1,z2,z3,z4,z5,z6,z7,hv hu 0,hv hu 1,hv hu 2,hv hu 3,hv hu 4,hv hu 5];clear hu;replace KX:=hid (KX.out.trans k1);clear k1 u;obtain ⟨-,a0,a1,a2,-⟩:=(HB0.out.kept KX.out).facts;obtain ⟨-,b0,b1,b2,-⟩:=(HB1'.out.kept KX.out).facts;go_wp2_with fail;go_ret;exact ⟨rfl,HK.out.trans KX.out⟩
theorem Agx {w:World}{v:Value}{a:RawI}(hv:IvR w v a)(hl:a.lens 17592186044416) :
 Calls Tryz.prog 38 #[v] w (RetK (.bool (Fz a)) w):=by
 obtain ⟨A,l,c,A',l',c',rfl,h1,h2⟩:=Az hv;have M1:=hid (fun w1 (k:Kept w w1)=>Qg (h1.kept k) hl.1);have M2:=hid (fun w1 (k:Kept w w1)=>Qg (h2.kept k) hl.2);have hc:(Fc a.lo&&Fc a.hi)=true→∀ w1,Kept w w1→Calls Tryz.prog 75 #[.agg #[.bool a.lo.neg,.slice A l c,.int .i64 a.lo.e],.agg #[.bool a.hi.neg,.slice A' l' c',.int .i64 a.hi.e]] w1 (RetK (.int .i64 (Cj a.lo.dy.q a.hi.dy.q)) w1):=by
  intro d w1 k;simp only [Bool.and_eq_true] at d;obtain ⟨e1,o1⟩:=Gl (Ha h1) d.1;obtain ⟨e2,o2⟩:=Gl (Ha h2) d.2;have g1:=h1.kept k;have g2:=h2.kept k;exact Ah1 (x:=a.lo.dy) (y:=a.hi.dy) (by rw [e1];exact g1) (by rw [e2];exact g2) o1 o2
 unfold Fz;have HC:=hid hc;clear hc h1 h2 hv hl;generalize a.lo.neg=n1 at *;generalize a.lo.e=e1 at *;generalize a.hi.neg=n2 at *;generalize a.hi.e=e2 at *;generalize Cj a.lo.dy.q a.hi.dy.q=cc at *;generalize Fc a.lo=b1 at *;generalize Fc a.hi=b2 at *;obtain ⟨b3,h3⟩:∃ b3,decide (cc≤0)=b3:=⟨_,rfl⟩;rw [h3];have H3:=hid h3;clear h3;obtain ⟨W,hW,kW,BI⟩:=Aee w (.bool n1) (.slice A l c) (.int .i64 e1) (.bool n2) (.slice A' l' c') (.int .i64 e2);have HW:=hid hW;have K:=hid kW;have HB:=hid BI;clear hW kW BI
 go_enter Tryz.func38,Tryz.ntmps38
 go_upto_region 1 with fail
 rw [←HW.out]
 refine Eh (m:=17) (V:=VL [(vP w.heap.size 0),(vE (.agg #[.bool n1,.slice A l c,.int .i64 e1])),(vE (.bool b1)),(vE (.bool b1)),(fun v wv=>(b1=true→(fun v _=>v=(.pointer (some ⟨w.heap.size,3,none⟩))) v wv)∧(b1=false→v=undef)),(fun v wv=>(b1=true→(fun v _=>v=(.agg #[.bool n2,.slice A' l' c',.int .i64 e2])) v wv)∧(b1=false→v=undef)),(fun v wv=>(b1=true→(fun v _=>v=(.bool b2)) v wv)∧(b1=false→v=undef)),(vE (.bool (b1&&b2))),(vE (.bool (b1&&b2))),(fun v wv=>((b1&&b2)=true→(fun v _=>v=(.pointer (some ⟨w.heap.size,0,none⟩))) v wv)∧((b1&&b2)=false→v=undef)),(fun v wv=>((b1&&b2)=true→(fun v _=>v=(.agg #[.bool n1,.slice A l c,.int .i64 e1])) v wv)∧((b1&&b2)=false→v=undef)),(fun v wv=>((b1&&b2)=true→(fun v _=>v=(.pointer (some ⟨w.heap.size,3,none⟩))) v wv)∧((b1&&b2)=false→v=undef)),(fun v wv=>((b1&&b2)=true→(fun v _=>v=(.agg #[.bool n2,.slice A' l' c',.int .i64 e2])) v wv)∧((b1&&b2)=false→v=undef)),(fun v wv=>((b1&&b2)=true→(fun v _=>v=(.int .i64 cc)) v wv)∧((b1&&b2)=false→v=undef)),(fun v wv=>((b1&&b2)=true→(fun v _=>v=(.bool b3)) v wv)∧((b1&&b2)=false→v=undef)),(vE (.bool (b1&&b2&&b3))),(vE (.bool (b1&&b2&&b3)))])
  rfl (by kernel_rfl) (by kernel_rfl) (by kernel_rfl) (Au _ ⟨mE,mE,mE,mE,fun v w w' k h=>⟨fun hC=>(fun v w w' k h=>by first | exact h | exact h.kept k | exact ⟨h.1,h.2.kept k⟩) v w w' k (h.1 hC),h.2⟩,fun v w w' k h=>⟨fun hC=>(fun v w w' k h=>by first | exact h | exact h.kept k | exact ⟨h.1,h.2.kept k⟩) v w w' k (h.1 hC),h.2⟩,fun v w w' k h=>⟨fun hC=>(fun v w w' k h=>by first | exact h | exact h.kept k | exact ⟨h.1,h.2.kept k⟩) v w w' k (h.1 hC),h.2⟩,mE,mE,fun v w w' k h=>⟨fun hC=>(fun v w w' k h=>by first | exact h | exact h.kept k | exact ⟨h.1,h.2.kept k⟩) v w w' k (h.1 hC),h.2⟩,fun v w w' k h=>⟨fun hC=>(fun v w w' k h=>by first | exact h | exact h.kept k | exact ⟨h.1,h.2.kept k⟩) v w w' k (h.1 hC),h.2⟩,fun v w w' k h=>⟨fun hC=>(fun v w w' k h=>by first | exact h | exact h.kept k | exact ⟨h.1,h.2.kept k⟩) v w w' k (h.1 hC),h.2⟩,fun v w w' k h=>⟨fun hC=>(fun v w w' k h=>by first | exact h | exact h.kept k | exact ⟨h.1,h.2.kept k⟩) v w w' k (h.1 hC),h.2⟩,fun v w w' k h=>⟨fun hC=>(fun v w w' k h=>by first | exact h | exact h.kept k | exact ⟨h.1,h.2.kept k⟩) v w w' k (h.1 hC),h.2⟩,fun v w w' k h=>⟨fun hC=>(fun v w w' k h=>by first | exact h | exact h.kept k | exact ⟨h.1,h.2.kept k⟩) v w w' k (h.1 hC),h.2⟩,mE,mE,trivial⟩) (Al ⟨
   (fun aF wF F=>by have s1:aF.tmps.getD 1 undef=(.pointer (some ⟨w.heap.size,0,none⟩)):=F.o 1;exact sv rfl),(fun aF wF F=>by have s3:=F.v 0 3;have c0:=Ad HB.out F.kept 0 _ rfl;have c1:=Ad HB.out F.kept 1 _ rfl;have c2:=Ad HB.out F.kept 2 _ rfl;exact sv rfl),(fun aF wF F=>by have s4:=F.v 1 4;exact sK (M1.out _ (K.out.trans F.kept)) fun _ _ h=>h),(fun aF wF F=>by have s5:=F.v 2 5;exact sv rfl),
   (fun aF wF F=>by
  have sg:=F.v 3 6;have s1:aF.tmps.getD 1 undef=(.pointer (some ⟨w.heap.size,0,none⟩)):=F.o 1
  rcases Bf b1 with hC | hC
  ·refine Aq (V1 := fun _ => (fun v _ => v = (.pointer (some ⟨w.heap.size, 3, none⟩)))) ?_ (fun _ _ h => ⟨fun _ => h, fun hN => absurd (hC.symm.trans hN) (by decide)⟩);exact Ah ((Ab rfl rfl sg).trans (by first | rfl | simp [hC])) (by go_simp) rfl
  ·exact Ap       ((Ab           rfl rfl sg).trans (by first | rfl | simp [hC])) ⟨fun h => absurd (hC.symm.trans h) (by decide), fun _ => rfl⟩),
   (fun aF wF F=>by
  have sg:=F.v 3 6;have s7:(b1=true→aF.tmps.getD 7 undef=(.pointer (some ⟨w.heap.size,3,none⟩)))∧(b1=false→aF.tmps.getD 7 undef=undef):=F.done 4 7 (by kernel_rfl) rfl;have c0:=Ad HB.out F.kept 3 _ rfl;have c1:=Ad HB.out F.kept 4 _ rfl;have c2:=Ad HB.out F.kept 5 _ rfl
  rcases Bf b1 with hC | hC
  ·refine Aq (V1 := fun _ => (fun v _ => v = (.agg #[.bool n2, .slice A' l' c', .int .i64 e2]))) ?_ (fun _ _ h => ⟨fun _ => h, fun hN => absurd (hC.symm.trans hN) (by decide)⟩);replace s7:=s7.1 hC;exact Ah ((Ab rfl rfl sg).trans (by first | rfl | simp [hC])) (by go_simp) rfl
  ·exact Ap       ((Ab           rfl rfl sg).trans (by first | rfl | simp [hC])) ⟨fun h => absurd (hC.symm.trans h) (by decide), fun _ => rfl⟩),
   (fun aF wF F=>by
  have sg:=F.v 3 6;have s8:(b1=true→aF.tmps.getD 8 undef=(.agg #[.bool n2,.slice A' l' c',.int .i64 e2]))∧(b1=false→aF.tmps.getD 8 undef=undef):=F.done 5 8 (by kernel_rfl) rfl
  rcases Bf b1 with hC | hC
  ·refine Aq (V1 := fun _ => (fun v _ => v = (.bool b2))) ?_ (fun _ _ h => ⟨fun _ => h, fun hN => absurd (hC.symm.trans hN) (by decide)⟩);replace s8:=s8.1 hC;exact Aw ((Ab rfl rfl sg).trans (by first | rfl | simp [hC])) (by go_simp) (M2.out _ (K.out.trans F.kept)) (fun _ _ h=>RetK.good h) (fun _ _ h=>h)
  ·exact Ap       ((Ab           rfl rfl sg).trans (by first | rfl | simp [hC])) ⟨fun h => absurd (hC.symm.trans h) (by decide), fun _ => rfl⟩),
   (fun aF wF F=>by
  have s6:=F.v 3 6;have s9:(b1=true→aF.tmps.getD 9 undef=(.bool b2))∧(b1=false→aF.tmps.getD 9 undef=undef):=F.done 6 9 (by kernel_rfl) rfl
  rcases Bf b1 with hE | hE
  ·replace s9 := s9.1 hE;exact sw (by first | (go_simp;done) | (go_simp;simp_all;done) | (simp_all;done)) rfl
  ·exact sw (by first | (go_simp; done) | (go_simp; simp_all; done) | (simp_all; done)) rfl), (fun aF wF F => by have s10 := F.v 7 10; exact sv rfl),
   (fun aF wF F=>by
  have sg:=F.v 8 11;have s1:aF.tmps.getD 1 undef=(.pointer (some ⟨w.heap.size,0,none⟩)):=F.o 1
  rcases Bf (b1&&b2) with hC | hC
  ·refine Aq (V1 := fun _ => (fun v _ => v = (.pointer (some ⟨w.heap.size, 0, none⟩)))) ?_ (fun _ _ h => ⟨fun _ => h, fun hN => absurd (hC.symm.trans hN) (by decide)⟩);exact Ah ((Ab rfl rfl sg).trans (by first | rfl | simp [hC])) (by go_simp) rfl
  ·exact Ap       ((Ab           rfl rfl sg).trans (by first | rfl | simp [hC])) ⟨fun h => absurd (hC.symm.trans h) (by decide), fun _ => rfl⟩),
   (fun aF wF F=>by
  have sg:=F.v 8 11;have s12:((b1&&b2)=true→aF.tmps.getD 12 undef=(.pointer (some ⟨w.heap.size,0,none⟩)))∧((b1&&b2)=false→aF.tmps.getD 12 undef=undef):=F.done 9 12 (by kernel_rfl) rfl;have c0:=Ad HB.out F.kept 0 _ rfl;have c1:=Ad HB.out F.kept 1 _ rfl;have c2:=Ad HB.out F.kept 2 _ rfl
  rcases Bf (b1&&b2) with hC | hC
  ·refine Aq (V1 := fun _ => (fun v _ => v = (.agg #[.bool n1, .slice A l c, .int .i64 e1]))) ?_ (fun _ _ h => ⟨fun _ => h, fun hN => absurd (hC.symm.trans hN) (by decide)⟩);replace s12:=s12.1 hC;exact Ah ((Ab rfl rfl sg).trans (by first | rfl | simp [hC])) (by go_simp) rfl
  ·exact Ap       ((Ab           rfl rfl sg).trans (by first | rfl | simp [hC])) ⟨fun h => absurd (hC.symm.trans h) (by decide), fun _ => rfl⟩),
   (fun aF wF F=>by
  have sg:=F.v 8 11;have s1:aF.tmps.getD 1 undef=(.pointer (some ⟨w.heap.size,0,none⟩)):=F.o 1
  rcases Bf (b1&&b2) with hC | hC
  ·refine Aq (V1 := fun _ => (fun v _ => v = (.pointer (some ⟨w.heap.size, 3, none⟩)))) ?_ (fun _ _ h => ⟨fun _ => h, fun hN => absurd (hC.symm.trans hN) (by decide)⟩);exact Ah ((Ab rfl rfl sg).trans (by first | rfl | simp [hC])) (by go_simp) rfl
  ·exact Ap       ((Ab           rfl rfl sg).trans (by first | rfl | simp [hC])) ⟨fun h => absurd (hC.symm.trans h) (by decide), fun _ => rfl⟩),
   (fun aF wF F=>by
  have sg:=F.v 8 11;have s14:((b1&&b2)=true→aF.tmps.getD 14 undef=(.pointer (some ⟨w.heap.size,3,none⟩)))∧((b1&&b2)=false→aF.tmps.getD 14 undef=undef):=F.done 11 14 (by kernel_rfl) rfl;have c0:=Ad HB.out F.kept 3 _ rfl;have c1:=Ad HB.out F.kept 4 _ rfl;have c2:=Ad HB.out F.kept 5 _ rfl
  rcases Bf (b1&&b2) with hC | hC
  ·refine Aq (V1 := fun _ => (fun v _ => v = (.agg #[.bool n2, .slice A' l' c', .int .i64 e2]))) ?_ (fun _ _ h => ⟨fun _ => h, fun hN => absurd (hC.symm.trans hN) (by decide)⟩);replace s14:=s14.1 hC;exact Ah ((Ab rfl rfl sg).trans (by first | rfl | simp [hC])) (by go_simp) rfl
  ·exact Ap       ((Ab           rfl rfl sg).trans (by first | rfl | simp [hC])) ⟨fun h => absurd (hC.symm.trans h) (by decide), fun _ => rfl⟩),
   (fun aF wF F=>by
  have sg:=F.v 8 11;have s13:((b1&&b2)=true→aF.tmps.getD 13 undef=(.agg #[.bool n1,.slice A l c,.int .i64 e1]))∧((b1&&b2)=false→aF.tmps.getD 13 undef=undef):=F.done 10 13 (by kernel_rfl) rfl;have s15:((b1&&b2)=true→aF.tmps.getD 15 undef=(.agg #[.bool n2,.slice A' l' c',.int .i64 e2]))∧((b1&&b2)=false→aF.tmps.getD 15 undef=undef):=F.done 12 15 (by kernel_rfl) rfl
  rcases Bf (b1&&b2) with hC | hC
  ·refine Aq (V1 := fun _ => (fun v _ => v = (.int .i64 cc))) ?_ (fun _ _ h => ⟨fun _ => h, fun hN => absurd (hC.symm.trans hN) (by decide)⟩);replace s13:=s13.1 hC;replace s15:=s15.1 hC;exact Aw ((Ab rfl rfl sg).trans (by first | rfl | simp [hC])) (by go_simp) (HC.out hC _ (K.out.trans F.kept)) (fun _ _ h=>RetK.good h) (fun _ _ h=>h)
  ·exact Ap       ((Ab           rfl rfl sg).trans (by first | rfl | simp [hC])) ⟨fun h => absurd (hC.symm.trans h) (by decide), fun _ => rfl⟩),
   (fun aF wF F=>by
  have sg:=F.v 8 11;have s16:((b1&&b2)=true→aF.tmps.getD 16 undef=(.int .i64 cc))∧((b1&&b2)=false→aF.tmps.getD 16 undef=undef):=F.done 13 16 (by kernel_rfl) rfl
  rcases Bf (b1&&b2) with hC | hC
  ·refine Aq (V1 := fun _ => (fun v _ => v = (.bool b3))) ?_ (fun _ _ h => ⟨fun _ => h, fun hN => absurd (hC.symm.trans hN) (by decide)⟩);replace s16:=s16.1 hC;exact Ah ((Ab rfl rfl sg).trans (by first | rfl | simp [hC])) (by (go_simp;exact H3.out)) rfl
  ·exact Ap       ((Ab           rfl rfl sg).trans (by first | rfl | simp [hC])) ⟨fun h => absurd (hC.symm.trans h) (by decide), fun _ => rfl⟩),
   (fun aF wF F=>by
  have s11:=F.v 8 11;have s17:((b1&&b2)=true→aF.tmps.getD 17 undef=(.bool b3))∧((b1&&b2)=false→aF.tmps.getD 17 undef=undef):=F.done 14 17 (by kernel_rfl) rfl
  rcases Bf (b1&&b2) with hE | hE
  ·replace s17 := s17.1 hE;exact sw (by first | (go_simp;done) | (go_simp;simp_all;done) | (simp_all;done)) rfl
  ·exact sw (by first | (go_simp; done) | (go_simp; simp_all; done) | (simp_all; done)) rfl), (fun aF wF F => by have s18 := F.v 15 18; exact sv rfl),
   trivial⟩) ?_
 intro u w1 k1 hu;have p7:=hp hu 4;have p8:=hp hu 5;have p9:=hp hu 6;have p12:=hp hu 9;have p13:=hp hu 10;have p14:=hp hu 11;have p15:=hp hu 12;have p16:=hp hu 13;have p17:=hp hu 14;simp only [Bc,Am,if_true,Act.put,z1,z2,z3,z4,z5,z6,z7,hv hu 0,hv hu 1,hv hu 2,hv hu 3,hv hu 7,hv hu 8,hv hu 15,hv hu 16];clear hu;generalize u 4=v7 at *;generalize u 5=v8 at *;generalize u 6=v9 at *;generalize u 9=v12 at *;generalize u 10=v13 at *;generalize u 11=v14 at *;generalize u 12=v15 at *;generalize u 13=v16 at *;generalize u 14=v17 at *;clear p7 p8 p9 p12 p13 p14 p15 p16 p17;go_wp2_with fail;go_ret;exact ⟨rfl,K.out.trans k1⟩
end Go.Proofs.YtabjjdicffcolaaGreatDoor
