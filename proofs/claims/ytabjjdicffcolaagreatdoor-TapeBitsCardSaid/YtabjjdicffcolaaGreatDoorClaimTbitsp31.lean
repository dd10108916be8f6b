/- Contracts: ival.both, ival.Round; tape.One. -/
import Derived.Test.YtabjjdicffcolaaGreatDoorClaimTbitsp08
import Derived.Test.YtabjjdicffcolaaGreatDoorClaimTbitsp19
import Derived.Test.YtabjjdicffcolaaGreatDoorClaimTbitsp20
import Derived.Test.YtabjjdicffcolaaGreatDoorClaimTbitsp28
import Derived.Test.YtabjjdicffcolaaGreatDoorClaimTbitsp29
set_option maxRecDepth 100000
set_option maxHeartbeats 16000000
namespace Go.Proofs.YtabjjdicffcolaaGreatDoor
open Go.Lib (hid)
open Go.RowKit
theorem faceO_ok {p:Int}{l:List RawI}{o:Outc RawI}(p1:1≤p)(p2:p≤2000)(h:l.all mayI=true):faceO p l o=o:=by unfold faceO;rw [if_pos ⟨p1,p2,h⟩]
theorem Add_k {w:World}{v u:Value}{a b:Iv}{p:Nat}(hv:IvC w v a)(hu:IvC w u b)(ha:a.Ok)(hb:b.Ok)(hT:Tab w)(p1:1≤p)(p2:p≤2000) :
 Calls Tryz.prog 96 #[v,u,.int .i64 p] w (RetIE (rawO (addI a b p)) w):=by
 have h:=Add_i (p:=(p:Int)) hv hu (iv_lens ha) (iv_lens hb) hT;rw [faceO_ok (by omega) (by omega) (by simp [mayI_raw ha,mayI_raw hb]),Iv.raw_iv,Iv.raw_iv,Int.toNat_natCast] at h;exact h
theorem Sub_k {w:World}{v u:Value}{a b:Iv}{p:Nat}(hv:IvC w v a)(hu:IvC w u b)(ha:a.Ok)(hb:b.Ok)(hT:Tab w)(p1:1≤p)(p2:p≤2000) :
 Calls Tryz.prog 97 #[v,u,.int .i64 p] w (RetIE (rawO (subI a b p)) w):=by
 have h:=Sub_i (p:=(p:Int)) hv hu (iv_lens ha) (iv_lens hb) hT;rw [faceO_ok (by omega) (by omega) (by simp [mayI_raw ha,mayI_raw hb]),Iv.raw_iv,Iv.raw_iv,Int.toNat_natCast] at h;exact h
theorem Mul_k {w:World}{v u:Value}{a b:Iv}{p:Nat}(hv:IvC w v a)(hu:IvC w u b)(ha:a.Ok)(hb:b.Ok)(hT:Tab w)(p1:1≤p)(p2:p≤2000) :
 Calls Tryz.prog 98 #[v,u,.int .i64 p] w (RetIE (rawO (mulI a b p)) w):=by
 have h:=Mul_i (p:=(p:Int)) hv hu (iv_lens ha) (iv_lens hb) hT;rw [faceO_ok (by omega) (by omega) (by simp [mayI_raw ha,mayI_raw hb]),Iv.raw_iv,Iv.raw_iv,Int.toNat_natCast] at h;exact h
theorem Div_k {w:World}{v u:Value}{a b:Iv}{p:Nat}(hv:IvC w v a)(hu:IvC w u b)(ha:a.Ok)(hb:b.Ok)(hT:Tab w)(p1:1≤p)(p2:p≤2000) :
 Calls Tryz.prog 94 #[v,u,.int .i64 p] w (RetIE (rawO (divI a b p)) w):=by
 have h:=Div_i (p:=(p:Int)) hv hu (iv_lens ha) (iv_lens hb) hT;rw [faceO_ok (by omega) (by omega) (by simp [mayI_raw ha,mayI_raw hb]),Iv.raw_iv,Iv.raw_iv,Int.toNat_natCast] at h;exact h
theorem Neg_k {w:World}{v:Value}{a:Iv}{p:Nat}(hv:IvC w v a)(ha:a.Ok)(hT:Tab w)(p1:1≤p)(p2:p≤2000) :
 Calls Tryz.prog 99 #[v,.int .i64 p] w (RetIE (rawO (negI a p)) w):=by
 have h:=Neg_i (p:=(p:Int)) hv (iv_lens ha) hT;rw [faceO_ok (by omega) (by omega) (by simp [mayI_raw ha]),Iv.raw_iv,Int.toNat_natCast] at h;exact h
theorem Sqr_k {w:World}{v:Value}{a:Iv}{p:Nat}(hv:IvC w v a)(ha:a.Ok)(hT:Tab w)(p1:1≤p)(p2:p≤2000) :
 Calls Tryz.prog 100 #[v,.int .i64 p] w (RetIE (rawO (sqrI a p)) w):=by
 have h:=Sqr_i (p:=(p:Int)) hv (iv_lens ha) hT;rw [faceO_ok (by omega) (by omega) (by simp [mayI_raw ha]),Iv.raw_iv,Int.toNat_natCast] at h;exact h
theorem Sqrt_k {w:World}{v:Value}{a:Iv}{p:Nat}(hv:IvC w v a)(ha:a.Ok)(hT:Tab w)(p1:1≤p)(p2:p≤2000) :
 Calls Tryz.prog 101 #[v,.int .i64 p] w (RetIE (rawO (sqrtI a p)) w):=by
 have h:=Sqrt_i (p:=(p:Int)) hv (iv_lens ha) hT;rw [faceO_ok (by omega) (by omega) (by simp [mayI_raw ha]),Iv.raw_iv,Int.toNat_natCast] at h;exact h
def dm:Dy:=⟨true,1,0⟩
def dt:Dy:=⟨false,1,1⟩
def d4:Dy:=⟨false,1,2⟩
def mt:Iv:=⟨dm,dt⟩
def R1:Raw:=⟨false,[1],0⟩
def R4:Raw:=⟨false,[1],2⟩
theorem dz_rawz:dz.raw=rz:=by unfold Dy.raw dz rz;simp only [limbs_zero]
theorem iz_rawz:iz.raw=rzI:=by unfold Iv.raw iz rzI;simp only [dz_rawz]
theorem boxddi (w:World)(x y z p q r:Value):∃ W,W=((w.alloc (.cells #[x,y,z] 28)).alloc (.cells #[p,q,r] 28)).alloc (.cells #[.bool false,.slice none 0 0,.int .i64 0,.bool false,.slice none 0 0,.int .i64 0] 30) ∧
 Kept w W∧Blk W w.heap.size x y z∧Blk W (w.heap.size+1) p q r∧BlkI W (w.heap.size+1+1) (.bool false) (.slice none 0 0) (.int .i64 0) (.bool false) (.slice none 0 0) (.int .i64 0):=by
 refine ⟨_,rfl,((kept_alloc _ _).trans (kept_alloc _ _)).trans (kept_alloc _ _),?_,?_,?_⟩
 ·exact (blk_alloc (blk_new _ _ _ _) _).kept (kept_alloc _ _)
 ·exact (blk_new1 _ _ _ _ _).kept (kept_alloc _ _)
 ·have := blkI_zero ((w.alloc (.cells #[x, y, z] 28)).alloc (.cells #[p, q, r] 28));simp only [World.size_alloc] at this;exact this
theorem boxir (w:World)(x y z x' y' z':Value):∃ W,W=(w.alloc (.cells #[x,y,z,x',y',z'] 30)).alloc (.cells #[.bool false,.slice none 0 0,.int .i64 0,.bool false,.slice none 0 0,.int .i64 0] 30) ∧
 Kept w W∧BlkI W w.heap.size x y z x' y' z'∧BlkI W (w.heap.size+1) (.bool false) (.slice none 0 0) (.int .i64 0) (.bool false) (.slice none 0 0) (.int .i64 0):=by
 refine ⟨_,rfl,(kept_alloc _ _).trans (kept_alloc _ _),(blkI_new _ _ _ _ _ _ _).kept (kept_alloc _ _),?_⟩;have:=blkI_zero (w.alloc (.cells #[x,y,z,x',y',z'] 30));simp only [World.size_alloc] at this;exact this
theorem both_c {w:World}{v u:Value}{o1 o2:Outc Dy}(hv:DyR w v o1.v.raw)(hu:DyR w u o2.v.raw) :
 Calls Tryz.prog 93 #[v,.int .i64 o1.k,u,.int .i64 o2.k] w (RetIE (rawO (ends o1 o2)) w):=by
 obtain ⟨A,l,c,rfl,h1⟩:=dyR_split hv;obtain ⟨B,j,e,rfl,g1⟩:=dyR_split hu;obtain ⟨W,hW,kW,BA,BB,BR⟩:=boxddi w (.bool o1.v.neg) (.slice A l c) (.int .i64 o1.v.e) (.bool o2.v.neg) (.slice B j e) (.int .i64 o2.v.e);have Z1:=hid (h1.kept kW);have Z2:=hid (g1.kept kW);have HW:=hid hW;have HK:=hid kW;obtain ⟨-,c0,c1,c2,-⟩:=BA.facts;obtain ⟨-,d0,d1,d2,-⟩:=BB.facts;have HR:=hid BR;obtain ⟨-,r0,r1,r2,r3,r4,r5⟩:=BR.facts;obtain ⟨f0,f1,f2,f3,f4,f5⟩:=BR.free;clear hW kW BA BB BR h1 g1 hv hu
 by_cases k1:o1.k=0
 ·by_cases k2 : o2.k = 0
  ·have ho : rawO (ends o1 o2) = ⟨⟨o1.v.raw, o2.v.raw⟩, 0⟩ := by
    unfold ends;rw [Outc.bind_of _ _ k1,Outc.bind_of _ _ k2];rfl
   rw [ho,k1,k2];have HO:=hid ho;clear ho k1 k2;generalize o1.v.neg=n1 at *;generalize o1.v.e=e1 at *;generalize o2.v.neg=n2 at *;generalize o2.v.e=e2 at *;generalize o1.v.raw=r1 at *;generalize o2.v.raw=r2 at *
   go_enter Tryz.func93,Tryz.ntmps93
   go_upto_region 1 with fail
   rw [←HW.out];go_wp2_with fail;exact ret_iv2 (HR.out.laid _ _ _ _ _ _) rfl rfl rfl ⟨ivW_kept HK.out (by omega),_,rfl,_,_,_,_,_,_,rfl,Z1.out.ivW HR.out _ _ _ _ _ _,Z2.out.ivW HR.out _ _ _ _ _ _⟩
  ·have ho : rawO (ends o1 o2) = ⟨rzI, o2.k⟩ := by
    unfold ends Outc.bind;rw [if_pos k1];simp only [if_neg k2];exact congrArg (Outc.mk · o2.k) iz_rawz
   rw [ho,k1];have k2':(o2.k != 0)=true:=by simp [k2]
   clear ho k1 k2;generalize o1.v.neg=n1 at *;generalize o1.v.e=e1 at *;generalize o2.v.neg=n2 at *;generalize o2.v.e=e2 at *;generalize o1.v.raw=r1 at *;generalize o2.v.raw=r2 at *;generalize o2.k=q2 at *
   go_enter Tryz.func93,Tryz.ntmps93
   go_upto_region 1 with fail
   rw [←HW.out];go_wp2_with fail;exact ret_iv2 (HR.out.laid _ _ _ _ _ _) rfl rfl rfl ⟨ivW_kept HK.out (by omega),_,rfl,ivR_zero _⟩
 ·have ho : rawO (ends o1 o2) = ⟨rzI, o1.k⟩ := by
   unfold ends Outc.bind;rw [if_neg k1];exact congrArg (Outc.mk · o1.k) iz_rawz
  rw [ho];have k1':(o1.k != 0)=true:=by simp [k1]
  clear ho k1;generalize o1.v.neg=n1 at *;generalize o1.v.e=e1 at *;generalize o2.v.neg=n2 at *;generalize o2.v.e=e2 at *;generalize o1.v.raw=r1 at *;generalize o2.v.raw=r2 at *;generalize o2.k=q2 at *;generalize o1.k=q1 at *
  go_enter Tryz.func93,Tryz.ntmps93
  go_upto_region 1 with fail
  rw [←HW.out];go_wp2_with fail;exact ret_iv2 (HR.out.laid _ _ _ _ _ _) rfl rfl rfl ⟨ivW_kept HK.out (by omega),_,rfl,ivR_zero _⟩
theorem boxD (w:World)(x y z:Value):∃ V,V=w.alloc (.cells #[x,y,z] 28)∧Kept w V∧Blk V w.heap.size x y z∧w.heap.size<V.heap.size :=
 ⟨_,rfl,kept_alloc _ _,blk_new _ _ _ _,by simp⟩
theorem iround_c {w:World}{v:Value}{a:Iv}{p:Nat}(hv:IvC w v a)(ha:a.Ok)(hT:Tab w)(p1:1≤p)(p2:p≤2000) :
 Calls Tryz.prog 59 #[v,.int .i64 p] w (RetIE (rawO (roundI a p)) w):=by
 have m1:=fun w1 (k:Kept w w1)=>imayT_c (hv.kept k) ha
 obtain ⟨A,l,c,A',l',c',rfl,h1,h2⟩:=ivC_split hv;have c1:=fun w1 (k:Kept w w1)=>Down_c (h1.kept k) ha.lo (hT.kept k) p1 p2
 have c2:=fun w1 (k:Kept w w1)=>Up_c (h2.kept k) ha.hi (hT.kept k) p1 p2
 have hdef:roundI a p=ends (dirD a.lo p false) (dirD a.hi p true):=rfl;rw [hdef];obtain ⟨W,hW,kW,BI,BR⟩:=boxir w (.bool a.lo.neg) (.slice A l c) (.int .i64 a.lo.e) (.bool a.hi.neg) (.slice A' l' c') (.int .i64 a.hi.e);have M1:=hid m1;have C1:=hid c1;have C2:=hid c2;have HW:=hid hW;have K:=hid kW;have HB:=hid BI;have HR:=hid BR;clear m1 c1 c2 hW kW BI BR h1 h2 hv ha hT hdef;generalize dirD a.lo p false=o1 at *;generalize dirD a.hi p true=o2 at *;generalize a.lo.neg=n1 at *;generalize a.lo.e=e1 at *;generalize a.hi.neg=n2 at *;generalize a.hi.e=e2 at *
 go_enter Tryz.func59,Tryz.ntmps59
 go_wp2_with fail;rw [←HW.out];refine (M1.out _ K.out).mono ?_;rintro e w1 ⟨rfl,q⟩;replace K:=hid (K.out.trans q);replace HB:=hid (HB.out.kept q);replace HR:=hid (HR.out.kept q);clear q M1 HW;obtain ⟨-,c0,c1,c2,c3,c4,c5⟩:=HB.out.facts;simp only [];go_wp2_with fail;refine (C1.out _ K.out).mono ?_;rintro e w2 ⟨q,u,rfl,hd⟩;obtain ⟨PX,pX,qX,rfl,z1⟩:=dyR_split hd;simp only [];obtain ⟨VX,hV,kV,hb,lV⟩:=boxD w2 (.bool o1.v.neg) (.slice PX pX qX) (.int .i64 o1.v.e);have HV:=hid hV;have kk:=q.trans kV;have lt1:w.heap.size+1<w2.heap.size:=Nat.lt_of_lt_of_le HR.out.facts.1 q.size;replace K:=hid (K.out.trans kk)
 replace HB:=hid (HB.out.kept kk);replace HR:=hid (HR.out.kept kk);have HX:=hid hb;have ZX:=hid (z1.kept kV);clear hV kV hb lV kk q hd z1 c0 c1 c2 c3 c4 c5 C1
 go_upto_region 4 with fail
 rw [←HV.out];clear HV;generalize w2.heap.size=bX at *;obtain ⟨-,c0,c1,c2,c3,c4,c5⟩:=HB.out.facts;go_wp2_with fail;refine (C2.out _ K.out).mono ?_;rintro e w2 ⟨q,u,rfl,hd⟩;obtain ⟨PY,pY,qY,rfl,z1⟩:=dyR_split hd;simp only [];obtain ⟨VY,hV,kV,hb,lV⟩:=boxD w2 (.bool o2.v.neg) (.slice PY pY qY) (.int .i64 o2.v.e);have HV:=hid hV;have kk:=q.trans kV;have lt2:bX<w2.heap.size:=Nat.lt_of_lt_of_le HX.out.facts.1 q.size;replace K:=hid (K.out.trans kk);replace HR:=hid (HR.out.kept kk);replace HX:=hid (HX.out.kept kk);replace ZX:=hid (ZX.out.kept kk);have HY:=hid hb;have ZY:=hid (z1.kept kV);clear hV kV hb lV kk q hd z1 c0 c1 c2 c3 c4 c5 C2 HB
 go_upto_region 5 with fail
 rw [←HV.out];clear HV;generalize w2.heap.size=bY at *;obtain ⟨-,c0,c1,c2,-⟩:=HX.out.facts;obtain ⟨-,d0,d1,d2,-⟩:=HY.out.facts;go_wp2_with fail;refine (both_c ZX.out ZY.out).mono ?_;rintro e w2 ⟨q,u,rfl,hd⟩;obtain ⟨P,p',q',R,r,s,rfl,z1,z2⟩:=ivR_split hd;have hr:=HR.out.kept q;obtain ⟨-,r0,r1,r2,r3,r4,r5⟩:=hr.facts;obtain ⟨f0,f1,f2,f3,f4,f5⟩:=hr.free;have HRR:=hid hr;have Z1:=hid z1;have Z2:=hid z2;clear hr z1 z2 hd c0 c1 c2 d0 d1 d2;simp only [];go_wp2_with fail;exact ret_iv2 (HRR.out.laid _ _ _ _ _ _) rfl rfl rfl ⟨ivW_kept (K.out.trans q) (by omega),_,rfl,_,_,_,_,_,_,rfl,Z1.out.ivW HRR.out _ _ _ _ _ _,Z2.out.ivW HRR.out _ _ _ _ _ _⟩
theorem boxiir (w:World)(x y z x' y' z' p q r p' q' r':Value):∃ W,W=((w.alloc (.cells #[x,y,z,x',y',z'] 30)).alloc (.cells #[p,q,r,p',q',r'] 30)).alloc (.cells #[.bool false,.slice none 0 0,.int .i64 0,.bool false,.slice none 0 0,.int .i64 0] 30) ∧
 Kept w W∧BlkI W w.heap.size x y z x' y' z'∧BlkI W (w.heap.size+1) p q r p' q' r'∧BlkI W (w.heap.size+1+1) (.bool false) (.slice none 0 0) (.int .i64 0) (.bool false) (.slice none 0 0) (.int .i64 0):=by
 obtain ⟨W,hW,k,b1,b2⟩:=box2ii w x y z x' y' z' p q r p' q' r';refine ⟨_,rfl,?_,?_,?_,?_⟩
 ·rw [←hW];exact k.trans (kept_alloc _ _)
 ·rw [←hW];exact b1.kept (kept_alloc _ _)
 ·rw [←hW];exact b2.kept (kept_alloc _ _)
 ·have := blkI_zero ((w.alloc (.cells #[x, y, z, x', y', z'] 30)).alloc (.cells #[p, q, r, p', q', r'] 30));simp only [World.size_alloc] at this;exact this
structure OpsC (S:Int→Prop):Prop where
 add:S 6→∀ {w:World} {v u:Value} {a b:Iv} {p:Nat},IvC w v a→IvC w u b→a.Ok→b.Ok→Tab w→1≤p→p≤2000→Calls Tryz.prog 96 #[v,u,.int .i64 p] w (RetIE (rawO (addI a b p)) w)
 sub:S 7→∀ {w:World} {v u:Value} {a b:Iv} {p:Nat},IvC w v a→IvC w u b→a.Ok→b.Ok→Tab w→1≤p→p≤2000→Calls Tryz.prog 97 #[v,u,.int .i64 p] w (RetIE (rawO (subI a b p)) w)
 mul:S 8→∀ {w:World} {v u:Value} {a b:Iv} {p:Nat},IvC w v a→IvC w u b→a.Ok→b.Ok→Tab w→1≤p→p≤2000→Calls Tryz.prog 98 #[v,u,.int .i64 p] w (RetIE (rawO (mulI a b p)) w)
 div:S 9→∀ {w:World} {v u:Value} {a b:Iv} {p:Nat},IvC w v a→IvC w u b→a.Ok→b.Ok→Tab w→1≤p→p≤2000→Calls Tryz.prog 94 #[v,u,.int .i64 p] w (RetIE (rawO (divI a b p)) w)
 neg:S 10→∀ {w:World} {v:Value} {a:Iv} {p:Nat},IvC w v a→a.Ok→Tab w→1≤p→p≤2000→Calls Tryz.prog 99 #[v,.int .i64 p] w (RetIE (rawO (negI a p)) w)
 sqr:S 11→∀ {w:World} {v:Value} {a:Iv} {p:Nat},IvC w v a→a.Ok→Tab w→1≤p→p≤2000→Calls Tryz.prog 100 #[v,.int .i64 p] w (RetIE (rawO (sqrI a p)) w)
 sqrt:S 12→∀ {w:World} {v:Value} {a:Iv} {p:Nat},IvC w v a→a.Ok→Tab w→1≤p→p≤2000→Calls Tryz.prog 101 #[v,.int .i64 p] w (RetIE (rawO (sqrtI a p)) w)
theorem tone_c {S:Int→Prop}{ov:Iv→Nat→Outc Iv}{w:World}{va vb:Value}{a b:Iv}{op:Int}{p:Nat}(ha:IvC w va a)(hb:IvC w vb b)(oa:a.Ok)(ob:b.Ok)(hT:Tab w)(p1:1≤p)(p2:p≤2000)
 (hov:¬(6≤op∧op≤12)→∀ w1,Kept w w1→Calls Tryz.prog 102 #[va,.int .i64 p] w1 (RetIE (rawO (ov a p)) w1)) (O:OpsC S) (hS:6≤op→op≤12→S op) :
 Calls Tryz.prog 63 #[.int .i64 op,va,vb,.int .i64 p] w (RetIE (rawO (oneI ov op a b p)) w):=by
 have IA:=hid ha;have IB:=hid hb;have OA:=hid (And.intro oa ob);have T:=hid hT;have HOV:=hid hov;have OPS:=hid O;have HS:=hid hS;clear ha hb oa ob hT hov O hS;obtain ⟨A,l,c,A',l',c',rfl,-,-⟩:=ivC_split IA.out;obtain ⟨B,j,e,B',j',e',rfl,-,-⟩:=ivC_split IB.out;obtain ⟨W,hW,kW,BI,BJ,BR⟩:=boxiir w (.bool a.lo.neg) (.slice A l c) (.int .i64 a.lo.e) (.bool a.hi.neg) (.slice A' l' c') (.int .i64 a.hi.e) (.bool b.lo.neg) (.slice B j e) (.int .i64 b.lo.e) (.bool b.hi.neg) (.slice B' j' e') (.int .i64 b.hi.e);have HW:=hid hW;have K:=hid kW;obtain ⟨-,c0,c1,c2,c3,c4,c5⟩:=BI.facts;obtain ⟨-,d0,d1,d2,d3,d4,d5⟩:=BJ.facts
 have HR:=hid BR;clear hW kW BI BJ BR
 by_cases h6:op=6
 ·obtain rfl : op = 6 := h6;have ho:oneI ov 6 a b p=addI a b p:=by simp [oneI]
  rw [ho];have CC:=hid (fun w1 (k:Kept w w1)=>OPS.out.add (HS.out (by decide) (by decide)) (IA.out.kept k) (IB.out.kept k) OA.out.1 OA.out.2 (T.out.kept k) p1 p2);clear ho IA IB OA T HOV OPS HS;generalize rawO _=o at *;generalize a.lo.neg=n1 at *;generalize a.lo.e=e1 at *;generalize a.hi.neg=n2 at *;generalize a.hi.e=e2 at *;generalize b.lo.neg=n3 at *;generalize b.lo.e=e3 at *;generalize b.hi.neg=n4 at *;generalize b.hi.e=e4 at *
  go_enter Tryz.func63,Tryz.ntmps63
  go_upto_region 1 with fail
  rw [←HW.out];go_wp2_with fail;refine (CC.out _ K.out).mono ?_;rintro e w2 ⟨q,u,rfl,hd⟩;obtain ⟨P,p',q',R,r,s,rfl,z1,z2⟩:=ivR_split hd;have hr:=HR.out.kept q;obtain ⟨-,r0,r1,r2,r3,r4,r5⟩:=hr.facts;obtain ⟨f0,f1,f2,f3,f4,f5⟩:=hr.free;have HRR:=hid hr;have Z1:=hid z1;have Z2:=hid z2;clear hr z1 z2 hd c0 c1 c2 c3 c4 c5 d0 d1 d2 d3 d4 d5;simp only [];go_wp2_with fail;exact ret_iv2 (HRR.out.laid _ _ _ _ _ _) rfl rfl rfl ⟨ivW_kept (K.out.trans q) (by omega),_,rfl,_,_,_,_,_,_,rfl,Z1.out.ivW HRR.out _ _ _ _ _ _,Z2.out.ivW HRR.out _ _ _ _ _ _⟩
 by_cases h7:op=7
 ·obtain rfl : op = 7 := h7;have ho:oneI ov 7 a b p=subI a b p:=by simp [oneI]
  rw [ho];have CC:=hid (fun w1 (k:Kept w w1)=>OPS.out.sub (HS.out (by decide) (by decide)) (IA.out.kept k) (IB.out.kept k) OA.out.1 OA.out.2 (T.out.kept k) p1 p2);clear ho IA IB OA T HOV OPS HS;generalize rawO _=o at *;generalize a.lo.neg=n1 at *;generalize a.lo.e=e1 at *;generalize a.hi.neg=n2 at *;generalize a.hi.e=e2 at *;generalize b.lo.neg=n3 at *;generalize b.lo.e=e3 at *;generalize b.hi.neg=n4 at *;generalize b.hi.e=e4 at *
  go_enter Tryz.func63,Tryz.ntmps63
  go_upto_region 1 with fail
  rw [←HW.out];go_wp2_with fail;refine (CC.out _ K.out).mono ?_;rintro e w2 ⟨q,u,rfl,hd⟩;obtain ⟨P,p',q',R,r,s,rfl,z1,z2⟩:=ivR_split hd;have hr:=HR.out.kept q;obtain ⟨-,r0,r1,r2,r3,r4,r5⟩:=hr.facts;obtain ⟨f0,f1,f2,f3,f4,f5⟩:=hr.free;have HRR:=hid hr;have Z1:=hid z1;have Z2:=hid z2;clear hr z1 z2 hd c0 c1 c2 c3 c4 c5 d0 d1 d2 d3 d4 d5;simp only [];go_wp2_with fail;exact ret_iv2 (HRR.out.laid _ _ _ _ _ _) rfl rfl rfl ⟨ivW_kept (K.out.trans q) (by omega),_,rfl,_,_,_,_,_,_,rfl,Z1.out.ivW HRR.out _ _ _ _ _ _,Z2.out.ivW HRR.out _ _ _ _ _ _⟩
 by_cases h8:op=8
 ·obtain rfl : op = 8 := h8;have ho:oneI ov 8 a b p=mulI a b p:=by simp [oneI]
  rw [ho];have CC:=hid (fun w1 (k:Kept w w1)=>OPS.out.mul (HS.out (by decide) (by decide)) (IA.out.kept k) (IB.out.kept k) OA.out.1 OA.out.2 (T.out.kept k) p1 p2);clear ho IA IB OA T HOV OPS HS;generalize rawO _=o at *;generalize a.lo.neg=n1 at *;generalize a.lo.e=e1 at *;generalize a.hi.neg=n2 at *;generalize a.hi.e=e2 at *;generalize b.lo.neg=n3 at *;generalize b.lo.e=e3 at *;generalize b.hi.neg=n4 at *;generalize b.hi.e=e4 at *
  go_enter Tryz.func63,Tryz.ntmps63
  go_upto_region 1 with fail
  rw [←HW.out];go_wp2_with fail;refine (CC.out _ K.out).mono ?_;rintro e w2 ⟨q,u,rfl,hd⟩;obtain ⟨P,p',q',R,r,s,rfl,z1,z2⟩:=ivR_split hd;have hr:=HR.out.kept q;obtain ⟨-,r0,r1,r2,r3,r4,r5⟩:=hr.facts;obtain ⟨f0,f1,f2,f3,f4,f5⟩:=hr.free;have HRR:=hid hr;have Z1:=hid z1;have Z2:=hid z2;clear hr z1 z2 hd c0 c1 c2 c3 c4 c5 d0 d1 d2 d3 d4 d5;simp only [];go_wp2_with fail;exact ret_iv2 (HRR.out.laid _ _ _ _ _ _) rfl rfl rfl ⟨ivW_kept (K.out.trans q) (by omega),_,rfl,_,_,_,_,_,_,rfl,Z1.out.ivW HRR.out _ _ _ _ _ _,Z2.out.ivW HRR.out _ _ _ _ _ _⟩
 by_cases h9:op=9
 ·obtain rfl : op = 9 := h9;have ho:oneI ov 9 a b p=divI a b p:=by simp [oneI]
  rw [ho];have CC:=hid (fun w1 (k:Kept w w1)=>OPS.out.div (HS.out (by decide) (by decide)) (IA.out.kept k) (IB.out.kept k) OA.out.1 OA.out.2 (T.out.kept k) p1 p2);clear ho IA IB OA T HOV OPS HS;generalize rawO _=o at *;generalize a.lo.neg=n1 at *;generalize a.lo.e=e1 at *;generalize a.hi.neg=n2 at *;generalize a.hi.e=e2 at *;generalize b.lo.neg=n3 at *;generalize b.lo.e=e3 at *;generalize b.hi.neg=n4 at *;generalize b.hi.e=e4 at *
  go_enter Tryz.func63,Tryz.ntmps63
  go_upto_region 1 with fail
  rw [←HW.out];go_wp2_with fail;refine (CC.out _ K.out).mono ?_;rintro e w2 ⟨q,u,rfl,hd⟩;obtain ⟨P,p',q',R,r,s,rfl,z1,z2⟩:=ivR_split hd;have hr:=HR.out.kept q;obtain ⟨-,r0,r1,r2,r3,r4,r5⟩:=hr.facts;obtain ⟨f0,f1,f2,f3,f4,f5⟩:=hr.free;have HRR:=hid hr;have Z1:=hid z1;have Z2:=hid z2;clear hr z1 z2 hd c0 c1 c2 c3 c4 c5 d0 d1 d2 d3 d4 d5;simp only [];go_wp2_with fail;exact ret_iv2 (HRR.out.laid _ _ _ _ _ _) rfl rfl rfl ⟨ivW_kept (K.out.trans q) (by omega),_,rfl,_,_,_,_,_,_,rfl,Z1.out.ivW HRR.out _ _ _ _ _ _,Z2.out.ivW HRR.out _ _ _ _ _ _⟩
 by_cases h10:op=10
 ·obtain rfl : op = 10 := h10;have ho:oneI ov 10 a b p=negI a p:=by simp [oneI]
  rw [ho];have CC:=hid (fun w1 (k:Kept w w1)=>OPS.out.neg (HS.out (by decide) (by decide)) (IA.out.kept k) OA.out.1 (T.out.kept k) p1 p2);clear ho IA IB OA T HOV OPS HS;generalize rawO _=o at *;generalize a.lo.neg=n1 at *;generalize a.lo.e=e1 at *;generalize a.hi.neg=n2 at *;generalize a.hi.e=e2 at *;generalize b.lo.neg=n3 at *;generalize b.lo.e=e3 at *;generalize b.hi.neg=n4 at *;generalize b.hi.e=e4 at *
  go_enter Tryz.func63,Tryz.ntmps63
  go_upto_region 1 with fail
  rw [←HW.out];go_wp2_with fail;refine (CC.out _ K.out).mono ?_;rintro e w2 ⟨q,u,rfl,hd⟩;obtain ⟨P,p',q',R,r,s,rfl,z1,z2⟩:=ivR_split hd;have hr:=HR.out.kept q;obtain ⟨-,r0,r1,r2,r3,r4,r5⟩:=hr.facts;obtain ⟨f0,f1,f2,f3,f4,f5⟩:=hr.free;have HRR:=hid hr;have Z1:=hid z1;have Z2:=hid z2;clear hr z1 z2 hd c0 c1 c2 c3 c4 c5 d0 d1 d2 d3 d4 d5;simp only [];go_wp2_with fail;exact ret_iv2 (HRR.out.laid _ _ _ _ _ _) rfl rfl rfl ⟨ivW_kept (K.out.trans q) (by omega),_,rfl,_,_,_,_,_,_,rfl,Z1.out.ivW HRR.out _ _ _ _ _ _,Z2.out.ivW HRR.out _ _ _ _ _ _⟩
 by_cases h11:op=11
 ·obtain rfl : op = 11 := h11;have ho:oneI ov 11 a b p=sqrI a p:=by simp [oneI]
  rw [ho];have CC:=hid (fun w1 (k:Kept w w1)=>OPS.out.sqr (HS.out (by decide) (by decide)) (IA.out.kept k) OA.out.1 (T.out.kept k) p1 p2);clear ho IA IB OA T HOV OPS HS;generalize rawO _=o at *;generalize a.lo.neg=n1 at *;generalize a.lo.e=e1 at *;generalize a.hi.neg=n2 at *;generalize a.hi.e=e2 at *;generalize b.lo.neg=n3 at *;generalize b.lo.e=e3 at *;generalize b.hi.neg=n4 at *;generalize b.hi.e=e4 at *
  go_enter Tryz.func63,Tryz.ntmps63
  go_upto_region 1 with fail
  rw [←HW.out];go_wp2_with fail;refine (CC.out _ K.out).mono ?_;rintro e w2 ⟨q,u,rfl,hd⟩;obtain ⟨P,p',q',R,r,s,rfl,z1,z2⟩:=ivR_split hd;have hr:=HR.out.kept q;obtain ⟨-,r0,r1,r2,r3,r4,r5⟩:=hr.facts;obtain ⟨f0,f1,f2,f3,f4,f5⟩:=hr.free;have HRR:=hid hr;have Z1:=hid z1;have Z2:=hid z2;clear hr z1 z2 hd c0 c1 c2 c3 c4 c5 d0 d1 d2 d3 d4 d5;simp only [];go_wp2_with fail;exact ret_iv2 (HRR.out.laid _ _ _ _ _ _) rfl rfl rfl ⟨ivW_kept (K.out.trans q) (by omega),_,rfl,_,_,_,_,_,_,rfl,Z1.out.ivW HRR.out _ _ _ _ _ _,Z2.out.ivW HRR.out _ _ _ _ _ _⟩
 by_cases h12:op=12
 ·obtain rfl : op = 12 := h12;have ho:oneI ov 12 a b p=sqrtI a p:=by simp [oneI]
  rw [ho];have CC:=hid (fun w1 (k:Kept w w1)=>OPS.out.sqrt (HS.out (by decide) (by decide)) (IA.out.kept k) OA.out.1 (T.out.kept k) p1 p2);clear ho IA IB OA T HOV OPS HS;generalize rawO _=o at *;generalize a.lo.neg=n1 at *;generalize a.lo.e=e1 at *;generalize a.hi.neg=n2 at *;generalize a.hi.e=e2 at *;generalize b.lo.neg=n3 at *;generalize b.lo.e=e3 at *;generalize b.hi.neg=n4 at *;generalize b.hi.e=e4 at *
  go_enter Tryz.func63,Tryz.ntmps63
  go_upto_region 1 with fail
  rw [←HW.out];go_wp2_with fail;refine (CC.out _ K.out).mono ?_;rintro e w2 ⟨q,u,rfl,hd⟩;obtain ⟨P,p',q',R,r,s,rfl,z1,z2⟩:=ivR_split hd;have hr:=HR.out.kept q;obtain ⟨-,r0,r1,r2,r3,r4,r5⟩:=hr.facts;obtain ⟨f0,f1,f2,f3,f4,f5⟩:=hr.free;have HRR:=hid hr;have Z1:=hid z1;have Z2:=hid z2;clear hr z1 z2 hd c0 c1 c2 c3 c4 c5 d0 d1 d2 d3 d4 d5;simp only [];go_wp2_with fail;exact ret_iv2 (HRR.out.laid _ _ _ _ _ _) rfl rfl rfl ⟨ivW_kept (K.out.trans q) (by omega),_,rfl,_,_,_,_,_,_,rfl,Z1.out.ivW HRR.out _ _ _ _ _ _,Z2.out.ivW HRR.out _ _ _ _ _ _⟩
 have ho:oneI ov op a b p=ov a p:=by unfold oneI;rw [if_neg h6,if_neg h7,if_neg h8,if_neg h9,if_neg h10,if_neg h11,if_neg h12]
 rw [ho];have CC:=hid (HOV.out (by omega));have g6:(op==6)=false:=by simp [h6]
 have g7:(op==7)=false:=by simp [h7]
 have g8:(op==8)=false:=by simp [h8]
 have g9:(op==9)=false:=by simp [h9]
 have g10:(op==10)=false:=by simp [h10]
 have g11:(op==11)=false:=by simp [h11]
 have g12:(op==12)=false:=by simp [h12]
 clear ho h6 h7 h8 h9 h10 h11 h12 IA IB OA T HOV OPS HS;generalize rawO _=o at *;generalize a.lo.neg=n1 at *;generalize a.lo.e=e1 at *;generalize a.hi.neg=n2 at *;generalize a.hi.e=e2 at *;generalize b.lo.neg=n3 at *;generalize b.lo.e=e3 at *;generalize b.hi.neg=n4 at *;generalize b.hi.e=e4 at *
 go_enter Tryz.func63,Tryz.ntmps63
 go_upto_region 1 with fail
 rw [←HW.out];go_wp2_with fail;refine (CC.out _ K.out).mono ?_;rintro e w2 ⟨q,u,rfl,hd⟩;obtain ⟨P,p',q',R,r,s,rfl,z1,z2⟩:=ivR_split hd;have hr:=HR.out.kept q;obtain ⟨-,r0,r1,r2,r3,r4,r5⟩:=hr.facts;obtain ⟨f0,f1,f2,f3,f4,f5⟩:=hr.free;have HRR:=hid hr;have Z1:=hid z1;have Z2:=hid z2;clear hr z1 z2 hd c0 c1 c2 c3 c4 c5 d0 d1 d2 d3 d4 d5;simp only [];go_wp2_with fail;exact ret_iv2 (HRR.out.laid _ _ _ _ _ _) rfl rfl rfl ⟨ivW_kept (K.out.trans q) (by omega),_,rfl,_,_,_,_,_,_,rfl,Z1.out.ivW HRR.out _ _ _ _ _ _,Z2.out.ivW HRR.out _ _ _ _ _ _⟩
end Go.Proofs.YtabjjdicffcolaaGreatDoor
