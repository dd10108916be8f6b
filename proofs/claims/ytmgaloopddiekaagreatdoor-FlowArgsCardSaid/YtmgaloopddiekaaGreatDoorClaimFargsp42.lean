/- Words and contracts, part 42. -/
import Derived.Test.YtmgaloopddiekaaGreatDoorClaimFargsp39
import Derived.Test.YtmgaloopddiekaaGreatDoorClaimFargsp41
import Derived.Lib.MinMax
set_option maxRecDepth 100000
set_option maxHeartbeats 0
namespace Go.Proofs.YtmgaloopddiekaaGreatDoor
open Go.Lib (hid)
open Go.RowKit
def stK (k:Int) (d:Dy):Int:=if d.m=0 then k else max k ((bl d.m:Int)+d.e)
theorem My {n:Nat}(h:limbs n=[]):n=0:=by
 have:=Ci n;rw [h] at this;simp at this;exact this
theorem Yg {w:World}{a b:Value}{A:Option Addr}{l c:Nat}{r:Raw}(h:DyR w (.agg #[a,.slice A l c,b]) r):l=r.m.length∧Lim w (.slice A l c) r.m:=by
 obtain ⟨B,k,d,e,hl,hL,-,-⟩:=h.shape;simp only [Value.agg.injEq,Array.mk.injEq,List.cons.injEq,Value.slice.injEq,and_true] at e;obtain ⟨-,⟨rfl,rfl,rfl⟩,-⟩:=e;exact ⟨hl,hL⟩
theorem Vo {k:Int}{d:Dy}(h:d.m=0):stK k d=k:=if_pos h
theorem Y7 {k:Int}{d:Dy}(h:d.m≠0):stK k d=max k ((bl d.m:Int)+d.e):=if_neg h
theorem Vn {d:Dy}(h:d.Ok):IntKind.i64.wrap ((bl d.m:Int)+d.e)=(bl d.m:Int)+d.e:=by
 have h1:bl d.m≤64*(limbs d.m).length:=N3 _ _ (by have:=Ci d.m;rw [show (18446744073709551616:Nat)=2^64 from rfl,←Nat.pow_mul] at this;exact this);have h2:=h.len;have h4:=h.lo;have h5:=h.hi;rw [IntKind.wrap_i64];omega
theorem TrR.kb {w w':World}{x v:Value}{T:TypeId}{X:List Nat}{P:World→Prop}(h:TrR x v T (fun w1 w2=>KB w1 X w2∧P w2) w w')(hx:Bv x)(hX:∀ b∈X,b<w.heap.size) :
 ∃ w2,KB w X w2∧P w2∧KB w2 [w.heap.size] w'∧w2.heap[w.heap.size]?=some (.cells #[x] T (0,0)):=by
 obtain ⟨w1,w2,rfl,⟨h1,h2⟩,rfl⟩:=h;have hb:w2.heap[w.heap.size]?=some (.cells #[x] T (0,0)):=(h1.block _ (by simp) (fun hm=>absurd (hX _ hm) (Nat.lt_irrefl _))).trans (heap_alloc_new _ _);exact ⟨w2,KB.trans (Kept.kb (Ad _ _) X) h1 (fun y hy=>.inl hy),h2,((KB.refl w2 [w.heap.size]).setCell (b:=w.heap.size) (i:=0) (by simp) (Ag hb 0 _ rfl) hx v).step (Ad _ _),hb⟩
section
variable {S:Int→Prop} {ov:Iv→Nat→Outc Iv} {w:World} {As Ao Ap:Option Addr} {ns cs no co np cp p:Nat} {ls:List Ln} {outs:List Int} {q:List RawI}
theorem Aap {bs bt bx bh bk:Nat}{vx:Value}{x t h f m:Iv}{k0:Int}{n1 n2 n3 n4:Bool}{e1 e2 e3 e4:Int}{A A' B B':Option Addr}{l d l' d' j e j' e':Nat}(Y:SysF S ov w As ns cs Ao no co Ap np cp p ls outs q)
 (Bs:w.heap[bs]?=some (.cells #[.slice As ns cs,.slice Ao no co,.slice Ap np cp,.int .i64 (p:Int)] 83 (0,0))) (Bt:BlkI w bt (.bool n1) (.slice A l d) (.int .i64 e1) (.bool n2) (.slice A' l' d') (.int .i64 e2))
 (Bx:w.heap[bx]?=some (.cells #[vx] 26 (0,0))) (Bh:BlkI w bh (.bool n3) (.slice B j e) (.int .i64 e3) (.bool n4) (.slice B' j' e') (.int .i64 e4)) (Bk:w.heap[bk]?=some (.cells #[.int .i64 k0] 3 (0,0)))
 (It:IvC w (.agg #[.bool n1,.slice A l d,.int .i64 e1,.bool n2,.slice A' l' d',.int .i64 e2]) t) (Ih:IvC w (.agg #[.bool n3,.slice B j e,.int .i64 e3,.bool n4,.slice B' j' e',.int .i64 e4]) h) (hx:IvS w vx [x.raw])
 (ox:x.Ok) (ot:t.Ok) (oh:h.Ok) (of:f.Ok) (om:m.Ok) (hf:SpF ov ls outs q p t x f) (hm:Fs h f p=⟨m,0⟩) :
 Calls Tryz.prog 206 #[.pointer (some ⟨bs,0,none⟩),.pointer (some ⟨bt,0,none⟩),.pointer (some ⟨bx,0,none⟩),.pointer (some ⟨bh,0,none⟩),.pointer (some ⟨bk,0,none⟩)] w
  (fun ee w'=>ee=.returned (.tuple #[])∧KB w [bk] w'∧w'.heap[bk]?=some (.cells #[.int .i64 (stK (stK k0 m.lo) m.hi)] 3 (0,0))):=by
 obtain ⟨kv,e0,e1',e2'⟩:∃ kv:Nat→Int,kv 0=k0∧kv 1=stK k0 m.lo∧kv 2=stK (stK k0 m.lo) m.hi:=⟨fun i=>if i=0 then k0 else if i=1 then stK k0 m.lo else stK (stK k0 m.lo) m.hi,rfl,rfl,rfl⟩;rw [←e2'];have s1':=e1';rw [←e0] at s1';have s2':=e2';rw [←e1'] at s2';have E1:=hid s1';have E2:=hid s2';have E0:=hid e0;clear e0 e1' e2' s1' s2';have SP:=hid (Y.speeds It hx ot ox hf);have p1:=Y.p1;have p2:=Nat.le_trans Y.p2 (show 300≤2000 by decide);have MU:=hid (fun w1 (k:Kept w w1) u (hu:IvR w1 u f.raw)=>show Calls Tryz.prog 142 _ w1 (RetIE ⟨m.raw,0⟩ w1) by have h:=Aa1 (a:=h) (b:=f) (IvR.kept Ih k) hu oh of (Y.hT.kept k) p1 p2;rw [hm] at h;exact h)
 have OM:=hid om;obtain ⟨X9,cx9,rfl,-,-⟩:=hx;have HS:=hid Bs;have HH:=hid Bh;have HK:=hid Bk;obtain ⟨-,t0,t1,t2,t3,t4,t5⟩:=Bt.facts;have s0:=Ag Bs 0 _ rfl;have s1:=Ag Bs 1 _ rfl;have s2:=Ag Bs 2 _ rfl;have s3:=Ag Bs 3 _ rfl;have xx:=Ag Bx 0 _ rfl;clear Bs Bt Bx Bh Bk It Ih Y p1 p2 ox ot oh of om hf hm;go_enter Tryz.func206,Tryz.ntmps206;go_wp2_with fail;refine SP.out.mono ?_;rintro ee w1 ⟨k1,v,rfl,hv⟩;obtain ⟨bf,of',cf,D,i,g,D',i',g',rfl,-,CF,If⟩:=hv.one;clear hv SP t0 t1 t2 t3 t4 t5 s0 s1 s2 s3 xx;have K:=hid k1;have HIF:=hid If;clear k1 If
 simp only [];go_upto_region 1 with fail;refine wp_loop_rounds 3 ?_;rw [rounds_succ];obtain ⟨g0,g1,g2,g3,g4,g5⟩:=CF;obtain ⟨Y1,hY,kY,hy,lY⟩:=N4 w1 (.bool f.raw.lo.neg) (.slice D i g) (.int .i64 f.raw.lo.e) (.bool f.raw.hi.neg) (.slice D' i' g') (.int .i64 f.raw.hi.e);have HY:=hid hY;clear hY;go_upto_region 3 with fail;rw [←HY.out];clear g0 g1 g2 g3 g4 g5;replace K:=hid (K.out.trans kY);replace HIF:=hid (HIF.out.kept kY);have hs1:=Aj HS.out K.out;have s0:=Ag hs1 0 _ rfl;have s1:=Ag hs1 1 _ rfl;have s2:=Ag hs1 2 _ rfl;have s3:=Ag hs1 3 _ rfl;obtain ⟨-,c0,c1,c2,c3,c4,c5⟩:=hy.facts
 obtain ⟨-,d0,d1,d2,d3,d4,d5⟩:=(HH.out.kept K.out).facts;clear hy kY hs1;go_wp2_with fail;refine (MU.out _ K.out _ HIF.out).mono ?_;rintro ee w2 ⟨k2,u,rfl,hu⟩;replace K:=hid (K.out.trans k2);clear k2 s0 s1 s2 s3 c0 c1 c2 c3 c4 c5 d0 d1 d2 d3 d4 d5 MU;simp only [];go_wp2_with fail;refine (P5 hu).mono ?_;rintro ee w3 ⟨k3,v,rfl,hv⟩;replace K:=hid (K.out.trans k3);obtain ⟨P1,i1,g1,P2,i2,g2,rfl,Z1,Z2⟩:=Ar hv;clear hu hv k3;simp only [];obtain ⟨Y3,hY3,kY3,hy3,lY3⟩:=N4 w3 (.bool m.raw.lo.neg) (.slice P1 i1 g1) (.int .i64 m.raw.lo.e) (.bool m.raw.hi.neg) (.slice P2 i2 g2) (.int .i64 m.raw.hi.e)
 have HY3:=hid hY3;have Z1':=hid (Z1.kept kY3);have Z2':=hid (Z2.kept kY3);clear hY3 Z1 Z2;go_upto_region 4 with fail;rw [←HY3.out];replace K:=hid (K.out.trans kY3);obtain ⟨-,c0,c1,c2,c3,c4,c5⟩:=hy3.facts;obtain ⟨Y4,hY4,kY4,hy4,lY4⟩:=V0 Y3 (.bool m.raw.lo.neg) (.slice P1 i1 g1) (.int .i64 m.raw.lo.e) (.bool m.raw.hi.neg) (.slice P2 i2 g2) (.int .i64 m.raw.hi.e);have HY4:=hid hY4;clear hY4 kY3 hy3;go_upto_region 5 with fail;rw [←HY4.out];have lta:=K.out.size;replace K:=hid (K.out.trans kY4);have HA4:=hid hy4;replace Z1':=hid (Z1'.out.kept kY4);replace Z2':=hid (Z2'.out.kept kY4);have BK4:=hid (Aj HK.out K.out)
 have ltk:bk<w.heap.size:=(Array.getElem?_eq_some_iff.1 HK.out).1;have NA:=hid (show Y3.heap.size∉[bk] by simp;omega);have KA:Hid (Kept w Y4):=K;have BK5:=hid (show Y4.heap[bk]?=some (.cells #[.int .i64 (kv 0)] 3 (0,0)) by rw [E0.out];exact BK4.out);clear kY4 hy4 c0 c1 c2 c3 c4 c5 HY3 HY4 HY HK BK4 ltk lta lY lY3;generalize Y3.heap.size=ba at *
 go_loopw [33] (fun t wr=>∃ i:Nat,i≤2∧t=.int .i64 i∧KB Y4 [bk] wr∧wr.heap[bk]?=some (.cells #[.int .i64 (kv i)] 3 (0,0))) (fun t _=>(2-intOf t).toNat)
 case atStart=>exact ⟨0,by omega,rfl,KB.refl _ _,BK5.out⟩
 case round =>
  obtain ⟨i,hi,rfl,kb,hk⟩:=hrel;have KB':=hid kb;have HKK:=hid hk;have HA5:=hid (kb.blk HA4.out NA.out);clear kb hk;rcases i with _ | _ | i
  ·skip
   have a0:=Ag HA5.out 0 _ rfl;have a1:=Ag HA5.out 1 _ rfl;have a2:=Ag HA5.out 2 _ rfl;obtain ⟨V,hV,kV,hb,lV⟩:=Kg wr (.bool m.raw.lo.neg) (.slice P1 i1 g1) (.int .i64 m.raw.lo.e);have HV:=hid hV;clear hV;go_upto_region 7 with fail;rw [←HV.out];obtain ⟨-,b0,b1,b2,-⟩:=hb.facts;clear a0 a1 a2;have ZV:=hid ((Z1'.out.kb KB'.out).kept kV);obtain ⟨hl9,hL9⟩:=Yg ZV.out;have HL9:=hid hL9;have HKV:=hid (Aj HKK.out kV);have KBV:=hid (KB'.out.step kV);have ODD:=hid (show (m.lo).Ok from OM.out.lo);by_cases hz:(m.lo).m=0
   ·have hi0:i1=0:=by rw [hl9];show (limbs (m.lo).m).length=0;rw [hz,Bd];rfl
    have t9:decide ((0:Int)<(i1:Int))=false:=by rw [hi0];rfl
    have t8:decide (0<i1)=false:=by rw [hi0];rfl
    have EK:=hid (E1.out.trans (Vo hz));clear hl9 hL9 hi0 hz;go_wp2_with fail;go_roundw
    case rel=>exact ⟨1,by omega,by go_num,KBV.out,by rw [EK.out];exact HKV.out⟩
    case measure=>simp only [intOf];omega
   ·have hi0:0<i1:=by
     rw [hl9]
     show 0<(limbs (m.lo).m).length
     rcases Nat.eq_zero_or_pos (limbs (m.lo).m).length with h | h
     ·exact absurd (My (List.eq_nil_of_length_eq_zero h)) hz
     ·exact h
    have t9:decide ((0:Int)<(i1:Int))=true:=decide_eq_true (by omega);have t8:decide (0<i1)=true:=decide_eq_true hi0;have EK:=hid (E1.out.trans (Y7 hz));have HB9:=hid hb;have W47:=hid (show IntKind.i64.wrap ((bl (m.lo).m:Int)+(m.raw.lo).e)=(bl (m.lo).m:Int)+(m.raw.lo).e from Vn ODD.out);have LEN:=hid (show (limbs (m.lo).m).length≤17592186044416 from Nat.le_trans ODD.out.len (by decide));clear hl9 hL9 hi0 hz hb;go_upto_region 8 with fail;clear b0 b1 b2
    refine Nb 8 ([(vE (.int .i64 (kv 0))),(vP wr.heap.size 1),(vE (.slice P1 i1 g1)),(vE (.int .i64 (bl (m.lo).m))),(vP wr.heap.size 2),(vE (.int .i64 m.raw.lo.e)),(vE (.int .i64 ((bl (m.lo).m:Int)+m.raw.lo.e))),(vE (.int .i64 (max (kv 0) ((bl (m.lo).m:Int)+m.raw.lo.e))))])
     ⟨
      (gql 4 fun _ k=>Ai HKV.out k 0 _ rfl),(gq 9),(gvl 1 42 fun _ k=>Ai HB9.out k 1 _ rfl),(fun aF wF F=>by have s43:=F.v 2 43;exact sQ (Kr (HL9.out.kept F.kept) LEN.out) fun _ _ h=>h),(gq 9),(gvl 4 45 fun _ k=>Ai HB9.out k 2 _ rfl),(fun aF wF F=>by have s44:=F.v 3 44;have s46:=F.v 5 46;exact sw (by have w47:=W47.out;go_simp) rfl),(gvv 0 41 6 47),
      trivial⟩ ?_
    intro u w6 k6 hu;simp only [Bl,Au,if_true,Act.put,zlA,zlB,zlC,zlD,zlE,zlF,zlG,hv hu 0,hv hu 1,hv hu 2,hv hu 3,hv hu 4,hv hu 5,hv hu 6,hv hu 7];clear hu;have hk6:=Aj HKV.out k6;have q0:=Ag hk6 0 _ rfl;have f0:=Am hk6 0;have KB9:=hid ((KBV.out.step k6).setCell (b:=bk) (i:=0) (by simp) q0 (Aq _) (.int .i64 (max (kv 0) ((bl (m.lo).m:Int)+m.raw.lo.e))));have HK9:=hid (Av (i:=0) hk6 (.int .i64 (max (kv 0) ((bl (m.lo).m:Int)+m.raw.lo.e))));clear hk6 k6;go_simp;go_wp2_with fail;go_roundw
    case rel=>exact ⟨1,by omega,by go_num,KB9.out,by rw [EK.out];exact HK9.out⟩
    case measure=>simp only [intOf];omega
  ·skip
   have a0:=Ag HA5.out 3 _ rfl;have a1:=Ag HA5.out 4 _ rfl;have a2:=Ag HA5.out 5 _ rfl;obtain ⟨V,hV,kV,hb,lV⟩:=Kg wr (.bool m.raw.hi.neg) (.slice P2 i2 g2) (.int .i64 m.raw.hi.e);have HV:=hid hV;clear hV;go_upto_region 7 with fail;rw [←HV.out];obtain ⟨-,b0,b1,b2,-⟩:=hb.facts;clear a0 a1 a2;have ZV:=hid ((Z2'.out.kb KB'.out).kept kV);obtain ⟨hl9,hL9⟩:=Yg ZV.out;have HL9:=hid hL9;have HKV:=hid (Aj HKK.out kV);have KBV:=hid (KB'.out.step kV);have ODD:=hid (show (m.hi).Ok from OM.out.hi);by_cases hz:(m.hi).m=0
   ·have hi0:i2=0:=by rw [hl9];show (limbs (m.hi).m).length=0;rw [hz,Bd];rfl
    have t9:decide ((0:Int)<(i2:Int))=false:=by rw [hi0];rfl
    have t8:decide (0<i2)=false:=by rw [hi0];rfl
    have EK:=hid (E2.out.trans (Vo hz));clear hl9 hL9 hi0 hz;go_wp2_with fail;go_roundw
    case rel=>exact ⟨2,by omega,by go_num,KBV.out,by rw [EK.out];exact HKV.out⟩
    case measure=>simp only [intOf];omega
   ·have hi0:0<i2:=by
     rw [hl9]
     show 0<(limbs (m.hi).m).length
     rcases Nat.eq_zero_or_pos (limbs (m.hi).m).length with h | h
     ·exact absurd (My (List.eq_nil_of_length_eq_zero h)) hz
     ·exact h
    have t9:decide ((0:Int)<(i2:Int))=true:=decide_eq_true (by omega);have t8:decide (0<i2)=true:=decide_eq_true hi0;have EK:=hid (E2.out.trans (Y7 hz));have HB9:=hid hb;have W47:=hid (show IntKind.i64.wrap ((bl (m.hi).m:Int)+(m.raw.hi).e)=(bl (m.hi).m:Int)+(m.raw.hi).e from Vn ODD.out);have LEN:=hid (show (limbs (m.hi).m).length≤17592186044416 from Nat.le_trans ODD.out.len (by decide));clear hl9 hL9 hi0 hz hb;go_upto_region 8 with fail;clear b0 b1 b2
    refine Nb 8 ([(vE (.int .i64 (kv 1))),(vP wr.heap.size 1),(vE (.slice P2 i2 g2)),(vE (.int .i64 (bl (m.hi).m))),(vP wr.heap.size 2),(vE (.int .i64 m.raw.hi.e)),(vE (.int .i64 ((bl (m.hi).m:Int)+m.raw.hi.e))),(vE (.int .i64 (max (kv 1) ((bl (m.hi).m:Int)+m.raw.hi.e))))])
     ⟨
      (gql 4 fun _ k=>Ai HKV.out k 0 _ rfl),(gq 9),(gvl 1 42 fun _ k=>Ai HB9.out k 1 _ rfl),(fun aF wF F=>by have s43:=F.v 2 43;exact sQ (Kr (HL9.out.kept F.kept) LEN.out) fun _ _ h=>h),(gq 9),(gvl 4 45 fun _ k=>Ai HB9.out k 2 _ rfl),(fun aF wF F=>by have s44:=F.v 3 44;have s46:=F.v 5 46;exact sw (by have w47:=W47.out;go_simp) rfl),(gvv 0 41 6 47),
      trivial⟩ ?_
    intro u w6 k6 hu;simp only [Bl,Au,if_true,Act.put,zlA,zlB,zlC,zlD,zlE,zlF,zlG,hv hu 0,hv hu 1,hv hu 2,hv hu 3,hv hu 4,hv hu 5,hv hu 6,hv hu 7];clear hu;have hk6:=Aj HKV.out k6;have q0:=Ag hk6 0 _ rfl;have f0:=Am hk6 0;have KB9:=hid ((KBV.out.step k6).setCell (b:=bk) (i:=0) (by simp) q0 (Aq _) (.int .i64 (max (kv 1) ((bl (m.hi).m:Int)+m.raw.hi.e))));have HK9:=hid (Av (i:=0) hk6 (.int .i64 (max (kv 1) ((bl (m.hi).m:Int)+m.raw.hi.e))));clear hk6 k6;go_simp;go_wp2_with fail;go_roundw
    case rel=>exact ⟨2,by omega,by go_num,KB9.out,by rw [EK.out];exact HK9.out⟩
    case measure=>simp only [intOf];omega
  ·obtain rfl:i=0:=by omega
   go_wp2_with fail;rw [rounds_succ];go_wp2_with fail
   go_end0
   exact ⟨rfl,KB.trans (Kept.kb K.out [bk]) KB'.out (fun y hy=>.inl hy),HKK.out⟩
end
def Ahe (w:World) (X:List Nat):Prop:=∀ b∈X,∃ x T,w.heap[b]?=some (.cells #[x] T (0,0))
theorem IvS.off {w:World}{v:Value}{a:RawI}{X:List Nat}(h:IvS w v [a])(hX:Ahe w X):Aa2 v X:=by
 obtain ⟨b,o,c,A,l,d,A',l',d',rfl,-,hC,-⟩:=h.one;intro g hg hm;obtain rfl:b=g:=by simpa [Value.ownBlock] using hg
 obtain ⟨x,T,hb⟩:=hX _ hm;have h1:=Ot hb hC.2.1;simp at h1
def BxS (w:World) (b:Nat) (a:RawI):Prop:=∃ v,w.heap[b]?=some (.cells #[v] 26 (0,0))∧IvS w v [a]
theorem BxS.kept {w w':World}{b:Nat}{a:RawI}(h:BxS w b a)(k:Kept w w'):BxS w' b a:=by
 obtain ⟨v,h1,h2⟩:=h;exact ⟨v,Aj h1 k,h2.kept k⟩
theorem BxS.kb {w w':World}{b:Nat}{a:RawI}{X:List Nat}(h:BxS w b a)(k:KB w X w')(hb:b∉X)(hX:Ahe w X):BxS w' b a:=by
 obtain ⟨v,h1,h2⟩:=h;exact ⟨v,k.blk h1 hb,h2.kb k (h2.off hX)⟩
theorem SysF.kb {S:Int→Prop}{ov:Iv→Nat→Outc Iv}{w:World}{As Ao Ap:Option Addr}{ns cs no co np cp p:Nat}{ls:List Ln}{outs:List Int}{q:List RawI}{w':World}{X:List Nat}(h:SysF S ov w As ns cs Ao no co Ap np cp p ls outs q)(k:KB w X w')
 (hX:∀ b∈X,w.heap.size≤b):SysF S ov w' As ns cs Ao no co Ap np cp p ls outs q:=h.kept (KB.kept (Below.refl _ _) k hX)
section
variable {S:Int→Prop} {ov:Iv→Nat→Outc Iv} {w:World} {As Ao Ap:Option Addr} {ns cs no co np cp p:Nat} {ls:List Ln} {outs:List Int} {q:List RawI}
theorem Jm {a b c d:World}{X:List Nat}{n:Nat}(h0:Kept a b)(h1:KB b X c)(h2:KB c [n] d)(hX:∀ x∈X,a.heap.size≤x)(hn:a.heap.size≤n):Kept a d :=
 KB.kept (KB.kept h0 h1 hX) h2 (by intro x hx;simp only [List.mem_singleton] at hx;subst hx;exact hn)
theorem Ad7 {vx vt vh:Value}{x t h f m:Iv}(Y:SysF S ov w As ns cs Ao no co Ap np cp p ls outs q)(hx:IvS w vx [x.raw])(ht:IvC w vt t)(hh:IvC w vh h)
 (ox:x.Ok) (ot:t.Ok) (oh:h.Ok) (of:f.Ok) (om:m.Ok) (hf:SpF ov ls outs q p t x f) (hm:Fs h f p=⟨m,0⟩) :
 Calls Tryz.prog 186 #[.agg #[.slice As ns cs,.slice Ao no co,.slice Ap np cp,.int .i64 (p:Int)],vx,vt,vh] w (RetK (.int .i64 (stK (stK (-12) m.lo) m.hi)) w):=by
 have hmf:=Es;obtain ⟨A,l,d,A',l',d',rfl,-,-⟩:=Cc ht;obtain ⟨B,j,e,B',j',e',rfl,-,-⟩:=Cc hh;have hx2:=hx;obtain ⟨X9,cx9,rfl,-,-⟩:=hx2;simp only [List.length_singleton] at hx ⊢;obtain ⟨W0,hW0,kW0,h0,h1,h2,h3,sz⟩:=Q6 w #[.slice As ns cs,.slice Ao no co,.slice Ap np cp,.int .i64 (p:Int)] #[.slice X9 1 cx9] #[.bool t.lo.neg,.slice A l d,.int .i64 t.lo.e,.bool t.hi.neg,.slice A' l' d',.int .i64 t.hi.e] #[.bool h.lo.neg,.slice B j e,.int .i64 h.lo.e,.bool h.hi.neg,.slice B' j' e',.int .i64 h.hi.e] 83 26 51 51;obtain ⟨W,hW,kW,h4⟩:∃ W,W=W0.alloc (.cells #[.int .i64 (-12)] 3)∧Kept W0 W∧W.heap[w.heap.size+1+1+1+1]?=some (.cells #[.int .i64 (-12)] 3 (0,0)):=⟨_,rfl,Ad _ _,sz▸heap_alloc_new _ _⟩
 have sz2:w.heap.size+1+1+1+1<W.heap.size:=(Array.getElem?_eq_some_iff.1 h4).1
 have TR:=Kv (w:=W) (K:=206) (cap:=#[.pointer (some ⟨w.heap.size,0,none⟩),.pointer (some ⟨w.heap.size+1+1,0,none⟩),.pointer (some ⟨w.heap.size+1,0,none⟩),.pointer (some ⟨w.heap.size+1+1+1,0,none⟩),.pointer (some ⟨w.heap.size+1+1+1+1,0,none⟩)])
  (R:=fun w1 w2=>KB w1 [w.heap.size+1+1+1+1] w2∧w2.heap[w.heap.size+1+1+1+1]?=some (.cells #[.int .i64 (stK (stK (-12) m.lo) m.hi)] 3 (0,0))) (fun w1 e1=>by
    have k1:Kept W w1:=e1▸Ad _ _;have k0:=(kW0.trans kW).trans k1;refine (Aap (f:=f) (m:=m) (Y.kept k0) (Aj h0 (kW.trans k1)) (BlkI.kept (show BlkI W0 _ _ _ _ _ _ _ from h2) (kW.trans k1)) (Aj h1 (kW.trans k1)) (BlkI.kept (show BlkI W0 _ _ _ _ _ _ _ from h3) (kW.trans k1)) (Aj h4 k1) (IvC.kept ht k0) (IvC.kept hh k0) (hx.kept k0) ox ot oh of om hf hm).mono ?_;rintro ee w2 ⟨rfl,kb,hk⟩;refine ⟨rfl,⟨kb,hk⟩,.bool false,?_⟩;exact kb.blk (by rw [e1];exact heap_alloc_new _ _) (by simp only [List.mem_singleton];omega)) (fun _=>rfl)
 have HT:=hid TR;have HW:=hid (hW0▸hW);have K:=hid (kW0.trans kW);have SZ:=hid sz2;generalize stK (stK (-12) m.lo) m.hi=kk at *;clear TR hW kW0 kW h0 h1 h2 h3 h4 sz sz2 hW0 hx ht hh ox ot oh of om hf hm Y;generalize t.lo.neg=n1 at *;generalize t.lo.e=e1 at *;generalize t.hi.neg=n2 at *;generalize t.hi.e=e2 at *;generalize h.lo.neg=n3 at *;generalize h.lo.e=e3 at *;generalize h.hi.neg=n4 at *;generalize h.hi.e=e4 at *;go_enter Tryz.func186,Tryz.ntmps186;go_upto_region 2 with fail;rw [←HW.out];go_wp2_with fail;refine HT.out.mono ?_;rintro ee w5 ⟨rfl,tr⟩;obtain ⟨w2,kb,hk,kb2,-⟩:=TrR.kb (P:=fun w2=>w2.heap[w.heap.size+1+1+1+1]?=some (.cells #[.int .i64 kk] 3 (0,0))) tr (An _) (by intro b hb;simp only [List.mem_singleton] at hb;subst hb;exact SZ.out)
 have hk5:=kb2.blk hk (by simp only [List.mem_singleton];have:=SZ.out;omega);have q0:=Ag hk5 0 _ rfl;have KF:=hid (Jm K.out kb kb2 (by intro b hb;simp only [List.mem_singleton] at hb;subst hb;omega) (by have:=K.out.size;exact this));clear tr kb hk kb2 hk5;simp only [];go_wp2_with fail;go_ret;exact ⟨rfl,KF.out⟩
end
theorem Lx {w:World}{b:Nat}{x:Value}{T:TypeId}(h:w.heap[b]?=some (.cells #[x] T (0,0))):Ahe w [b]:=by
 intro c hc;simp only [List.mem_singleton] at hc;subst hc;exact ⟨_,_,h⟩
theorem Aie {fn:Func}{R:Ending→World→Prop}{a:Act}{w:World}{b1 b2 t1 t2:Nat}{x y:Value}(c1:w.cell? ⟨b1,0,none⟩=some x)(c2:w.cell? ⟨b2,0,none⟩=some y)
 (hres:fn.results=#[.cell t1 26,.cell t2 4]) (ht1:a.tmps.getD t1 undef=.pointer (some ⟨b1,0,none⟩)) (ht2:a.tmps.getD t2 undef=.pointer (some ⟨b2,0,none⟩)) (hd:a.defers=[])
 (hR:R (.returned (.tuple #[x,y])) w):bodyPost Tryz.prog fn R .ret a w:=by
 refine bodyPost_ret (v:=.tuple #[x,y]) ?_ hd hR;have h1:a.tmps[t1]?.getD undef=.pointer (some ⟨b1,0,none⟩):=by simpa using ht1
 have h2:a.tmps[t2]?.getD undef=.pointer (some ⟨b2,0,none⟩):=by simpa using ht2
 simp [results,hres,h1,h2,go_sem,c1,c2]
theorem Aif {fn:Func}{R:Ending→World→Prop}{a:Act}{w:World}{b1 b2 t1 t2:Nat}{x y:Value}(c1:w.cell? ⟨b1,0,none⟩=some x)(c2:w.cell? ⟨b2,0,none⟩=some y)
 (hres:fn.results=#[.cell t1 26,.cell t2 26]) (ht1:a.tmps.getD t1 undef=.pointer (some ⟨b1,0,none⟩)) (ht2:a.tmps.getD t2 undef=.pointer (some ⟨b2,0,none⟩)) (hd:a.defers=[])
 (hR:R (.returned (.tuple #[x,y])) w):bodyPost Tryz.prog fn R .ret a w:=by
 refine bodyPost_ret (v:=.tuple #[x,y]) ?_ hd hR;have h1:a.tmps[t1]?.getD undef=.pointer (some ⟨b1,0,none⟩):=by simpa using ht1
 have h2:a.tmps[t2]?.getD undef=.pointer (some ⟨b2,0,none⟩):=by simpa using ht2
 simp [results,hres,h1,h2,go_sem,c1,c2]
section
variable {S:Int→Prop} {ov:Iv→Nat→Outc Iv} {w:World} {As Ao Ap:Option Addr} {ns cs no co np cp p:Nat} {ls:List Ln} {outs:List Int} {q:List RawI}
theorem Ab9 {bs bx bt bh br bb bf:Nat}{vx:Value}{x t h b f m c:Iv}{r:Dy}{n1 n2 n3 n4 n5 f0:Bool}{e1 e2 e3 e4 e5:Int}{A A' B B' D Ab:Option Addr}{l d l' d' j e j' e' i g nb cb:Nat}(Y:SysF S ov w As ns cs Ao no co Ap np cp p ls outs q)
 (Bs:w.heap[bs]?=some (.cells #[.slice As ns cs,.slice Ao no co,.slice Ap np cp,.int .i64 (p:Int)] 83 (0,0))) (Bx:w.heap[bx]?=some (.cells #[vx] 26 (0,0)))
 (Bt:BlkI w bt (.bool n1) (.slice A l d) (.int .i64 e1) (.bool n2) (.slice A' l' d') (.int .i64 e2)) (Bh:BlkI w bh (.bool n3) (.slice B j e) (.int .i64 e3) (.bool n4) (.slice B' j' e') (.int .i64 e4)) (Br:Blk w br (.bool n5) (.slice D i g) (.int .i64 e5))
 (Bb:w.heap[bb]?=some (.cells #[.slice Ab nb cb] 26 (0,0))) (Bf:w.heap[bf]?=some (.cells #[.bool f0] 4 (0,0))) (hne:bb≠bf)
 (It:IvC w (.agg #[.bool n1,.slice A l d,.int .i64 e1,.bool n2,.slice A' l' d',.int .i64 e2]) t) (Ih:IvC w (.agg #[.bool n3,.slice B j e,.int .i64 e3,.bool n4,.slice B' j' e',.int .i64 e4]) h) (Ir:DyR w (.agg #[.bool n5,.slice D i g,.int .i64 e5]) r.raw) (hx:IvS w vx [x.raw])
 (ox:x.Ok) (ot:t.Ok) (oh:h.Ok) (or:r.Ok) (ob:b.Ok) (of:f.Ok) (om:m.Ok) (oc:c.Ok) (hs:Jr r.raw=1) (hb:Rd x r=⟨b,0⟩) (hf:SpF ov ls outs q p t b f) (hm:Fs h f p=⟨m,0⟩) (hc:Gf x m p=⟨c,0⟩) :
 Calls Tryz.prog 187 #[.pointer (some ⟨bs,0,none⟩),.pointer (some ⟨bx,0,none⟩),.pointer (some ⟨bt,0,none⟩),.pointer (some ⟨bh,0,none⟩),.pointer (some ⟨br,0,none⟩),.pointer (some ⟨bb,0,none⟩),.pointer (some ⟨bf,0,none⟩)] w
  (fun ee w'=>ee=.returned (.tuple #[])∧KB w [bb,bf] w'∧BxS w' bb c.raw∧w'.heap[bf]?=some (.cells #[.bool (Fk c b)] 4 (0,0))):=by
 have BO:=hid (Abc Y hx It Ih Ir ox ot oh or ob of om oc hs hb hf hm hc);obtain ⟨X9,cx9,rfl,-,-⟩:=hx;have HB:=hid Bb;have HF:=hid Bf;have NE:=hid hne;obtain ⟨-,t0,t1,t2,t3,t4,t5⟩:=Bt.facts;obtain ⟨-,u0,u1,u2,u3,u4,u5⟩:=Bh.facts;obtain ⟨-,r0,r1,r2,-⟩:=Br.facts;have s0:=Ag Bs 0 _ rfl;have s1:=Ag Bs 1 _ rfl;have s2:=Ag Bs 2 _ rfl;have s3:=Ag Bs 3 _ rfl;have xx:=Ag Bx 0 _ rfl;generalize Fk c b=rb at *;clear Bs Bt Bx Bh Br Bb Bf It Ih Ir Y ox ot oh or ob of om oc hs hb hf hm hc;go_enter Tryz.func187,Tryz.ntmps187;go_wp2_with fail;refine BO.out.mono ?_
 rintro ee w1 ⟨k1,v,rfl,hv⟩;have hb1:=Aj HB.out k1;have hf1:=Aj HF.out k1;have q0:=Ag hb1 0 _ rfl;have g0:=Am hb1 0;have q1:=Ag hf1 0 _ rfl;have g1:=Am hf1 0;have KB1:=hid (((KB.refl w1 [bb,bf]).setCell (b:=bb) (i:=0) (by simp) q0 (Ak _ _ _) v));have HV:=hid (hv.word hb1 (Ak _ _ _) v);have HBB:=hid (Av (i:=0) hb1 v);have HFF:=hid (Aw (b':=bb) (i:=0) hf1 (Ne.symm NE.out) v);have K:=hid k1;obtain ⟨A9,c9,rfl,-,-⟩:=hv;clear k1 t0 t1 t2 t3 t4 t5 u0 u1 u2 u3 u4 u5 r0 r1 r2 s0 s1 s2 s3 xx hb1 hf1;have nb:=NE.out
 have nb':=Ne.symm nb;simp only [];go_wp2_with fail
 go_end0
 have q2:=Ag HFF.out 0 _ rfl;refine ⟨rfl,KB.trans (Kept.kb K.out _) (KB1.out.setCell (b:=bf) (i:=0) (by simp) q2 (An _) _) (fun y hy=>.inl hy),⟨_,Aw (i:=0) HBB.out NE.out _,HV.out.word HFF.out (An _) _⟩,Av (i:=0) HFF.out _⟩
theorem Aca {bs bx bt bh bb:Nat}{vx vb:Value}{x t h f m c c2:Iv}{n1 n2 n3 n4:Bool}{e1 e2 e3 e4:Int}{A A' B B':Option Addr}{l d l' d' j e j' e':Nat}(Y:SysF S ov w As ns cs Ao no co Ap np cp p ls outs q)
 (Bs:w.heap[bs]?=some (.cells #[.slice As ns cs,.slice Ao no co,.slice Ap np cp,.int .i64 (p:Int)] 83 (0,0))) (Bx:w.heap[bx]?=some (.cells #[vx] 26 (0,0)))
 (Bt:BlkI w bt (.bool n1) (.slice A l d) (.int .i64 e1) (.bool n2) (.slice A' l' d') (.int .i64 e2)) (Bh:BlkI w bh (.bool n3) (.slice B j e) (.int .i64 e3) (.bool n4) (.slice B' j' e') (.int .i64 e4))
 (Bb:w.heap[bb]?=some (.cells #[vb] 26 (0,0)))
 (It:IvC w (.agg #[.bool n1,.slice A l d,.int .i64 e1,.bool n2,.slice A' l' d',.int .i64 e2]) t) (Ih:IvC w (.agg #[.bool n3,.slice B j e,.int .i64 e3,.bool n4,.slice B' j' e',.int .i64 e4]) h) (hx:IvS w vx [x.raw]) (hv:IvS w vb [c.raw])
 (ox:x.Ok) (ot:t.Ok) (oh:h.Ok) (of:f.Ok) (om:m.Ok) (oc:c.Ok) (oc2:c2.Ok) (oe:(Gs c c2).Ok) (hf:SpF ov ls outs q p t c f) (hm:Fs h f p=⟨m,0⟩) (hc:Gf x m p=⟨c2,0⟩) :
 Calls Tryz.prog 189 #[.pointer (some ⟨bs,0,none⟩),.pointer (some ⟨bx,0,none⟩),.pointer (some ⟨bh,0,none⟩),.pointer (some ⟨bt,0,none⟩),.pointer (some ⟨bb,0,none⟩)] w
  (fun ee w'=>ee=.returned (.tuple #[])∧KB w [bb] w'∧BxS w' bb (Gs c c2).raw):=by
 have SP:=hid (fun w1 (k:Kept w w1)=>(Y.kept k).speeds (IvR.kept It k) (hv.kept k) ot oc hf);have MO:=hid (fun w1 (k:Kept w w1) u (hu:IvS w1 u [f.raw])=>Px (As:=As) (ns:=ns) (cs:=cs) (Ao:=Ao) (no:=no) (co:=co) (Ap:=Ap) (np:=np) (cp:=cp) (p:=p) (hx.kept k) (IvR.kept Ih k) hu ox oh of om (Y.hT.kept k) Y.p1 (Nat.le_trans Y.p2 (by decide)) hm hc);have ME:=hid (fun w1 (k:Kept w w1) u (hu:IvS w1 u [c2.raw])=>Uu (hv.kept k) hu oc oc2 oe);have HB:=hid Bb;have HS:=hid Bs;have HX:=hid Bx;have HTT:=hid Bt;have HHH:=hid Bh;obtain ⟨X9,cx9,rfl,-,-⟩:=hx;obtain ⟨V9,cv9,rfl,-,-⟩:=hv;simp only [List.length_singleton] at *
 generalize (Gs c c2).raw=re at *;generalize [c2.raw]=lc at *;generalize [f.raw]=lf at *;clear Bs Bt Bx Bh Bb It Ih Y ox ot oh of om oc oc2 oe hf hm hc;go_enter Tryz.func189,Tryz.ntmps189;go_upto_region 0 with fail
 refine rgL 9 ([(vE (.agg #[.slice As ns cs,.slice Ao no co,.slice Ap np cp,.int .i64 (p:Int)])),(vE (.slice X9 1 cx9)),(vE (.agg #[.bool n3,.slice B j e,.int .i64 e3,.bool n4,.slice B' j' e',.int .i64 e4])),(vE (.agg #[.slice As ns cs,.slice Ao no co,.slice Ap np cp,.int .i64 (p:Int)])),(vE (.agg #[.bool n1,.slice A l d,.int .i64 e1,.bool n2,.slice A' l' d',.int .i64 e2])),(vE (.slice V9 1 cv9)),(fun v wv=>IvS wv v lf),(fun v wv=>IvS wv v lc),(fun v wv=>IvS wv v lc)])
  ⟨
   (fun aF wF F=>by have s0:=F.q 0 (.pointer (some ⟨bs,0,none⟩));have c0:=Ai HS.out F.kept 0 _ rfl;have c1:=Ai HS.out F.kept 1 _ rfl;have c2:=Ai HS.out F.kept 2 _ rfl;have c3:=Ai HS.out F.kept 3 _ rfl;exact sv rfl),(gql 1 fun _ k=>Ai HX.out k 0 _ rfl),(gql 2 fun _ k=>c6 HHH.out k),(fun aF wF F=>by have s0:=F.q 0 (.pointer (some ⟨bs,0,none⟩));have c0:=Ai HS.out F.kept 0 _ rfl;have c1:=Ai HS.out F.kept 1 _ rfl;have c2:=Ai HS.out F.kept 2 _ rfl;have c3:=Ai HS.out F.kept 3 _ rfl;exact sv rfl),(gql 3 fun _ k=>c6 HTT.out k),(gql 4 fun _ k=>Ai HB.out k 0 _ rfl),(fun aF wF F=>by have s9:=F.v 3 9;have s10:=F.v 4 10;have s11:=F.v 5 11;exact Bi (by simp [Region.wanted]) (by go_simp) (SP.out _ F.kept) (fun _ _ h=>RetSi.good h) (fun _ _ h=>h)),(fun aF wF F=>by have s6:=F.v 0 6;have s7:=F.v 1 7;have s8:=F.v 2 8;have s12:=F.p 6 12;exact Bi (by simp [Region.wanted]) (by go_simp) (MO.out _ F.kept _ s12) (fun _ _ h=>RetSi.good h) (fun _ _ h=>h)),(gm 7 13),
   trivial⟩ ?_
 intro u w2 k2 hu;have p12:=hp hu 6;have p13:=hp hu 7;have p5:=hp hu 8;simp only [Bl,Au,if_true,Act.put,zlA,zlB,zlC,zlD,zlE,zlF,zlG,hv hu 0,hv hu 1,hv hu 2,hv hu 3,hv hu 4,hv hu 5];clear hu;generalize u 6=v12,u 7=v13,u 8=v5 at *;have HV2:=hid p5;obtain ⟨A2,a2,rfl,-,-⟩:=(show IvS w2 v5 lc from p5);obtain ⟨nc,hnc⟩:∃ n,lc.length=n:=⟨_,rfl⟩;rw [hnc] at HV2 ⊢;have hb2:=Aj HB.out k2;have q0:=Ag hb2 0 _ rfl;have K:=hid k2;clear hnc p12 p13 p5 k2 SP MO;go_simp;go_wp2_with fail;refine (ME.out _ K.out _ HV2.out).mono ?_;rintro _ w3 ⟨k3,v,rfl,hv⟩;have HV:=hid hv;obtain ⟨A3,a3,rfl,-,-⟩:=hv
 have hb3:=Aj hb2 k3;have HB3:=hid hb3;replace K:=hid (K.out.trans k3);clear k3 q0 hb2 hb3;simp only [];go_wp2_with fail;refine rowF_c.mono ?_;rintro ee w4 ⟨k4,hq⟩;rcases hq with ⟨-,v',rfl,rfl⟩ | ⟨h,-⟩
 ·have hb3:=Aj HB3.out k4;have q0:=Ag hb3 0 _ rfl;have g0:=Am hb3 0;have HV4:=hid ((HV.out.kept k4).word hb3 (Ak _ _ _) (.slice A3 1 a3));have HB4:=hid (Av (i:=0) hb3 (.slice A3 1 a3));have KF:=hid (KB.trans (Kept.kb (K.out.trans k4) [bb]) ((KB.refl w4 [bb]).setCell (b:=bb) (i:=0) (by simp) q0 (Ak _ _ _) (.slice A3 1 a3)) (fun y hy=>.inl hy));clear k4 hb3;simp only [];go_wp2_with fail
  go_end0
  exact ⟨rfl,KF.out,_,HB4.out,HV4.out⟩
 ·exact absurd rfl h
end
section
variable {S:Int→Prop} {ov:Iv→Nat→Outc Iv} {w:World} {As Ao Ap:Option Addr} {ns cs no co np cp p:Nat} {ls:List Ln} {outs:List Int} {q:List RawI}
structure Qz (ov:Iv→Nat→Outc Iv) (ls:List Ln) (outs:List Int) (q:List RawI) (p:Nat) (x t h f0 m0:Iv) (e:Int) (r:Dy) (b f m c f2 m2 c2 g:Iv):Prop where
 hf0:SpF ov ls outs q p t x f0
 hm0:Fs h f0 p=⟨m0,0⟩
 he:min (stK (stK (-12) m0.lo) m0.hi) 4=e
 he4:-1000≤e∧e≤4
 hr:Cr false 1 e=⟨r,0⟩
 hs:Jr r.raw=1
 hb:Rd x r=⟨b,0⟩
 hf:SpF ov ls outs q p t b f
 hm:Fs h f p=⟨m,0⟩
 hc:Gf x m p=⟨c,0⟩
 hin:Fk c b=true
 hf2:SpF ov ls outs q p t c f2
 hm2:Fs h f2 p=⟨m2,0⟩
 hc2:Gf x m2 p=⟨c2,0⟩
 hg:Gs c c2=g
 o:f0.Ok∧m0.Ok∧r.Ok∧b.Ok∧f.Ok∧m.Ok∧c.Ok∧f2.Ok∧m2.Ok∧c2.Ok∧g.Ok
theorem Afo {vx vt vh:Value}{x t h f0 m0 b f m c f2 m2 c2 g:Iv}{e:Int}{r:Dy}(Y:SysF S ov w As ns cs Ao no co Ap np cp p ls outs q)(hx:IvS w vx [x.raw])(ht:IvC w vt t)(hh:IvC w vh h)
 (ox:x.Ok) (ot:t.Ok) (oh:h.Ok) (H:Qz ov ls outs q p x t h f0 m0 e r b f m c f2 m2 c2 g) :
 Calls Tryz.prog 156 #[.agg #[.slice As ns cs,.slice Ao no co,.slice Ap np cp,.int .i64 (p:Int)],vx,vt,vh] w (RetSB [g.raw] true w):=by
 have hmf:=Es;obtain ⟨hf0,hm0,he,he4,hr,hs,hb,hf,hm,hc,hin,hf2,hm2,hc2,rfl,of0,om0,or,ob,of,om,oc,of2,om2,oc2,og⟩:=H;obtain ⟨A,l,d,A',l',d',rfl,-,-⟩:=Cc ht;obtain ⟨B,j,u,B',j',u',rfl,-,-⟩:=Cc hh;have hx2:=hx;obtain ⟨X9,cx9,rfl,-,-⟩:=hx2;simp only [List.length_singleton] at hx ⊢;have ST:=hid (fun w1 (k:Kept w w1)=>Ad7 (Y.kept k) (hx.kept k) (IvR.kept ht k) (IvR.kept hh k) ox ot oh of0 om0 hf0 hm0);have OF:=hid (fun w1 (k:Kept w w1)=>show Calls Tryz.prog 75 #[.int .i64 1,.int .i64 e] w1 (RetE ⟨r.raw,0⟩ w1) by
  have h:=Vx (w:=w1) (k:=1) (e:=e) (by decide) (by omega) (by omega) (Y.hT.kept k);rw [hr] at h;exact h)
 have H1:=hid (fun (w1:World) (k:Kept w w1) (bs bx bt bh br bb bf:Nat) (n5 f0:Bool) (e5:Int) (D Ab:Option Addr) (i g nb cb:Nat) Bs Bx Bt Bh Br Bb Bf hne Ir=>Ab9 (bs:=bs) (bx:=bx) (bt:=bt) (bh:=bh) (br:=br) (bb:=bb) (bf:=bf) (n5:=n5) (f0:=f0) (e5:=e5) (D:=D) (Ab:=Ab) (i:=i) (g:=g) (nb:=nb) (cb:=cb) (r:=r) (Y.kept k) Bs Bx Bt Bh Br Bb Bf hne (IvC.kept ht k) (IvC.kept hh k) Ir (hx.kept k) ox ot oh or ob of om oc hs hb hf hm hc);have H2:=hid (fun (w1:World) (k:Kept w w1) (bs bx bt bh bb:Nat) (vb:Value) Bs Bx Bt Bh Bb hv=>Aca (bs:=bs) (bx:=bx) (bt:=bt) (bh:=bh) (bb:=bb) (vb:=vb) (c:=c) (Y.kept k) Bs Bx Bt Bh Bb (IvC.kept ht k) (IvC.kept hh k) (hx.kept k) hv ox ot oh of2 om2 oc oc2 og hf2 hm2 hc2)
 rw [hin] at H1;have TE:=hid (show decide (e≤4)=true from decide_eq_true he4.2);have HE:=hid he;generalize stK (stK (-12) m0.lo) m0.hi=kk at *;generalize (Gs c c2).raw=rg at *;clear ht hh hx ox ot oh hf0 hm0 he he4 hr hs hb hf hm hc hin hf2 hm2 hc2 of0 om0 or ob of om oc of2 om2 oc2 og Y;generalize t.lo.neg=n1 at *;generalize t.lo.e=e1 at *;generalize t.hi.neg=n2 at *;generalize t.hi.e=e2 at *;generalize h.lo.neg=n3 at *;generalize h.lo.e=e3 at *;generalize h.hi.neg=n4 at *;generalize h.hi.e=e4 at *;obtain ⟨W,hW,kW,b0,b1,b2,b3,b4,b5⟩:=Ag0 w #[.slice As ns cs,.slice Ao no co,.slice Ap np cp,.int .i64 (p:Int)] #[.slice X9 1 cx9] #[.bool n1,.slice A l d,.int .i64 e1,.bool n2,.slice A' l' d',.int .i64 e2] #[.bool n3,.slice B j u,.int .i64 e3,.bool n4,.slice B' j' u',.int .i64 e4] #[.slice none 0 0] #[.bool false] 83 26 51 51 26 4
 have HW:=hid hW;have K:=hid kW;have B0:=hid b0;have B1:=hid b1;have B2:=hid b2;have B3:=hid b3;have B4:=hid b4;have B5:=hid b5;have s0:=Ag b0 0 _ rfl;have s1:=Ag b0 1 _ rfl;have s2:=Ag b0 2 _ rfl;have s3:=Ag b0 3 _ rfl;have xx:=Ag b1 0 _ rfl;obtain ⟨-,t0,t1,t2,t3,t4,t5⟩:=(show BlkI W _ _ _ _ _ _ _ from b2).facts;obtain ⟨-,u0,u1,u2,u3,u4,u5⟩:=(show BlkI W _ _ _ _ _ _ _ from b3).facts;clear hW kW b0 b1 b2 b3 b4 b5;go_enter Tryz.func156,Tryz.ntmps156;go_upto_region 1 with fail;rw [←HW.out];go_step3;go_wp2_with fail;go_step3;go_wp2_with fail;refine (ST.out _ K.out).mono ?_
 rintro _ w1 ⟨rfl,k1⟩;have KK1:=hid k1;replace K:=hid (K.out.trans k1);have he:=HE.out;clear k1 s0 s1 s2 s3 xx t0 t1 t2 t3 t4 t5 u0 u1 u2 u3 u4 u5 ST HW;simp only [];go_upto_region 2 with fail;refine wp_loop_rounds 3 ?_;rw [rounds_succ];have te:=TE.out;go_upto_region 4 with fail;go_wp2_with fail;refine (OF.out _ K.out).mono ?_;rintro _ w2 ⟨k2,v,rfl,hv⟩;replace K:=hid (K.out.trans k2);replace KK1:=hid (KK1.out.trans k2);clear k2 OF;simp only [];go_wp2_with fail;refine (Xa (d:=r) hv).mono ?_;rintro ee w3 ⟨k3,hq⟩;rcases hq with ⟨-,v',rfl,hv'⟩ | ⟨hbad,-⟩
 rotate_left
 ·exact absurd rfl hbad
 clear hv;replace K:=hid (K.out.trans k3);replace KK1:=hid (KK1.out.trans k3);have lbr:=KK1.out.size;obtain ⟨D,i,g,rfl,hD⟩:=Bu hv';obtain ⟨V,hV,kV,hb,lV⟩:=Kg w3 (.bool r.neg) (.slice D i g) (.int .i64 r.e);have HV:=hid hV;have RV:=hid (hD.kept kV);replace K:=hid (K.out.trans kV);replace KK1:=hid (KK1.out.trans kV);have BR:=hid hb;clear hV hv' hD k3 kV hb;simp only [];go_upto_region 5 with fail;rw [←HV.out];generalize w3.heap.size=br at *;clear he HV;have sz:=(Array.getElem?_eq_some_iff.1 B5.out).1;have szV:=KK1.out.size;have LBR:=hid lbr;have SZ:=hid sz;have SZV:=hid szV;clear lbr sz szV lV
 go_wp2_with fail;refine (Kv (w:=V) (R:=fun w1 w2=>KB w1 [w.heap.size+1+1+1+1,w.heap.size+1+1+1+1+1] w2∧BxS w2 (w.heap.size+1+1+1+1) c.raw∧w2.heap[w.heap.size+1+1+1+1+1]?=some (.cells #[.bool true] 4 (0,0))) (fun z1 ez=>?_) (fun _=>rfl)).mono ?_
 ·have kz:Kept V z1:=ez▸Ad _ _;refine (H1.out z1 (K.out.trans kz) _ _ _ _ _ _ _ _ _ _ _ _ _ _ _ _ (Aj B0.out (KK1.out.trans kz)) (Aj B1.out (KK1.out.trans kz)) (BlkI.kept B2.out (KK1.out.trans kz)) (BlkI.kept B3.out (KK1.out.trans kz)) (BR.out.kept kz) (Aj B4.out (KK1.out.trans kz)) (Aj B5.out (KK1.out.trans kz)) (by omega) (RV.out.kept kz)).mono ?_;rintro ee z2 ⟨rfl,kb,hbx,hbf⟩;exact ⟨rfl,⟨kb,hbx,hbf⟩,.bool false,kb.blk (by rw [ez];exact heap_alloc_new _ _) (by have:=SZ.out;have:=SZV.out;simp only [List.mem_cons,List.not_mem_nil,or_false];omega)⟩
 rintro ee w5 ⟨rfl,tr⟩;obtain ⟨w4,kb,⟨hbx,hbf⟩,kb2,hV4⟩:=TrR.kb (P:=fun w2=>BxS w2 (w.heap.size+1+1+1+1) c.raw∧w2.heap[w.heap.size+1+1+1+1+1]?=some (.cells #[.bool true] 4 (0,0))) tr (An _) (by have:=SZ.out;have:=SZV.out;intro b hb;simp only [List.mem_cons,List.not_mem_nil,or_false] at hb;omega);have nV:∀ n,n<W.heap.size→n∉[V.heap.size]:=by have:=SZV.out;intro n hn;simp only [List.mem_cons,List.not_mem_nil,or_false];omega
 have s5:=SZ.out;have X5:=hid (hbx.kb kb2 (nV _ (by omega)) (Lx hV4));have F5:=hid (kb2.blk hbf (nV _ (by omega)));have K5:=hid (Jm K.out kb kb2 (by intro b hb;simp only [List.mem_cons,List.not_mem_nil,or_false] at hb;omega) (by have:=K.out.size;exact this));have N0:∀ n,n≤w.heap.size+1+1+1→n∉[w.heap.size+1+1+1+1,w.heap.size+1+1+1+1+1]:=by intro n hn;simp only [List.mem_cons,List.not_mem_nil,or_false];omega
 replace B0:=hid (kb2.blk (kb.blk (Aj B0.out KK1.out) (N0 _ (by omega))) (nV _ (by omega)));replace B1:=hid (kb2.blk (kb.blk (Aj B1.out KK1.out) (N0 _ (by omega))) (nV _ (by omega)));replace B2:=hid (kb2.blk (kb.blk (Aj B2.out KK1.out) (N0 _ (by omega))) (nV _ (by omega)));replace B3:=hid (kb2.blk (kb.blk (Aj B3.out KK1.out) (N0 _ (by omega))) (nV _ (by omega)));have SZ5:=hid (show W.heap.size≤w5.heap.size by have:=kb.size;have:=kb2.size;have:=SZV.out;omega);clear tr kb hbx hbf kb2 hV4 nV s5 N0 K KK1 RV BR B4 B5 LBR SZV H1;obtain ⟨vb,hvb,ivb⟩:=X5.out;have f0:=Ag F5.out 0 _ rfl
 simp only [];go_wp2_with fail;refine (Kv (w:=w5) (R:=fun w1 w2=>KB w1 [w.heap.size+1+1+1+1] w2∧BxS w2 (w.heap.size+1+1+1+1) rg) (fun z1 ez=>?_) (fun _=>rfl)).mono ?_
 ·have kz:Kept w5 z1:=ez▸Ad _ _;refine (H2.out z1 (K5.out.trans kz) _ _ _ _ _ _ (Aj B0.out kz) (Aj B1.out kz) (BlkI.kept B2.out kz) (BlkI.kept B3.out kz) (Aj hvb kz) (ivb.kept kz)).mono ?_;rintro ee z2 ⟨rfl,kb,hbx⟩;exact ⟨rfl,⟨kb,hbx⟩,.bool false,kb.blk (by rw [ez];exact heap_alloc_new _ _) (by have:=SZ.out;have:=SZ5.out;simp only [List.mem_cons,List.not_mem_nil,or_false];omega)⟩
 rintro ee w7 ⟨rfl,tr⟩;obtain ⟨w6,kb,hbx,kb2,hV6⟩:=TrR.kb (P:=fun w2=>BxS w2 (w.heap.size+1+1+1+1) rg) tr (An _) (by have:=SZ.out;have:=SZ5.out;intro b hb;simp only [List.mem_cons,List.not_mem_nil,or_false] at hb;omega);have nV:∀ n,n<W.heap.size→n∉[w5.heap.size]:=by have:=SZ5.out;intro n hn;simp only [List.mem_cons,List.not_mem_nil,or_false];omega
 have s5:=SZ.out;have X7:=hid (hbx.kb kb2 (nV _ (by omega)) (Lx hV6));have F7:=hid (kb2.blk (kb.blk F5.out (by simp)) (nV _ (by omega)));have K7:=hid (Jm K5.out kb kb2 (by intro b hb;simp only [List.mem_cons,List.not_mem_nil,or_false] at hb;omega) (by have:=K5.out.size;exact this));clear tr kb hbx kb2 hV6 nV s5 K5 B0 B1 B2 B3 hvb ivb f0 X5 F5 SZ5 SZ H2;obtain ⟨vb',hvb,ivb⟩:=X7.out;obtain ⟨A9,c9,rfl,-,-⟩:=(show IvS w7 vb' [rg] from ivb);simp only [List.length_singleton] at hvb ivb;have HVB:=hid hvb;have IVB:=hid ivb;have x0:w7.cell? ⟨w.heap.size+1+1+1+1,0,none⟩=some (.slice A9 1 c9):=Ag hvb 0 _ rfl
 have f0:w7.cell? ⟨w.heap.size+1+1+1+1+1,0,none⟩=some (.bool true):=Ag F7.out 0 _ rfl;have fx:=Am hvb 0;have ff:=Am F7.out 0;clear hvb ivb X7;simp only [];go_wp2_with fail;go_region;have h1:=Av (i:=0) HVB.out (.slice A9 1 c9);have h2:=Aw (b':=w.heap.size+1+1+1+1) (i:=0) F7.out (by omega) (.slice A9 1 c9);have i1:=IVB.out.word HVB.out (Ak _ _ _) (.slice A9 1 c9);have i2:=i1.word h2 (An _) (.bool true);have h3:=Aw (b':=w.heap.size+1+1+1+1+1) (i:=0) h1 (by omega) (.bool true);have h4:=Av (i:=0) h2 (.bool true)
 have k9:Kept w (((w7.setCell ⟨w.heap.size+1+1+1+1,0,none⟩ (.slice A9 1 c9)).setCell ⟨w.heap.size+1+1+1+1+1,0,none⟩ (.bool true)).drew) :=
  ((K7.out.setCell (p:=⟨w.heap.size+1+1+1+1,0,none⟩) (by simp;omega) _).setCell (p:=⟨w.heap.size+1+1+1+1+1,0,none⟩) (by simp;omega) _).drew
 have i9:=i2.kept ((Below.refl _ _).drew);have c1:=Ag (w:=((w7.setCell ⟨w.heap.size+1+1+1+1,0,none⟩ (.slice A9 1 c9)).setCell ⟨w.heap.size+1+1+1+1+1,0,none⟩ (.bool true)).drew) h3 0 _ rfl;have c2:=Ag (w:=((w7.setCell ⟨w.heap.size+1+1+1+1,0,none⟩ (.slice A9 1 c9)).setCell ⟨w.heap.size+1+1+1+1+1,0,none⟩ (.bool true)).drew) h4 0 _ rfl;have C1:=hid c1;have C2:=hid c2;have K9:=hid k9;have I9:=hid i9;clear h1 h2 h3 h4 i1 i2 i9 k9 c1 c2 x0 f0 fx ff K7 F7 HVB IVB;generalize ((w7.setCell ⟨w.heap.size+1+1+1+1,0,none⟩ (.slice A9 1 c9)).setCell ⟨w.heap.size+1+1+1+1+1,0,none⟩ (.bool true)).drew=w9 at *
 go_wp2_with fail;exact Aie C1.out C2.out rfl rfl rfl rfl ⟨K9.out,_,rfl,I9.out⟩
end
section
variable {S:Int→Prop} {ov:Iv→Nat→Outc Iv} {w:World} {As Ao Ap:Option Addr} {ns cs no co np cp p:Nat} {ls:List Ln} {outs:List Int} {q:List RawI}
theorem Sh {w w1:World}{b o:Nat}{x:Value}(k:Kept w w1)(h:w.cell? ⟨b,o,none⟩=some x):w1.cell? ⟨b,o,none⟩=some x:=(k.cell (p:=⟨b,o,none⟩) (Bg h)).trans h
structure Zd (p:Nat) (l m:List RawI) (h:Iv) (y g:Nat→Iv):Prop where
 ll:l.length=4
 lm:m.length=5
 gl:∀ k,k<4→(gI l k).Ok∧(gI l k).raw=l.getD k rzI
 last:(y 4).raw=m.getD 4 rzI
 mul:∀ k,k<4→Fs h (y (k+1)) p=⟨g k,0⟩
 add:∀ k,k<4→Gf (gI l k) (g k) p=⟨y k,0⟩
 oy:∀ k,k<5→(y k).Ok
 og:∀ k,k<4→(g k).Ok
theorem Aaj {vx vb vt vo vh:Value}{h:Iv}{l m:List RawI}{y g:Nat→Iv}{n1 n2 n3 n4 n5 n6:Bool}{e1 e2 e3 e4 e5 e6:Int}{A A' B B' D D' X Z:Option Addr}{a1 a2 a3 a4 b1 b2 b3 b4 d1 d2 d3 d4 x1 x2 z1 z2:Nat}(hT:Tab w)(p1:1≤p)(p2:p≤300)
 (et:vt=.agg #[.bool n1,.slice A a1 a2,.int .i64 e1,.bool n2,.slice A' a3 a4,.int .i64 e2]) (eo:vo=.agg #[.bool n3,.slice B b1 b2,.int .i64 e3,.bool n4,.slice B' b3 b4,.int .i64 e4]) (eh:vh=.agg #[.bool n5,.slice D d1 d2,.int .i64 e5,.bool n6,.slice D' d3 d4,.int .i64 e6])
 (ex:vx=.slice X x1 x2) (eb:vb=.slice Z z1 z2)
 (S1:∀ w1,Kept w w1→Calls Tryz.prog 191 #[.agg #[.slice As ns cs,.slice Ao no co],vt,vx,.slice Ap np cp,.int .i64 3,.int .i64 (p:Int)] w1 (O6 ⟨[l],0⟩ w1))
 (S2:∀ w1,Kept w w1→Calls Tryz.prog 191 #[.agg #[.slice As ns cs,.slice Ao no co],vo,vb,.slice Ap np cp,.int .i64 4,.int .i64 (p:Int)] w1 (O6 ⟨[m],0⟩ w1))
 (hh:IvC w vh h) (oh:h.Ok) (H:Zd p l m h y g) :
 Calls Tryz.prog 160 #[.agg #[.slice As ns cs,.slice Ao no co,.slice Ap np cp,.int .i64 (p:Int)],vx,vb,vt,vo,vh] w (RetSi [(y 0).raw] w):=by
 subst et eo eh ex eb;have C1:=hid S1;have C2:=hid S2;have MU:=hid (fun w1 (k:Kept w w1) (i:Nat) (hi:i<4) u (hu:IvR w1 u (y (i+1)).raw)=>show Calls Tryz.prog 142 _ w1 (RetIE ⟨(g i).raw,0⟩ w1) by have h:=Aa1 (a:=h) (b:=y (i+1)) (IvR.kept hh k) hu oh (H.oy _ (by omega)) (hT.kept k) p1 (Nat.le_trans p2 (by decide));rw [H.mul i hi] at h;exact h);have AD:=hid (fun w1 (k:Kept w w1) (i:Nat) (hi:i<4) u v (hu:IvR w1 u (l.getD i rzI)) (hv:IvR w1 v (g i).raw)=>show Calls Tryz.prog 178 #[u,v,.int .i64 (p:Int)] w1 (RetIE ⟨(y i).raw,0⟩ w1) by
  have h:=Agu (a:=gI l i) (b:=g i) (by rw [←(H.gl i hi).2] at hu;exact hu) hv (H.gl i hi).1 (H.og i hi) (hT.kept k) p1 (Nat.le_trans p2 (by decide));rw [H.add i hi] at h;exact h)
 have LL:=hid H.ll;have LM:=hid H.lm;have LAST:=hid H.last;obtain ⟨W,hW,kW,h0,h1,h2,h3,-⟩:=Q6 w #[.slice As ns cs,.slice Ao no co,.slice Ap np cp,.int .i64 (p:Int)] #[.bool n1,.slice A a1 a2,.int .i64 e1,.bool n2,.slice A' a3 a4,.int .i64 e2] #[.bool n3,.slice B b1 b2,.int .i64 e3,.bool n4,.slice B' b3 b4,.int .i64 e4] #[.bool n5,.slice D d1 d2,.int .i64 e5,.bool n6,.slice D' d3 d4,.int .i64 e6] 83 51 51 51;have HW:=hid hW;have K:=hid kW;have s0:=Ag h0 0 _ rfl;have s1:=Ag h0 1 _ rfl;have s2:=Ag h0 2 _ rfl;have s3:=Ag h0 3 _ rfl;obtain ⟨-,t0,t1,t2,t3,t4,t5⟩:=(show BlkI W _ _ _ _ _ _ _ from h1).facts
 have H0:=hid h0;have H2:=hid (show BlkI W _ _ _ _ _ _ _ from h2);have H3:=hid (show BlkI W _ _ _ _ _ _ _ from h3);clear S1 S2 hh oh H hT p1 p2 hW kW h0 h1 h2 h3;go_enter Tryz.func160,Tryz.ntmps160;go_upto_region 1 with fail;rw [←HW.out];clear HW;go_wp2_with fail;refine (C1.out _ K.out).mono ?_;rintro ee w1 ⟨k1,v,rfl,hv⟩;obtain ⟨bA,oA,cA,sA,rfl,hcA,cellA,rA⟩:=hv.row (i:=0) (by simp);replace K:=hid (K.out.trans k1);replace H0:=hid (Aj H0.out k1);replace H2:=hid (H2.out.kept k1);replace H3:=hid (H3.out.kept k1);simp only [List.length_singleton,Nat.add_zero,List.getD_cons_zero] at cellA rA ⊢
 have CA:=hid cellA;have RA:=hid rA;clear hv k1 s0 s1 s2 s3 t0 t1 t2 t3 t4 t5 cellA rA hcA C1;go_wp2_with fail;refine (F6 0 _).mono ?_;rintro ee w2 ⟨rfl,k1⟩;replace K:=hid (K.out.trans k1);replace H0:=hid (Aj H0.out k1);replace H2:=hid (H2.out.kept k1);replace H3:=hid (H3.out.kept k1);replace CA:=hid (Sh k1 CA.out);replace RA:=hid (RA.out.kept k1);have s0:=Ag H0.out 0 _ rfl;have s1:=Ag H0.out 1 _ rfl;have s2:=Ag H0.out 2 _ rfl;have s3:=Ag H0.out 3 _ rfl;obtain ⟨-,t0,t1,t2,t3,t4,t5⟩:=H2.out.facts;clear k1;simp only [];go_wp2_with fail
 refine (C2.out _ K.out).mono ?_;rintro ee w3 ⟨k1,v,rfl,hv⟩;obtain ⟨bB,oB,cB,sB,rfl,hcB,cellB,rB⟩:=hv.row (i:=0) (by simp);replace K:=hid (K.out.trans k1);replace H0:=hid (Aj H0.out k1);replace H3:=hid (H3.out.kept k1);replace CA:=hid (Sh k1 CA.out);replace RA:=hid (RA.out.kept k1);simp only [List.length_singleton,Nat.add_zero,List.getD_cons_zero] at cellB rB ⊢;have CB:=hid cellB;have RB:=hid rB;clear hv k1 s0 s1 s2 s3 t0 t1 t2 t3 t4 t5 cellB rB hcB C2 H2;go_wp2_with fail;refine (F6 0 _).mono ?_;rintro ee w4 ⟨rfl,k1⟩;replace K:=hid (K.out.trans k1);replace H0:=hid (Aj H0.out k1)
 replace H3:=hid (H3.out.kept k1);replace CA:=hid (Sh k1 CA.out);replace RA:=hid (RA.out.kept k1);replace CB:=hid (Sh k1 CB.out);replace RB:=hid (RB.out.kept k1);clear k1;simp only [];go_upto_region 7 with fail;refine wp_loop_rounds 3 ?_;rw [rounds_succ];obtain ⟨AL,cl,rfl,-,hL⟩:=RA.out;obtain ⟨bl,ol,rfl,hL2⟩:=hL (by have:=LL.out;omega);obtain ⟨AM,cm,rfl,-,hM⟩:=RB.out;obtain ⟨bm,om,rfl,hM2⟩:=hM (by have:=LM.out;omega);have ll:=LL.out;have lm:=LM.out;rw [ll] at CA RA;rw [lm] at CB RB;have HLL:=hid hL2;obtain ⟨y0,y1,y2,y3,y4,y5,g0,g1,g2,g3,g4,g5,hI⟩:=hM2 4 (m.getD 4 rzI) (by rw [List.getD_eq_getElem?_getD,List.getElem?_eq_getElem (by omega)];rfl)
 obtain ⟨P1,i1,j1,P2,i2,j2,ei,d1,d2⟩:=Ar hI;injection ei with ei;injection ei with ei
 simp only [List.cons.injEq,and_true] at ei;obtain ⟨rfl,rfl,rfl,rfl,rfl,rfl⟩:=ei;have ca:=CA.out;have cb:=CB.out;clear hL hM hL2 hM2 ll lm RB;generalize m.getD 4 rzI=r4 at *;obtain ⟨V,hV,kV,hb,lV⟩:=N4 w4 (.bool r4.lo.neg) (.slice P1 i1 j1) (.int .i64 r4.lo.e) (.bool r4.hi.neg) (.slice P2 i2 j2) (.int .i64 r4.hi.e);have HV:=hid hV;have IV:=hid (show IvR V (.agg #[.bool r4.lo.neg,.slice P1 i1 j1,.int .i64 r4.lo.e,.bool r4.hi.neg,.slice P2 i2 j2,.int .i64 r4.hi.e]) (y 4).raw from LAST.out.symm▸hI.kept kV);have lb:=K.out.size;have lh:=(Array.getElem?_eq_some_iff.1 H3.out).1;have lbl:bl<w4.heap.size:=by
  obtain ⟨_,_,_,_,_,_,c0,-⟩:=HLL.out 0 _ (List.getElem?_eq_getElem (by have:=LL.out;omega));exact Bg c0
 replace K:=hid (K.out.trans kV);replace H0:=hid (Aj H0.out kV);replace H3:=hid (H3.out.kept kV);replace HLL:=hid (fun i a hi=>(HLL.out i a hi).kept kV);have HB:=hid hb;clear hV hI d1 d2 kV hb;go_upto_region 11 with fail;rw [←HV.out];clear g0 g1 g2 g3 g4 g5 ca cb HV CA CB;generalize w4.heap.size=by' at *
 have BV:=hid (show BlkIv V by' (y 4) by
  have e:=LAST.out;obtain ⟨P,b1,c1,P',b2,c2,e9,z1,z2⟩:=Cc (a:=y 4) IV.out;simp only [Value.agg.injEq,Array.mk.injEq,List.cons.injEq,and_true] at e9;obtain ⟨h1,h2,h3,h4,h5,h6⟩:=e9;refine ⟨P,b1,c1,P',b2,c2,?_,z1,z2⟩;rw [←h1,←h2,←h3,←h4,←h5,←h6];exact HB.out)
 have HN:=hid (And.intro lh (And.intro lb lbl));clear lh lb lbl HB IV LAST LM RA lV;generalize r4.lo.neg=q1 at *;generalize r4.lo.e=q2 at *;generalize r4.hi.neg=q3 at *;generalize r4.hi.e=q4 at *
 go_loopw [20] (fun t wr=>∃ j:Nat,j≤4∧((t=.int .i64 (-1)∧j=0)∨∃ k:Nat,j=k+1∧t=.int .i64 (k:Int))∧KB V [by'] wr∧BlkIv wr by' (y j)) (fun t _=>(intOf t+1).toNat)
 case atStart=>exact ⟨4,Nat.le_refl _,.inr ⟨3,rfl,rfl⟩,KB.refl _ _,BV.out⟩
 case round =>
  obtain ⟨j,hj,hcase,hkb,hbl⟩:=hrel;have KBR:=hid hkb;have BLR:=hid hbl;have KR:=hid (KB.kept K.out hkb (by intro x hx;simp only [List.mem_singleton] at hx;subst hx;exact HN.out.2.1));have H0R:=hid (hkb.blk H0.out (by simp only [List.mem_singleton];have:=HN.out.1;omega));have H3R:=hid (H3.out.kb hkb (by simp only [List.mem_singleton];have:=HN.out.1;omega));have HLR:=hid (fun i a hi=>(HLL.out i a hi).kb hkb (by simp only [List.mem_singleton];have:=HN.out.2.2;omega));clear hkb hbl;rcases hcase with ⟨rfl,rfl⟩ | ⟨k,rfl,rfl⟩
  ·obtain ⟨P,b1,c1,P',b2,c2,hbY,z1,z2⟩:=BLR.out;obtain ⟨-,r0,r1,r2,r3,r4,r5⟩:=hbY.facts;have ZY:=hid (show IvR wr (.agg #[.bool (y 0).lo.neg,.slice P b1 c1,.int .i64 (y 0).lo.e,.bool (y 0).hi.neg,.slice P' b2 c2,.int .i64 (y 0).hi.e]) (y 0).raw from ⟨_,_,_,_,_,_,rfl,z1,z2⟩);have lb:w.heap.size≤wr.heap.size:=KR.out.size;clear hbY z1 z2 hj BLR
   go_wp2_with (at_builtin;refine Dp rfl (.tmp 88) (.tmp 90) rfl rfl (OwnI.nil _ w.heap.size) (ZY.out.kept (Ad _ _)) (Cv _ _ _ _ _ _ _) rfl (by simp) (Nat.le_trans lb (by simp)) ?_;intro v' X' OX' gX')
   have K':=hid (OwnI.grown_kept (OwnI.nil _ w.heap.size) (KR.out.trans (Ad _ _)) gX');have OX:=hid OX'.ivS;clear gX' OX' r0 r1 r2 r3 r4 r5;go_wp2_with fail;rw [rounds_succ];go_wp2_with fail;obtain ⟨A9,c9,rfl,-,-⟩:=OX.out;go_ret;exact ⟨K'.out,_,rfl,OX.out⟩
  ·have hk:k<4:=by omega
   have tk:decide ((0:Int)≤(k:Int))=true:=decide_eq_true (by omega);have k4:¬(4:Int)≤(k:Int):=by omega
   have HK:=hid hk;obtain ⟨P,b1,c1,P',b2,c2,hbY,z1,z2⟩:=BLR.out;have HBY:=hid hbY;have ZY:=hid (show IvR wr (.agg #[.bool (y (k+1)).lo.neg,.slice P b1 c1,.int .i64 (y (k+1)).lo.e,.bool (y (k+1)).hi.neg,.slice P' b2 c2,.int .i64 (y (k+1)).hi.e]) (y (k+1)).raw from ⟨_,_,_,_,_,_,rfl,z1,z2⟩);clear hbY z1 z2 hj BLR;generalize (y (k+1)).lo.neg=m1 at *;generalize (y (k+1)).lo.e=m2 at *;generalize (y (k+1)).hi.neg=m3 at *;generalize (y (k+1)).hi.e=m4 at *;go_upto_region 13 with fail
   refine Nb 18 ([(vE (.slice (some ⟨bl,ol,none⟩) 4 cl)),(vE (.int .i64 (k:Int))),(vE (.pointer (some ⟨bl,ol+k*6,none⟩))),(fun v wv=>IvR wv v (l.getD k rzI)),(vE (.agg #[.bool n5,.slice D d1 d2,.int .i64 e5,.bool n6,.slice D' d3 d4,.int .i64 e6])),(vE (.agg #[.bool m1,.slice P b1 c1,.int .i64 m2,.bool m3,.slice P' b2 c2,.int .i64 m4])),(vP w.heap.size 3),(vE (.int .i64 (p:Int))),(fun v wv=>∃ d,v=.tuple #[d,.int .i64 (Outc.mk (g k).raw 0).k]∧IvR wv d (Outc.mk (g k).raw 0).v),(fun v wv=>IvR wv v (Outc.mk (g k).raw 0).v),(vE (.int .i64 (Outc.mk (g k).raw 0).k)),(fun v wv=>IvR wv v ((g k).raw)),(vP w.heap.size 3),(vE (.int .i64 (p:Int))),(fun v wv=>∃ d,v=.tuple #[d,.int .i64 (Outc.mk (y k).raw 0).k]∧IvR wv d (Outc.mk (y k).raw 0).v),(fun v wv=>IvR wv v (Outc.mk (y k).raw 0).v),(vE (.int .i64 (Outc.mk (y k).raw 0).k)),(fun v wv=>IvR wv v ((y k).raw))])
    ⟨
     (gq 18),(gq 20),(gvv 0 70 1 71),(fun aF wF F=>by have s72:=F.v 2 72;obtain ⟨xx,yy,zz,xx',yy',zz',h0,h1,h2,h3,h4,h5,hI⟩:=((HLR.out k (l.getD k rzI) (by rw [List.getD_eq_getElem?_getD,List.getElem?_eq_getElem (by have:=LL.out;have:=HK.out;omega)];rfl)).kept F.kept);exact sv hI),(gql 11 fun _ k=>c6 H3R.out k),(gql 19 fun _ k=>c6 HBY.out k),(gq 6),(gvl 6 76 fun _ k=>Ai H0R.out k 3 _ rfl),(fun aF wF F=>by have s74:=F.v 4 74;have s75:=F.v 5 75;have s77:=F.v 7 77;exact sP (MU.out _ (KR.out.trans F.kept) k HK.out _ (ZY.out.kept F.kept)) fun _ _ h=>h),(fun aF wF F=>by have s78:=F.p 8 78;obtain ⟨dd,ee,hh⟩:=s78;exact sv hh),(fun aF wF F=>by have s78:=F.p 8 78;exact sw (by obtain ⟨dd,ee,hh⟩:=s78;go_simp) rfl),(fun aF wF F=>by have s79:=F.p 9 79;have s80:=F.v 10 80;exact sI (P5 s79) fun _ _ h=>h),(gq 6),(gvl 12 82 fun _ k=>Ai H0R.out k 3 _ rfl),(fun aF wF F=>by have s73:=F.p 3 73;have s81:=F.p 11 81;have s83:=F.v 13 83;exact sP (AD.out _ (KR.out.trans F.kept) k HK.out _ _ s73 s81) fun _ _ h=>h),(fun aF wF F=>by have s84:=F.p 14 84;obtain ⟨dd,ee,hh⟩:=s84;exact sv hh),(fun aF wF F=>by have s84:=F.p 14 84;exact sw (by obtain ⟨dd,ee,hh⟩:=s84;go_simp) rfl),(fun aF wF F=>by have s85:=F.p 15 85;have s86:=F.v 16 86;exact sI (P5 s85) fun _ _ h=>h),
     trivial⟩ ?_
   intro u w6 k6 hu;have p73:=hp hu 3;have p78:=hp hu 8;have p79:=hp hu 9;have p81:=hp hu 11;have p84:=hp hu 14;have p85:=hp hu 15;have p87:=hp hu 17;simp only [Bl,Au,if_true,Act.put,zlA,zlB,zlC,zlD,zlE,zlF,zlG,hv hu 0,hv hu 1,hv hu 2,hv hu 4,hv hu 5,hv hu 6,hv hu 7,hv hu 10,hv hu 12,hv hu 13,hv hu 16];clear hu;generalize u 3=v73,u 8=v78,u 9=v79,u 11=v81,u 14=v84,u 15=v85,u 17=v87 at *;obtain ⟨Q,ql,qc,Q',ql',qc',rfl,z1,z2⟩:=Cc (a:=y k) p87;have hB:=HBY.out.kept k6;obtain ⟨-,r0,r1,r2,r3,r4,r5⟩:=hB.facts;obtain ⟨f0,f1,f2,f3,f4,f5⟩:=hB.free;have KX:=hid ((KBR.out.step k6).ivW hB (by simp) (.bool (y k).lo.neg) (.slice Q ql qc) (.int .i64 (y k).lo.e) (.bool (y k).hi.neg) (.slice Q' ql' qc') (.int .i64 (y k).hi.e))
   have XS:=hid (BlkIv.store hB z1 z2);clear p73 p78 p79 p81 p84 p85 p87 z1 z2 k6 hB;go_simp;go_upto_region 12 with fail;change Code.wp _ _ _ _ (ivW w6 by' _ _ _ _ _ _);generalize ivW w6 by' _ _ _ _ _ _=X9 at *
   clear r0 r1 r2 r3 r4 r5 f0 f1 f2 f3 f4 f5 tk k4;go_wp2_with fail;go_roundw
   case rel =>
    refine ⟨k,by omega,?_,KX.out,XS.out⟩;rcases k with _ | k
    ·exact .inl ⟨by go_num,rfl⟩
    ·exact .inr ⟨k,rfl,by go_num⟩
   case measure=>simp only [intOf];omega
end
end Go.Proofs.YtmgaloopddiekaaGreatDoor
